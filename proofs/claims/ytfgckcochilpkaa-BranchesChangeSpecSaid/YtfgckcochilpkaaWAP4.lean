/- Texts of one proof, put together: BranB, BranC, BranD, BranE, BranF, BranH. -/
import Derived.Test.YtfgckcochilpkaaRows
import Derived.Test.YtfgckcochilpkaaWAP3
/- Branches' walks: facts of a branch. -/
set_option linter.unusedVariables false
set_option maxRecDepth 100000
set_option maxHeartbeats 4000000
set_option linter.unusedSimpArgs false
namespace Go.Proofs.Ytfgckcochilpkaa
open Go Go.Eng

def RRec (w : World) (r : Value) (x : List Fct × Int) : Prop := ∃ (p : Option Addr) (A : Addr) (c : Nat), r = .tuple #[.slice p x.1.length c, .int .i64 x.2] ∧ SlV fc w p A x.1 c

theorem record_at (l : List Fct) (cs : List Cr) (p q : Option Addr) (A B : Addr) (c d : Nat) (w : World) (hs : SlV fc w p A l c) (hc : SlV cc w q B cs d) (hk : checkL l = 0) (hl : l.length + cs.length ≤ 1000000) :
    Calls Try.prog 44 #[.slice p l.length c, .slice q cs.length d] w (Ret fun r w' => Ext [] w w' ∧ RRec w' r (recL l cs)) := by
  have hpc := hc.ptr
  have hrc := hc.row
  have hfc := hc.few
  refine calls_of_Sx (args := [.slice p l.length c, .slice q cs.length d]) Try.func44 rfl rfl ?_
  refine ztx ?_
  refine Ox.pure rfl rfl zas ?_
  refine Ox.pure rfl rfl zas ?_
  refine Ox.fin ?_
  refine ztx ?_
  refine Ox.pure rfl rfl zmv ?_
  refine Ox.pure rfl rfl (rp_lenS rfl rfl rfl) ?_
  refine Ox.pure rfl rfl zmv ?_
  refine Ox.fin ?_
  refine zbl ?_
  refine Sx.loop (ι := Nat × List Fct × Option Addr × Addr × Nat) (fun i E wr => E = [(0, .slice i.2.2.1 i.2.1.length i.2.2.2.2), (9, .slice q cs.length d), (10, .int .i64 (cs.length : Int)), (11, .int .i64 (i.1 : Int))] ∧ i.1 ≤ cs.length ∧ Ext [] w wr ∧ SlV fc wr i.2.2.1 i.2.2.2.1 i.2.1 i.2.2.2.2 ∧ i.2.1.length ≤ l.length + i.1 ∧ checkL i.2.1 = 0 ∧ recL l cs = recL i.2.1 (cs.drop i.1)) (fun i => cs.length - i.1) (0, l, p, A, c)
    (sub_cons rfl (sub_cons rfl (sub_cons rfl (sub_cons rfl sub_nil)))) ⟨rfl, Nat.zero_le _, zxc, hs, Nat.le_refl _, hk, by dsimp only; rw [List.drop_zero]⟩ ?_
  rintro ⟨i, li, p1, A1, c1⟩ E wr ⟨rfl, hi, er, hs1, hlen, hck, hall⟩
  dsimp only at hi hs1 hlen hck hall ⊢
  have hz := er.size
  by_cases hlt : i < cs.length
  · have hat := rowsV_at cc_len hlt
    have hl6 := cc_len cs[i]
    have hp1 := hs1.ptr
    have hr1 := hs1.row
    have hf1 := hs1.few
    rw [List.drop_eq_getElem_cons hlt, recL_cons] at hall
    have hle := addL_len li (chF cs[i] (nextK li))
    refine ztx ?_
    refine Ox.pure rfl rfl zbc ?_
    refine Ox.fin ?_
    refine zct ?_
    refine zsk ?_
    refine zbl ?_
    refine ztx ?_
    refine Ox.pure rfl rfl zix ?_
    refine Ox.val rfl rfl zra ?_
    refine Ox.act rfl rfl (acts_alloc rfl rfl) ?_
    rintro val wal ⟨eal, bal, rfl, hbal, hBal⟩
    first | (have hCal : Cells wal ⟨bal, 0, none⟩ [_, _, _, _, _, _] := hBal.cells) | have hCal := Blk.cellsL hBal
    have hlal := hBal.lt
    have hzal := eal.size
    refine Ox.act rfl rfl (acts_store_all rfl rfl rfl hBal rfl (by first | rfl | assumption) (by first | rfl | assumption) (by (first | assumption | exact List.all_eq_true.mp rfl | simp [Value.cells, Value.oneCell']))) ?_
    rintro vst wst ⟨rfl, qst, hBst⟩
    have est := Ext.renew eal qst hbal
    have hzst := est.size
    have hlst := hBst.lt
    first | (have hCst : Cells wst ⟨bal, 0, none⟩ [_, _, _, _, _, _] := hBst.cells) | have hCst := Blk.cellsL hBst
    refine Ox.fin ?_
    refine ztx ?_
    refine Ox.pure rfl rfl zas ?_
    refine Ox.fin ?_
    refine Sx.seq (Sx.upto (fun E' w' => (∀ t u, get [(0, .slice p1 li.length c1), (9, .slice q cs.length d), (10, .int .i64 (cs.length : Int)), (11, .int .i64 (i : Int)), (7, .pointer (some ⟨bal, 0, none⟩)), (8, .int .i64 (nextK li))] t = some u → get E' t = some u) ∧ Ext [] wst w') ?_ ?_)
    · rcases Nat.eq_zero_or_pos li.length with h0 | h0
      · have hn0 : nextK li = 1 := by rw [List.eq_nil_of_length_eq_zero h0]; rfl
        rw [hn0]
        refine ztx ?_
        refine Ox.pure rfl rfl zmv ?_
        refine Ox.pure rfl rfl (rp_lenS rfl rfl rfl) ?_
        refine Ox.pure rfl rfl zbc ?_
        refine Ox.fin ?_
        refine zcf ?_
        refine zsk ?_
        exact ⟨sub_cons rfl (sub_cons rfl (sub_cons rfl (sub_cons rfl (sub_cons rfl (sub_cons rfl sub_nil))))), zxc⟩
      · have hln : li.length - 1 < li.length := by omega
        have hfl := (checkL_zero.1 hck).1 _ (List.getElem_mem hln)
        unfold Fits at hfl
        have hLn : ∀ u, Ext [] wr u → Ld Try.prog u 3 (A1.add ((li.length - 1) * 8 + 6)) (.int .i64 li[li.length - 1].known) := fun u hu => ld_field fc_len (hr1.ext0 hu) hln 6 rfl (by decide) rfl
        rw [nextK_get h0]
        refine ztx ?_
        refine Ox.pure rfl rfl zmv ?_
        refine Ox.pure rfl rfl (rp_lenS rfl rfl rfl) ?_
        refine Ox.pure rfl rfl zbc ?_
        refine Ox.fin ?_
        refine zct ?_
        refine ztx ?_
        refine Ox.pure rfl rfl zmv ?_
        refine Ox.pure rfl rfl zmv ?_
        refine Ox.pure rfl rfl (rp_lenS rfl rfl rfl) ?_
        refine Ox.pure rfl rfl zbs ?_
        refine Ox.pure rfl rfl (rp_indexAddr (li.length - 1) rfl rfl rfl rfl rfl (by assumption) (by omega) (by omega)) ?_
        refine Ox.pure rfl rfl zfa ?_
        refine Ox.val rfl rfl (rv_load rfl rfl (fun u hu => hLn u zxc)) ?_
        refine Ox.pure rfl rfl zba ?_
        refine Ox.pure rfl rfl zas ?_
        refine Ox.fin ?_
        exact ⟨sub_cons rfl (sub_cons rfl (sub_cons rfl (sub_cons rfl (sub_cons rfl (sub_cons rfl sub_nil))))), zxc⟩
    rintro E' wm ⟨hsub, em⟩
    refine thenE_normal (Sx.weaken ?_ hsub)
    have hzm := em.size
    by_cases hok : (addL li (chF cs[i] (nextK li))).2 = 0
    · rw [if_pos hok] at hall
      obtain ⟨a1, a2, a3, a4⟩ := addL_ok hok
      refine ztx ?_
      refine Ox.pure rfl rfl zmv ?_
      refine Ox.pure rfl rfl zfa ?_
      refine Ox.val rfl rfl zra ?_
      refine Ox.pure rfl rfl zfa ?_
      refine Ox.val rfl rfl zrs ?_
      refine Ox.pure rfl rfl zfa ?_
      refine Ox.val rfl rfl zra ?_
      refine Ox.pure rfl rfl zmv ?_
      refine Ox.pure rfl rfl (rp_buildS (ps := [(0, .tmp 29), (1, .tmp 31), (2, .tmp 33), (3, .tmp 34)]) rfl rfl rfl rfl rfl) ?_
      refine Ox.act rfl rfl (acts_call rfl rfl rfl (add_at li (chF cs[i] (nextK li)) p1 A1 c1 _ (hs1.ext0 zxc) (by omega))) ?_
      rintro v1 w1 ⟨e1, v7, rfl, ho7⟩
      have hz1 := e1.size
      obtain ⟨p7, c7, A7, rfl, hs7, _⟩ := ho7.sl (by omega)
      refine Ox.pure rfl rfl zmv ?_
      refine Ox.pure rfl rfl (rp_extract rfl rfl rfl) ?_
      refine Ox.pure rfl rfl (rp_extract rfl rfl rfl) ?_
      refine Ox.pure rfl rfl zas ?_
      refine Ox.pure rfl rfl zas ?_
      refine Ox.fin ?_
      refine ztx ?_
      refine Ox.pure rfl rfl zmv ?_
      refine Ox.pure rfl rfl zbc ?_
      refine Ox.fin ?_
      refine zcf ?_
      refine zsk ?_
      refine ztx ?_
      refine Ox.pure rfl rfl zba ?_
      refine Ox.pure rfl rfl zmv ?_
      refine Ox.fin ?_
      exact ⟨(i + 1, (addL li (chF cs[i] (nextK li))).1, p7, A7, c7), _, sub_cons rfl (sub_cons rfl (sub_cons rfl (sub_cons rfl sub_nil))), ⟨rfl, hlt, zxc, hs7.ext0 zxc, (by dsimp only; omega), (by dsimp only; rw [a1]; exact checkL_snoc a2 a3 a4), hall⟩, by dsimp only; omega⟩
    · rw [if_neg hok] at hall
      refine ztx ?_
      refine Ox.pure rfl rfl zmv ?_
      refine Ox.pure rfl rfl zfa ?_
      refine Ox.val rfl rfl zra ?_
      refine Ox.pure rfl rfl zfa ?_
      refine Ox.val rfl rfl zrs ?_
      refine Ox.pure rfl rfl zfa ?_
      refine Ox.val rfl rfl zra ?_
      refine Ox.pure rfl rfl zmv ?_
      refine Ox.pure rfl rfl (rp_buildS (ps := [(0, .tmp 29), (1, .tmp 31), (2, .tmp 33), (3, .tmp 34)]) rfl rfl rfl rfl rfl) ?_
      refine Ox.act rfl rfl (acts_call rfl rfl rfl (add_at li (chF cs[i] (nextK li)) p1 A1 c1 _ (hs1.ext0 zxc) (by omega))) ?_
      rintro v2 w2 ⟨e2, v7, rfl, ho7⟩
      have hz2 := e2.size
      obtain ⟨p7, c7, A7, rfl, hs7, _⟩ := ho7.sl (by omega)
      refine Ox.pure rfl rfl zmv ?_
      refine Ox.pure rfl rfl (rp_extract rfl rfl rfl) ?_
      refine Ox.pure rfl rfl (rp_extract rfl rfl rfl) ?_
      refine Ox.pure rfl rfl zas ?_
      refine Ox.pure rfl rfl zas ?_
      refine Ox.fin ?_
      refine ztx ?_
      refine Ox.pure rfl rfl zmv ?_
      refine Ox.pure rfl rfl zbc ?_
      refine Ox.fin ?_
      refine zct ?_
      refine ztx ?_
      refine Ox.pure rfl rfl zmv ?_
      refine Ox.pure rfl rfl zas ?_
      refine Ox.pure rfl rfl zas ?_
      refine Ox.fin ?_
      refine zrt ?_
      exact endE_ret [.slice none 0 0, .int .i64 (addL li (chF cs[i] (nextK li))).2] ⟨rfl, rfl, trivial⟩ ⟨zxc, by rw [hall]; exact ⟨none, ⟨0, 0, none⟩, 0, rfl, SlV.nil _ _⟩⟩
  · obtain rfl : i = cs.length := by omega
    rw [List.drop_length] at hall
    refine ztx ?_
    refine Ox.pure rfl rfl zbc ?_
    refine Ox.fin ?_
    refine zcf ?_
    refine zex ?_
    refine ztx ?_
    refine Ox.pure rfl rfl zmv ?_
    refine Ox.pure rfl rfl zas ?_
    refine Ox.pure rfl rfl zas ?_
    refine Ox.fin ?_
    refine zrt ?_
    exact endE_ret [.slice p1 li.length c1, .int .i64 0] ⟨rfl, rfl, trivial⟩ ⟨zxc, by rw [hall]; exact ⟨p1, A1, c1, rfl, hs1.ext0 zxc⟩⟩

theorem length_at_p (s : Bs) (no : Int) (w : World) (hin : BsIn s w) (hn : no < (s.bls.length : Int)) :
    Calls Try.prog 38 #[.agg (bvc s).toArray, .int .i64 no] w (Ret fun r w' => Ext [] w w' ∧ r = .int .i64 (lenB s.br no : Int)) := by
  have hp1 := hin.bls.ptr
  have hr1 := hin.bls.row
  have hf1 := hin.bls.few
  refine calls_of_Sx (args := [.agg (bvc s).toArray, .int .i64 no]) Try.func38 rfl rfl ?_
  by_cases h0 : no < 0
  · have hl : lenB s.br no = s.base.length := by unfold lenB; rw [if_pos h0]; rfl
    refine ztx ?_
    refine Ox.act rfl rfl (acts_box rfl rfl) ?_
    rintro vb2 wb2 ⟨eb2, bb2, rfl, hbb2, hBb2⟩
    first | (have hCb2 : Cells wb2 ⟨bb2, 0, none⟩ [_, _, _, _, _] := hBb2.cells) | have hCb2 := Blk.cellsL hBb2
    have hlb2 := hBb2.lt
    have hzb2 := eb2.size
    refine Ox.pure rfl rfl zas ?_
    refine Ox.fin ?_
    refine ztx ?_
    refine Ox.pure rfl rfl zmv ?_
    refine Ox.pure rfl rfl zbc ?_
    refine Ox.fin ?_
    refine zct ?_
    refine ztx ?_
    refine Ox.pure rfl rfl zfa ?_
    refine Ox.val rfl rfl zrs ?_
    refine Ox.pure rfl rfl (rp_lenS rfl rfl rfl) ?_
    refine Ox.pure rfl rfl zas ?_
    refine Ox.fin ?_
    refine zrt ?_
    exact endE_ret [_] ⟨rfl, trivial⟩ ⟨zxc, by rw [hl]; rfl⟩
  · have hi : no.toNat < s.bls.length := by omega
    have hl : lenB s.br no = s.bls[no.toNat].l.length := by unfold lenB; rw [if_neg h0]; show (brB s.br no.toNat).length = _; rw [brB_eq hi]
    have hL : ∀ u, Ext [] w u → Ld Try.prog u 59 (s.A1.add (no.toNat * 1 + 0)) (.slice s.bls[no.toNat].p s.bls[no.toNat].l.length s.bls[no.toNat].c) := fun u hu => ld_field blc_len (hr1.ext0 hu) hi 0 rfl (by decide) rfl
    refine ztx ?_
    refine Ox.act rfl rfl (acts_box rfl rfl) ?_
    rintro vb2 wb2 ⟨eb2, bb2, rfl, hbb2, hBb2⟩
    first | (have hCb2 : Cells wb2 ⟨bb2, 0, none⟩ [_, _, _, _, _] := hBb2.cells) | have hCb2 := Blk.cellsL hBb2
    have hlb2 := hBb2.lt
    have hzb2 := eb2.size
    refine Ox.pure rfl rfl zas ?_
    refine Ox.fin ?_
    refine ztx ?_
    refine Ox.pure rfl rfl zmv ?_
    refine Ox.pure rfl rfl zbc ?_
    refine Ox.fin ?_
    refine zcf ?_
    refine zsk ?_
    refine ztx ?_
    refine Ox.pure rfl rfl zfa ?_
    refine Ox.val rfl rfl zrs ?_
    refine Ox.pure rfl rfl zmv ?_
    refine Ox.pure rfl rfl (rp_indexAddr no.toNat rfl rfl rfl rfl rfl (by assumption) (by omega) hi) ?_
    refine Ox.val rfl rfl (rv_load rfl rfl (fun u hu => hL u zxc)) ?_
    refine Ox.pure rfl rfl (rp_lenS rfl rfl rfl) ?_
    refine Ox.pure rfl rfl zas ?_
    refine Ox.fin ?_
    refine zrt ?_
    exact endE_ret [_] ⟨rfl, trivial⟩ ⟨zxc, by rw [hl]; rfl⟩

theorem open_at_p (s : Bs) (no : Int) (w : World) (hin : BsIn s w) (hd : s.done.length = s.bls.length) :
    Calls Try.prog 36 #[.agg (bvc s).toArray, .int .i64 no] w (Ret fun r w' => Ext [] w w' ∧ r = .bool (decide (OpenB s.br no))) := by
  have hp4 := hin.done.ptr
  have hr4 := hin.done.row
  have hf4 := hin.done.few
  have hbl := br_len s
  refine calls_of_Sx (args := [.agg (bvc s).toArray, .int .i64 no]) Try.func36 rfl rfl ?_
  by_cases h0 : 0 ≤ no; rotate_left
  · refine ztx ?_
    refine Ox.act rfl rfl (acts_box rfl rfl) ?_
    rintro vb2 wb2 ⟨eb2, bb2, rfl, hbb2, hBb2⟩
    first | (have hCb2 : Cells wb2 ⟨bb2, 0, none⟩ [_, _, _, _, _] := hBb2.cells) | have hCb2 := Blk.cellsL hBb2
    have hlb2 := hBb2.lt
    have hzb2 := eb2.size
    refine Ox.pure rfl rfl zas ?_
    refine Ox.fin ?_
    refine ztx ?_
    refine Ox.pure rfl rfl zmv ?_
    refine Ox.pure rfl rfl zbc ?_
    refine Ox.pure rfl rfl zmv ?_
    first | (refine Ox.skip rfl rfl ?_) | (refine Ox.pure rfl rfl zmv ?_)
    first | (refine Ox.skip rfl rfl ?_) | (refine Ox.pure rfl rfl zfa ?_)
    first | (refine Ox.skip rfl rfl ?_) | (refine Ox.val rfl rfl zrs ?_)
    first | (refine Ox.skip rfl rfl ?_) | (refine Ox.pure rfl rfl (rp_lenS rfl rfl rfl) ?_)
    first | (refine Ox.skip rfl rfl ?_) | (refine Ox.pure rfl rfl zbc ?_)
    refine Ox.pure rfl rfl zpk ?_
    refine Ox.pure rfl rfl zmv ?_
    first | (refine Ox.skip rfl rfl ?_) | (refine Ox.pure rfl rfl zfa ?_)
    first | (refine Ox.skip rfl rfl ?_) | (refine Ox.val rfl rfl zrs ?_)
    first | (refine Ox.skip rfl rfl ?_) | (refine Ox.pure rfl rfl zmv ?_)
    first | (refine Ox.skip rfl rfl ?_) | (refine Ox.pure rfl rfl zix ?_)
    first | (refine Ox.skip rfl rfl ?_) | (refine Ox.val rfl rfl zrs ?_)
    first | (refine Ox.skip rfl rfl ?_) | (refine Ox.pure rfl rfl (rp_not rfl rfl) ?_)
    refine Ox.pure rfl rfl zpk ?_
    refine Ox.pure rfl rfl zas ?_
    refine Ox.fin ?_
    refine zrt ?_
    exact endE_ret [_] ⟨rfl, trivial⟩ ⟨zxc, congrArg Value.bool (decide_eq_false (fun h => h0 h.1)).symm⟩
  by_cases h1 : no < (s.bls.length : Int); rotate_left
  · refine ztx ?_
    refine Ox.act rfl rfl (acts_box rfl rfl) ?_
    rintro vb2 wb2 ⟨eb2, bb2, rfl, hbb2, hBb2⟩
    first | (have hCb2 : Cells wb2 ⟨bb2, 0, none⟩ [_, _, _, _, _] := hBb2.cells) | have hCb2 := Blk.cellsL hBb2
    have hlb2 := hBb2.lt
    have hzb2 := eb2.size
    refine Ox.pure rfl rfl zas ?_
    refine Ox.fin ?_
    refine ztx ?_
    refine Ox.pure rfl rfl zmv ?_
    refine Ox.pure rfl rfl zbc ?_
    refine Ox.pure rfl rfl zmv ?_
    first | (refine Ox.skip rfl rfl ?_) | (refine Ox.pure rfl rfl zmv ?_)
    first | (refine Ox.skip rfl rfl ?_) | (refine Ox.pure rfl rfl zfa ?_)
    first | (refine Ox.skip rfl rfl ?_) | (refine Ox.val rfl rfl zrs ?_)
    first | (refine Ox.skip rfl rfl ?_) | (refine Ox.pure rfl rfl (rp_lenS rfl rfl rfl) ?_)
    first | (refine Ox.skip rfl rfl ?_) | (refine Ox.pure rfl rfl zbc ?_)
    refine Ox.pure rfl rfl zpk ?_
    refine Ox.pure rfl rfl zmv ?_
    first | (refine Ox.skip rfl rfl ?_) | (refine Ox.pure rfl rfl zfa ?_)
    first | (refine Ox.skip rfl rfl ?_) | (refine Ox.val rfl rfl zrs ?_)
    first | (refine Ox.skip rfl rfl ?_) | (refine Ox.pure rfl rfl zmv ?_)
    first | (refine Ox.skip rfl rfl ?_) | (refine Ox.pure rfl rfl zix ?_)
    first | (refine Ox.skip rfl rfl ?_) | (refine Ox.val rfl rfl zrs ?_)
    first | (refine Ox.skip rfl rfl ?_) | (refine Ox.pure rfl rfl (rp_not rfl rfl) ?_)
    refine Ox.pure rfl rfl zpk ?_
    refine Ox.pure rfl rfl zas ?_
    refine Ox.fin ?_
    refine zrt ?_
    exact endE_ret [_] ⟨rfl, trivial⟩ ⟨zxc, congrArg Value.bool (decide_eq_false (fun h => h1 (by have := h.2.1; omega))).symm⟩
  have hi : no.toNat < s.done.length := by omega
  have hdo := doneB_eq (s := s) hi
  have hL : ∀ u, Ext [] w u → Ld Try.prog u 4 (s.A4.add (no.toNat * 1 + 0)) (.bool s.done[no.toNat]) := fun u hu => ld_field boc_len (hr4.ext0 hu) hi 0 rfl (by decide) rfl
  cases hb : s.done[no.toNat] with
  | true =>
    rw [hb] at hL hdo
    refine ztx ?_
    refine Ox.act rfl rfl (acts_box rfl rfl) ?_
    rintro vb2 wb2 ⟨eb2, bb2, rfl, hbb2, hBb2⟩
    first | (have hCb2 : Cells wb2 ⟨bb2, 0, none⟩ [_, _, _, _, _] := hBb2.cells) | have hCb2 := Blk.cellsL hBb2
    have hlb2 := hBb2.lt
    have hzb2 := eb2.size
    refine Ox.pure rfl rfl zas ?_
    refine Ox.fin ?_
    refine ztx ?_
    refine Ox.pure rfl rfl zmv ?_
    refine Ox.pure rfl rfl zbc ?_
    refine Ox.pure rfl rfl zmv ?_
    first | (refine Ox.skip rfl rfl ?_) | (refine Ox.pure rfl rfl zmv ?_)
    first | (refine Ox.skip rfl rfl ?_) | (refine Ox.pure rfl rfl zfa ?_)
    first | (refine Ox.skip rfl rfl ?_) | (refine Ox.val rfl rfl zrs ?_)
    first | (refine Ox.skip rfl rfl ?_) | (refine Ox.pure rfl rfl (rp_lenS rfl rfl rfl) ?_)
    first | (refine Ox.skip rfl rfl ?_) | (refine Ox.pure rfl rfl zbc ?_)
    refine Ox.pure rfl rfl zpk ?_
    refine Ox.pure rfl rfl zmv ?_
    first | (refine Ox.skip rfl rfl ?_) | (refine Ox.pure rfl rfl zfa ?_)
    first | (refine Ox.skip rfl rfl ?_) | (refine Ox.val rfl rfl zrs ?_)
    first | (refine Ox.skip rfl rfl ?_) | (refine Ox.pure rfl rfl zmv ?_)
    first | (refine Ox.skip rfl rfl ?_) | (refine Ox.pure rfl rfl (rp_indexAddr no.toNat rfl rfl rfl rfl rfl (by assumption) (by omega) hi) ?_)
    first | (refine Ox.skip rfl rfl ?_) | (refine Ox.val rfl rfl (rv_load rfl rfl (fun u hu => hL u zxc)) ?_)
    first | (refine Ox.skip rfl rfl ?_) | (refine Ox.pure rfl rfl (rp_not rfl rfl) ?_)
    refine Ox.pure rfl rfl zpk ?_
    refine Ox.pure rfl rfl zas ?_
    refine Ox.fin ?_
    refine zrt ?_
    exact endE_ret [_] ⟨rfl, trivial⟩ ⟨zxc, congrArg Value.bool (decide_eq_false (fun h => by have := h.2.2; rw [hdo] at this; cases this)).symm⟩
  | false =>
    rw [hb] at hL hdo
    refine ztx ?_
    refine Ox.act rfl rfl (acts_box rfl rfl) ?_
    rintro vb2 wb2 ⟨eb2, bb2, rfl, hbb2, hBb2⟩
    first | (have hCb2 : Cells wb2 ⟨bb2, 0, none⟩ [_, _, _, _, _] := hBb2.cells) | have hCb2 := Blk.cellsL hBb2
    have hlb2 := hBb2.lt
    have hzb2 := eb2.size
    refine Ox.pure rfl rfl zas ?_
    refine Ox.fin ?_
    refine ztx ?_
    refine Ox.pure rfl rfl zmv ?_
    refine Ox.pure rfl rfl zbc ?_
    refine Ox.pure rfl rfl zmv ?_
    first | (refine Ox.skip rfl rfl ?_) | (refine Ox.pure rfl rfl zmv ?_)
    first | (refine Ox.skip rfl rfl ?_) | (refine Ox.pure rfl rfl zfa ?_)
    first | (refine Ox.skip rfl rfl ?_) | (refine Ox.val rfl rfl zrs ?_)
    first | (refine Ox.skip rfl rfl ?_) | (refine Ox.pure rfl rfl (rp_lenS rfl rfl rfl) ?_)
    first | (refine Ox.skip rfl rfl ?_) | (refine Ox.pure rfl rfl zbc ?_)
    refine Ox.pure rfl rfl zpk ?_
    refine Ox.pure rfl rfl zmv ?_
    first | (refine Ox.skip rfl rfl ?_) | (refine Ox.pure rfl rfl zfa ?_)
    first | (refine Ox.skip rfl rfl ?_) | (refine Ox.val rfl rfl zrs ?_)
    first | (refine Ox.skip rfl rfl ?_) | (refine Ox.pure rfl rfl zmv ?_)
    first | (refine Ox.skip rfl rfl ?_) | (refine Ox.pure rfl rfl (rp_indexAddr no.toNat rfl rfl rfl rfl rfl (by assumption) (by omega) hi) ?_)
    first | (refine Ox.skip rfl rfl ?_) | (refine Ox.val rfl rfl (rv_load rfl rfl (fun u hu => hL u zxc)) ?_)
    first | (refine Ox.skip rfl rfl ?_) | (refine Ox.pure rfl rfl (rp_not rfl rfl) ?_)
    refine Ox.pure rfl rfl zpk ?_
    refine Ox.pure rfl rfl zas ?_
    refine Ox.fin ?_
    refine zrt ?_
    exact endE_ret [_] ⟨rfl, trivial⟩ ⟨zxc, congrArg Value.bool (decide_eq_true ⟨h0, by omega, hdo⟩).symm⟩

theorem length_at_r (s : Bs) (no : Int) (w : World) (hin : BsIn s w) (hn : no < (s.bls.length : Int)) :
    Calls Try.prog 42 #[.agg (bvc s).toArray, .int .i64 no] w (Ret fun r w' => Ext [] w w' ∧ r = .int .i64 (lenB s.br no : Int)) := by
  have hp1 := hin.bls.ptr
  have hr1 := hin.bls.row
  have hf1 := hin.bls.few
  refine calls_of_Sx (args := [.agg (bvc s).toArray, .int .i64 no]) Try.func42 rfl rfl ?_
  by_cases h0 : no < 0
  · have hl : lenB s.br no = s.base.length := by unfold lenB; rw [if_pos h0]; rfl
    refine ztx ?_
    refine Ox.act rfl rfl (acts_box rfl rfl) ?_
    rintro vb2 wb2 ⟨eb2, bb2, rfl, hbb2, hBb2⟩
    first | (have hCb2 : Cells wb2 ⟨bb2, 0, none⟩ [_, _, _, _, _] := hBb2.cells) | have hCb2 := Blk.cellsL hBb2
    have hlb2 := hBb2.lt
    have hzb2 := eb2.size
    refine Ox.pure rfl rfl zas ?_
    refine Ox.fin ?_
    refine ztx ?_
    refine Ox.pure rfl rfl zmv ?_
    refine Ox.pure rfl rfl zbc ?_
    refine Ox.fin ?_
    refine zct ?_
    refine ztx ?_
    refine Ox.pure rfl rfl zfa ?_
    refine Ox.val rfl rfl zrs ?_
    refine Ox.pure rfl rfl (rp_lenS rfl rfl rfl) ?_
    refine Ox.pure rfl rfl zas ?_
    refine Ox.fin ?_
    refine zrt ?_
    exact endE_ret [_] ⟨rfl, trivial⟩ ⟨zxc, by rw [hl]; rfl⟩
  · have hi : no.toNat < s.bls.length := by omega
    have hl : lenB s.br no = s.bls[no.toNat].l.length := by unfold lenB; rw [if_neg h0]; show (brB s.br no.toNat).length = _; rw [brB_eq hi]
    have hL : ∀ u, Ext [] w u → Ld Try.prog u 59 (s.A1.add (no.toNat * 1 + 0)) (.slice s.bls[no.toNat].p s.bls[no.toNat].l.length s.bls[no.toNat].c) := fun u hu => ld_field blc_len (hr1.ext0 hu) hi 0 rfl (by decide) rfl
    refine ztx ?_
    refine Ox.act rfl rfl (acts_box rfl rfl) ?_
    rintro vb2 wb2 ⟨eb2, bb2, rfl, hbb2, hBb2⟩
    first | (have hCb2 : Cells wb2 ⟨bb2, 0, none⟩ [_, _, _, _, _] := hBb2.cells) | have hCb2 := Blk.cellsL hBb2
    have hlb2 := hBb2.lt
    have hzb2 := eb2.size
    refine Ox.pure rfl rfl zas ?_
    refine Ox.fin ?_
    refine ztx ?_
    refine Ox.pure rfl rfl zmv ?_
    refine Ox.pure rfl rfl zbc ?_
    refine Ox.fin ?_
    refine zcf ?_
    refine zsk ?_
    refine ztx ?_
    refine Ox.pure rfl rfl zfa ?_
    refine Ox.val rfl rfl zrs ?_
    refine Ox.pure rfl rfl zmv ?_
    refine Ox.pure rfl rfl (rp_indexAddr no.toNat rfl rfl rfl rfl rfl (by assumption) (by omega) hi) ?_
    refine Ox.val rfl rfl (rv_load rfl rfl (fun u hu => hL u zxc)) ?_
    refine Ox.pure rfl rfl (rp_lenS rfl rfl rfl) ?_
    refine Ox.pure rfl rfl zas ?_
    refine Ox.fin ?_
    refine zrt ?_
    exact endE_ret [_] ⟨rfl, trivial⟩ ⟨zxc, by rw [hl]; rfl⟩

theorem open_at_r (s : Bs) (no : Int) (w : World) (hin : BsIn s w) (hd : s.done.length = s.bls.length) :
    Calls Try.prog 40 #[.agg (bvc s).toArray, .int .i64 no] w (Ret fun r w' => Ext [] w w' ∧ r = .bool (decide (OpenB s.br no))) := by
  have hp4 := hin.done.ptr
  have hr4 := hin.done.row
  have hf4 := hin.done.few
  have hbl := br_len s
  refine calls_of_Sx (args := [.agg (bvc s).toArray, .int .i64 no]) Try.func40 rfl rfl ?_
  by_cases h0 : 0 ≤ no; rotate_left
  · refine ztx ?_
    refine Ox.act rfl rfl (acts_box rfl rfl) ?_
    rintro vb2 wb2 ⟨eb2, bb2, rfl, hbb2, hBb2⟩
    first | (have hCb2 : Cells wb2 ⟨bb2, 0, none⟩ [_, _, _, _, _] := hBb2.cells) | have hCb2 := Blk.cellsL hBb2
    have hlb2 := hBb2.lt
    have hzb2 := eb2.size
    refine Ox.pure rfl rfl zas ?_
    refine Ox.fin ?_
    refine ztx ?_
    refine Ox.pure rfl rfl zmv ?_
    refine Ox.pure rfl rfl zbc ?_
    refine Ox.pure rfl rfl zmv ?_
    first | (refine Ox.skip rfl rfl ?_) | (refine Ox.pure rfl rfl zmv ?_)
    first | (refine Ox.skip rfl rfl ?_) | (refine Ox.pure rfl rfl zfa ?_)
    first | (refine Ox.skip rfl rfl ?_) | (refine Ox.val rfl rfl zrs ?_)
    first | (refine Ox.skip rfl rfl ?_) | (refine Ox.pure rfl rfl (rp_lenS rfl rfl rfl) ?_)
    first | (refine Ox.skip rfl rfl ?_) | (refine Ox.pure rfl rfl zbc ?_)
    refine Ox.pure rfl rfl zpk ?_
    refine Ox.pure rfl rfl zmv ?_
    first | (refine Ox.skip rfl rfl ?_) | (refine Ox.pure rfl rfl zfa ?_)
    first | (refine Ox.skip rfl rfl ?_) | (refine Ox.val rfl rfl zrs ?_)
    first | (refine Ox.skip rfl rfl ?_) | (refine Ox.pure rfl rfl zmv ?_)
    first | (refine Ox.skip rfl rfl ?_) | (refine Ox.pure rfl rfl zix ?_)
    first | (refine Ox.skip rfl rfl ?_) | (refine Ox.val rfl rfl zrs ?_)
    first | (refine Ox.skip rfl rfl ?_) | (refine Ox.pure rfl rfl (rp_not rfl rfl) ?_)
    refine Ox.pure rfl rfl zpk ?_
    refine Ox.pure rfl rfl zas ?_
    refine Ox.fin ?_
    refine zrt ?_
    exact endE_ret [_] ⟨rfl, trivial⟩ ⟨zxc, congrArg Value.bool (decide_eq_false (fun h => h0 h.1)).symm⟩
  by_cases h1 : no < (s.bls.length : Int); rotate_left
  · refine ztx ?_
    refine Ox.act rfl rfl (acts_box rfl rfl) ?_
    rintro vb2 wb2 ⟨eb2, bb2, rfl, hbb2, hBb2⟩
    first | (have hCb2 : Cells wb2 ⟨bb2, 0, none⟩ [_, _, _, _, _] := hBb2.cells) | have hCb2 := Blk.cellsL hBb2
    have hlb2 := hBb2.lt
    have hzb2 := eb2.size
    refine Ox.pure rfl rfl zas ?_
    refine Ox.fin ?_
    refine ztx ?_
    refine Ox.pure rfl rfl zmv ?_
    refine Ox.pure rfl rfl zbc ?_
    refine Ox.pure rfl rfl zmv ?_
    first | (refine Ox.skip rfl rfl ?_) | (refine Ox.pure rfl rfl zmv ?_)
    first | (refine Ox.skip rfl rfl ?_) | (refine Ox.pure rfl rfl zfa ?_)
    first | (refine Ox.skip rfl rfl ?_) | (refine Ox.val rfl rfl zrs ?_)
    first | (refine Ox.skip rfl rfl ?_) | (refine Ox.pure rfl rfl (rp_lenS rfl rfl rfl) ?_)
    first | (refine Ox.skip rfl rfl ?_) | (refine Ox.pure rfl rfl zbc ?_)
    refine Ox.pure rfl rfl zpk ?_
    refine Ox.pure rfl rfl zmv ?_
    first | (refine Ox.skip rfl rfl ?_) | (refine Ox.pure rfl rfl zfa ?_)
    first | (refine Ox.skip rfl rfl ?_) | (refine Ox.val rfl rfl zrs ?_)
    first | (refine Ox.skip rfl rfl ?_) | (refine Ox.pure rfl rfl zmv ?_)
    first | (refine Ox.skip rfl rfl ?_) | (refine Ox.pure rfl rfl zix ?_)
    first | (refine Ox.skip rfl rfl ?_) | (refine Ox.val rfl rfl zrs ?_)
    first | (refine Ox.skip rfl rfl ?_) | (refine Ox.pure rfl rfl (rp_not rfl rfl) ?_)
    refine Ox.pure rfl rfl zpk ?_
    refine Ox.pure rfl rfl zas ?_
    refine Ox.fin ?_
    refine zrt ?_
    exact endE_ret [_] ⟨rfl, trivial⟩ ⟨zxc, congrArg Value.bool (decide_eq_false (fun h => h1 (by have := h.2.1; omega))).symm⟩
  have hi : no.toNat < s.done.length := by omega
  have hdo := doneB_eq (s := s) hi
  have hL : ∀ u, Ext [] w u → Ld Try.prog u 4 (s.A4.add (no.toNat * 1 + 0)) (.bool s.done[no.toNat]) := fun u hu => ld_field boc_len (hr4.ext0 hu) hi 0 rfl (by decide) rfl
  cases hb : s.done[no.toNat] with
  | true =>
    rw [hb] at hL hdo
    refine ztx ?_
    refine Ox.act rfl rfl (acts_box rfl rfl) ?_
    rintro vb2 wb2 ⟨eb2, bb2, rfl, hbb2, hBb2⟩
    first | (have hCb2 : Cells wb2 ⟨bb2, 0, none⟩ [_, _, _, _, _] := hBb2.cells) | have hCb2 := Blk.cellsL hBb2
    have hlb2 := hBb2.lt
    have hzb2 := eb2.size
    refine Ox.pure rfl rfl zas ?_
    refine Ox.fin ?_
    refine ztx ?_
    refine Ox.pure rfl rfl zmv ?_
    refine Ox.pure rfl rfl zbc ?_
    refine Ox.pure rfl rfl zmv ?_
    first | (refine Ox.skip rfl rfl ?_) | (refine Ox.pure rfl rfl zmv ?_)
    first | (refine Ox.skip rfl rfl ?_) | (refine Ox.pure rfl rfl zfa ?_)
    first | (refine Ox.skip rfl rfl ?_) | (refine Ox.val rfl rfl zrs ?_)
    first | (refine Ox.skip rfl rfl ?_) | (refine Ox.pure rfl rfl (rp_lenS rfl rfl rfl) ?_)
    first | (refine Ox.skip rfl rfl ?_) | (refine Ox.pure rfl rfl zbc ?_)
    refine Ox.pure rfl rfl zpk ?_
    refine Ox.pure rfl rfl zmv ?_
    first | (refine Ox.skip rfl rfl ?_) | (refine Ox.pure rfl rfl zfa ?_)
    first | (refine Ox.skip rfl rfl ?_) | (refine Ox.val rfl rfl zrs ?_)
    first | (refine Ox.skip rfl rfl ?_) | (refine Ox.pure rfl rfl zmv ?_)
    first | (refine Ox.skip rfl rfl ?_) | (refine Ox.pure rfl rfl (rp_indexAddr no.toNat rfl rfl rfl rfl rfl (by assumption) (by omega) hi) ?_)
    first | (refine Ox.skip rfl rfl ?_) | (refine Ox.val rfl rfl (rv_load rfl rfl (fun u hu => hL u zxc)) ?_)
    first | (refine Ox.skip rfl rfl ?_) | (refine Ox.pure rfl rfl (rp_not rfl rfl) ?_)
    refine Ox.pure rfl rfl zpk ?_
    refine Ox.pure rfl rfl zas ?_
    refine Ox.fin ?_
    refine zrt ?_
    exact endE_ret [_] ⟨rfl, trivial⟩ ⟨zxc, congrArg Value.bool (decide_eq_false (fun h => by have := h.2.2; rw [hdo] at this; cases this)).symm⟩
  | false =>
    rw [hb] at hL hdo
    refine ztx ?_
    refine Ox.act rfl rfl (acts_box rfl rfl) ?_
    rintro vb2 wb2 ⟨eb2, bb2, rfl, hbb2, hBb2⟩
    first | (have hCb2 : Cells wb2 ⟨bb2, 0, none⟩ [_, _, _, _, _] := hBb2.cells) | have hCb2 := Blk.cellsL hBb2
    have hlb2 := hBb2.lt
    have hzb2 := eb2.size
    refine Ox.pure rfl rfl zas ?_
    refine Ox.fin ?_
    refine ztx ?_
    refine Ox.pure rfl rfl zmv ?_
    refine Ox.pure rfl rfl zbc ?_
    refine Ox.pure rfl rfl zmv ?_
    first | (refine Ox.skip rfl rfl ?_) | (refine Ox.pure rfl rfl zmv ?_)
    first | (refine Ox.skip rfl rfl ?_) | (refine Ox.pure rfl rfl zfa ?_)
    first | (refine Ox.skip rfl rfl ?_) | (refine Ox.val rfl rfl zrs ?_)
    first | (refine Ox.skip rfl rfl ?_) | (refine Ox.pure rfl rfl (rp_lenS rfl rfl rfl) ?_)
    first | (refine Ox.skip rfl rfl ?_) | (refine Ox.pure rfl rfl zbc ?_)
    refine Ox.pure rfl rfl zpk ?_
    refine Ox.pure rfl rfl zmv ?_
    first | (refine Ox.skip rfl rfl ?_) | (refine Ox.pure rfl rfl zfa ?_)
    first | (refine Ox.skip rfl rfl ?_) | (refine Ox.val rfl rfl zrs ?_)
    first | (refine Ox.skip rfl rfl ?_) | (refine Ox.pure rfl rfl zmv ?_)
    first | (refine Ox.skip rfl rfl ?_) | (refine Ox.pure rfl rfl (rp_indexAddr no.toNat rfl rfl rfl rfl rfl (by assumption) (by omega) hi) ?_)
    first | (refine Ox.skip rfl rfl ?_) | (refine Ox.val rfl rfl (rv_load rfl rfl (fun u hu => hL u zxc)) ?_)
    first | (refine Ox.skip rfl rfl ?_) | (refine Ox.pure rfl rfl (rp_not rfl rfl) ?_)
    refine Ox.pure rfl rfl zpk ?_
    refine Ox.pure rfl rfl zas ?_
    refine Ox.fin ?_
    refine zrt ?_
    exact endE_ret [_] ⟨rfl, trivial⟩ ⟨zxc, congrArg Value.bool (decide_eq_true ⟨h0, by omega, hdo⟩).symm⟩

end Go.Proofs.Ytfgckcochilpkaa

/- Branches' walks: the facts of a branch. -/
set_option linter.unusedVariables false
set_option maxRecDepth 100000
set_option maxHeartbeats 4000000
set_option linter.unusedSimpArgs false
namespace Go.Proofs.Ytfgckcochilpkaa
open Go Go.Eng

structure Small (s : Bs) : Prop where
  base : s.base.length ≤ 1000
  brs : ∀ i, (brB s.br i).length ≤ 1000
theorem cr_part {w : World} {q : Option Addr} {B : Addr} {cs : List Cr} {d : Nat} (hs : SlV cc w q B cs d) {lo n : Nat} (h : lo + n ≤ cs.length) : SlV cc w (if d = lo then q else q.map (·.add (lo * 6))) (B.add (lo * 6)) ((cs.drop lo).take n) (d - lo) := by
  have hle := hs.le
  have hsm := hs.small
  have hfe := hs.few
  have hl : ((cs.drop lo).take n).length = n := by rw [List.length_take, List.length_drop]; omega
  refine ⟨fun h0 => ?_, ?_, by omega, by omega, by omega⟩
  · rw [if_neg (by omega), hs.ptr (by omega)]; rfl
  · rw [← rowsV_take cc_len, ← rowsV_drop cc_len]
    exact (hs.row.drop _).take _
theorem fc_head {w : World} {q : Option Addr} {B : Addr} {l : List Fct} {d : Nat} (hs : SlV fc w q B l d) {n : Nat} (h : n ≤ l.length) : SlV fc w (if n = 0 then q else q.map (·.add (0 * 8))) (B.add (0 * 8)) (l.take n) n := by
  have hle := hs.le
  have hsm := hs.small
  have hfe := hs.few
  have hl : (l.take n).length = n := by rw [List.length_take]; omega
  refine ⟨fun h0 => ?_, ?_, by omega, by omega, by omega⟩
  · rw [if_neg (by omega), hs.ptr (by omega)]; rfl
  · have := (hs.row.drop (0 * 8)).take (n * 8)
    rwa [Nat.zero_mul, List.drop_zero, rowsV_take fc_len] at this

theorem with_at (s : Bs) (hf : Formed s.br) (hck : checkL s.base = 0) (hsm : Small s) (b2 b6 : Nat) : ∀ (k many : Nat) (w : World), k ≤ s.bls.length → many ≤ lenK s.br k → BsIn s w → Cells w ⟨b2, 0, none⟩ (bvc s) → Cells w ⟨b6, 0, none⟩ [.func (.func 64) #[] #[.pointer (some ⟨b2, 0, none⟩), .pointer (some ⟨b6, 0, none⟩)]] →
    Calls Try.prog 64 (#[.int .i64 ((k : Int) - 1), .int .i64 (many : Int)] ++ #[.pointer (some ⟨b2, 0, none⟩), .pointer (some ⟨b6, 0, none⟩)]) w (Ret fun r w' => Ext [] w w' ∧ RRec w' r (withB s.br ((k : Int) - 1) many)) := by
  intro k
  induction k using Nat.strongRecOn with
  | _ k ih =>
  intro many w hk hm hin h2 h6
  show Calls Try.prog 64 #[.int .i64 ((k : Int) - 1), .int .i64 (many : Int), .pointer (some ⟨b2, 0, none⟩), .pointer (some ⟨b6, 0, none⟩)] w _
  have hbl := br_len s
  refine calls_of_Sx (args := [.int .i64 ((k : Int) - 1), .int .i64 (many : Int), .pointer (some ⟨b2, 0, none⟩), .pointer (some ⟨b6, 0, none⟩)]) Try.func64 rfl rfl ?_
  rcases Nat.eq_zero_or_pos k with h0 | h0
  · subst h0
    have hmb : many ≤ s.base.length := hm
    have hle := hin.base.le
    have hlt : (s.base.take many).length = many := by rw [List.length_take]; omega
    have hsl := fc_head hin.base hmb
    refine ztx ?_
    refine Ox.pure rfl rfl zas ?_
    refine Ox.pure rfl rfl zas ?_
    refine Ox.fin ?_
    refine ztx ?_
    refine Ox.pure rfl rfl zmv ?_
    refine Ox.pure rfl rfl zbc ?_
    refine Ox.fin ?_
    refine zct ?_
    refine ztx ?_
    refine Ox.pure rfl rfl zfa ?_
    refine Ox.val rfl rfl zrs ?_
    refine Ox.pure rfl rfl zmv ?_
    refine Ox.pure rfl rfl zmv ?_
    refine Ox.pure rfl rfl (rp_slice3 0 many many rfl rfl rfl rfl rfl rfl rfl (.inl ⟨rfl, rfl⟩) ⟨_, rfl⟩ ⟨_, rfl⟩ (Nat.zero_le _) (Nat.le_refl _) (by omega)) ?_
    refine Ox.pure rfl rfl zas ?_
    refine Ox.pure rfl rfl zas ?_
    refine Ox.fin ?_
    refine zrt ?_
    refine endE_ret [.slice (if many = 0 then s.p0 else s.p0.map (·.add (0 * 8))) many many, .int .i64 0] ⟨rfl, rfl, trivial⟩ ⟨zxc, ?_⟩
    rw [withB_base (by omega)]
    refine ⟨_, _, many, ?_, hsl.ext0 zxc⟩
    show _ = Value.tuple #[.slice _ (s.base.take many).length many, .int .i64 0]
    rw [hlt]; rfl
  obtain ⟨i, rfl⟩ : ∃ i, k = i + 1 := ⟨k - 1, by omega⟩
  have hi : i < s.br.brs.length := by omega
  obtain ⟨f1, f2, f3, f4, f5⟩ := id hf
  obtain ⟨⟨g1, g2⟩, g3, g4⟩ := f5 i hi
  have hip : i < s.par.length := by have : s.par.length = s.br.brs.length := f2; omega
  have hik : i < s.fks.length := by have : s.fks.length = s.br.brs.length := f3; omega
  have hib : i < s.bls.length := by omega
  obtain ⟨k', hk'⟩ : ∃ k' : Nat, parB s.br i = (k' : Int) - 1 := ⟨(parB s.br i + 1).toNat, by omega⟩
  obtain ⟨m', hm'⟩ : ∃ m' : Nat, fkB s.br i = (m' : Int) := ⟨(fkB s.br i).toNat, by omega⟩
  have hmk : m' ≤ lenK s.br k' := by rw [lenB_K, hk', show ((k' : Int) - 1 + 1).toNat = k' by omega] at g4; omega
  have hpp := hin.par.ptr
  have hpr := hin.par.row
  have hkp := hin.fks.ptr
  have hkr := hin.fks.row
  have hbp := hin.bls.ptr
  have hbr := hin.bls.row
  have hLp : ∀ u, Ext [] w u → Ld Try.prog u 3 (s.A2.add (i * 1 + 0)) (.int .i64 ((k' : Int) - 1)) := fun u hu => by
    rw [← hk', parB_eq hip]; exact ld_field ic_len (hpr.ext0 hu) hip 0 rfl (by decide) rfl
  have hLk : ∀ u, Ext [] w u → Ld Try.prog u 3 (s.A3.add (i * 1 + 0)) (.int .i64 (m' : Int)) := fun u hu => by
    rw [← hm', fkB_eq hik]; exact ld_field ic_len (hkr.ext0 hu) hik 0 rfl (by decide) rfl
  have hLb : ∀ u, Ext [] w u → Ld Try.prog u 59 (s.A1.add (i * 1 + 0)) (.slice s.bls[i].p s.bls[i].l.length s.bls[i].c) := fun u hu => ld_field blc_len (hbr.ext0 hu) hib 0 rfl (by decide) rfl
  obtain ⟨Ab, hsb⟩ := hin.sub _ (List.getElem_mem hib)
  have hbe := brB_eq (s := s) hib
  have hmb : many ≤ s.bls[i].l.length := by have : many ≤ (brB s.br i).length := hm; rwa [hbe] at this
  have hble := hsb.le
  have htl : (s.bls[i].l.take many).length = many := by rw [List.length_take]; omega
  have hT := cr_part hsb (lo := 0) (n := many) (by omega)
  rw [List.drop_zero] at hT
  have hwl := withN_length (b := s.br) (M := 1000) hsm.base hsm.brs k' k' m'
  have hk64 : k' ≤ 64 := by omega
  have hbl2 := hsm.brs i
  rw [hbe] at hbl2
  have hwl2 : (withB s.br ((k' : Int) - 1) m').1.length ≤ 65000 := by
    unfold withB
    rw [show ((k' : Int) - 1 + 1).toNat = k' by omega]
    have : (k' + 1) * 1000 ≤ 65 * 1000 := Nat.mul_le_mul_right _ (by omega)
    omega
  have hwc : checkL (withB s.br ((k' : Int) - 1) m').1 = 0 := withN_check hck _ _ _
  have hrec : ∀ u (l3 : List Fct) (p3 : Option Addr) (A3 : Addr) (c3 : Nat), Ext [] w u → SlV fc u p3 A3 l3 c3 → checkL l3 = 0 → l3.length ≤ 65000 → Calls Try.prog 44 #[.slice p3 l3.length c3, .slice (if s.bls[i].c = 0 then s.bls[i].p else s.bls[i].p.map (·.add (0 * 6))) (many - 0) (s.bls[i].c - 0)] u (Ret fun r w' => Ext [] u w' ∧ RRec w' r (recL l3 (s.bls[i].l.take many))) := fun u l3 p3 A3 c3 hu hs3 hc3 hl3 => by
    have h9 := record_at l3 (s.bls[i].l.take many) p3 _ A3 _ c3 _ u hs3 (hT.ext0 hu) hc3 (by omega)
    rw [htl] at h9
    exact h9
  have hstep : withB s.br (((i + 1 : Nat) : Int) - 1) many = if (withB s.br ((k' : Int) - 1) m').2 ≠ 0 then ([], (withB s.br ((k' : Int) - 1) m').2) else recL (withB s.br ((k' : Int) - 1) m').1 (s.bls[i].l.take many) := by
    rw [show (((i + 1 : Nat) : Int) - 1) = (i : Int) by omega, withB_step hf hi many, hk', hm', hbe, Int.toNat_natCast]
  by_cases hz : (withB s.br ((k' : Int) - 1) m').2 = 0; rotate_left
  · rw [if_pos hz] at hstep
    refine ztx ?_
    refine Ox.pure rfl rfl zas ?_
    refine Ox.pure rfl rfl zas ?_
    refine Ox.fin ?_
    refine ztx ?_
    refine Ox.pure rfl rfl zmv ?_
    refine Ox.pure rfl rfl zbc ?_
    refine Ox.fin ?_
    refine zcf ?_
    refine zsk ?_
    (repeat refine Sx.seq ?_)
    refine Sx.walkR rfl (fun _ _ _ _ h => h) [0, 1, 2, 3, 4, 5, 6, 7, 8, 9, 10, 11, 12, 13, 14, 15, 16] [0, 1, 2, 3, 4, 5, 6, 7, 8, 9, 10, 12, 13, 14, 15, 16] (0) (by kernel_rfl) ?_
    intro hq w1 e1; have hz1 := e1.size
    refine Wx.val hq rfl rfl rfl rfl ([]) zrs ?_
    refine Wx.pure hq rfl rfl rfl rfl zfa ?_
    refine Wx.val hq rfl rfl rfl rfl ([]) zrs ?_
    refine Wx.pure hq rfl rfl rfl rfl zmv ?_
    refine Wx.pure hq rfl rfl rfl rfl (rp_indexAddr i rfl rfl rfl rfl rfl (by assumption) (by omega) hip) ?_
    refine Wx.val hq rfl rfl rfl rfl ([]) (rv_load rfl rfl (fun u hu => hLp u zxc)) ?_
    refine Wx.pure hq rfl rfl rfl rfl zfa ?_
    refine Wx.val hq rfl rfl rfl rfl ([]) zrs ?_
    refine Wx.pure hq rfl rfl rfl rfl zmv ?_
    refine Wx.pure hq rfl rfl rfl rfl (rp_indexAddr i rfl rfl rfl rfl rfl (by assumption) (by omega) hik) ?_
    refine Wx.val hq rfl rfl rfl rfl ([]) (rv_load rfl rfl (fun u hu => hLk u zxc)) ?_
    refine Wx.actNew rfl rfl rfl rfl (acts_callv rfl rfl rfl rfl (ih k' (by omega) m' _ (by omega) hmk (hin.ext0 zxc) (h2.ext0 zxc) (h6.ext0 zxc))) ?_
    rintro vu3 wu3 eu3 ⟨p3, A3, c3, rfl, hs3⟩
    have hzu3 := eu3.size
    refine Wx.pure hq rfl rfl rfl rfl zmv ?_
    refine Wx.pure hq rfl rfl rfl rfl (rp_extract rfl rfl rfl) ?_
    refine Wx.pure hq rfl rfl rfl rfl (rp_extract rfl rfl rfl) ?_
    refine Wx.pure hq rfl rfl rfl rfl zas ?_
    refine Wx.pure hq rfl rfl rfl rfl zas ?_
    refine Wx.fin ?_
    refine ztx ?_
    refine Ox.pure rfl rfl zmv ?_
    refine Ox.pure rfl rfl zbc ?_
    refine Ox.fin ?_
    refine zct ?_
    refine ztx ?_
    refine Ox.pure rfl rfl zmv ?_
    refine Ox.pure rfl rfl zas ?_
    refine Ox.pure rfl rfl zas ?_
    refine Ox.fin ?_
    refine zrt ?_
    exact endE_ret [.slice none 0 0, .int .i64 (withB s.br ((k' : Int) - 1) m').2] ⟨rfl, rfl, trivial⟩ ⟨zxc, by rw [hstep]; exact ⟨none, ⟨0, 0, none⟩, 0, rfl, SlV.nil _ _⟩⟩
  · rw [if_neg (fun h => h hz)] at hstep
    refine ztx ?_
    refine Ox.pure rfl rfl zas ?_
    refine Ox.pure rfl rfl zas ?_
    refine Ox.fin ?_
    refine ztx ?_
    refine Ox.pure rfl rfl zmv ?_
    refine Ox.pure rfl rfl zbc ?_
    refine Ox.fin ?_
    refine zcf ?_
    refine zsk ?_
    (repeat refine Sx.seq ?_)
    refine Sx.walkR rfl (fun _ _ _ _ h => h) [0, 1, 2, 3, 4, 5, 6, 7, 8, 9, 10, 11, 12, 13, 14, 15, 16] [0, 1, 2, 3, 4, 5, 6, 7, 8, 9, 10, 12, 13, 14, 15, 16] (0) (by kernel_rfl) ?_
    intro hq w2 e2; have hz2 := e2.size
    refine Wx.val hq rfl rfl rfl rfl ([]) zrs ?_
    refine Wx.pure hq rfl rfl rfl rfl zfa ?_
    refine Wx.val hq rfl rfl rfl rfl ([]) zrs ?_
    refine Wx.pure hq rfl rfl rfl rfl zmv ?_
    refine Wx.pure hq rfl rfl rfl rfl (rp_indexAddr i rfl rfl rfl rfl rfl (by assumption) (by omega) hip) ?_
    refine Wx.val hq rfl rfl rfl rfl ([]) (rv_load rfl rfl (fun u hu => hLp u zxc)) ?_
    refine Wx.pure hq rfl rfl rfl rfl zfa ?_
    refine Wx.val hq rfl rfl rfl rfl ([]) zrs ?_
    refine Wx.pure hq rfl rfl rfl rfl zmv ?_
    refine Wx.pure hq rfl rfl rfl rfl (rp_indexAddr i rfl rfl rfl rfl rfl (by assumption) (by omega) hik) ?_
    refine Wx.val hq rfl rfl rfl rfl ([]) (rv_load rfl rfl (fun u hu => hLk u zxc)) ?_
    refine Wx.actNew rfl rfl rfl rfl (acts_callv rfl rfl rfl rfl (ih k' (by omega) m' _ (by omega) hmk (hin.ext0 zxc) (h2.ext0 zxc) (h6.ext0 zxc))) ?_
    rintro vu3 wu3 eu3 ⟨p3, A3, c3, rfl, hs3⟩
    have hzu3 := eu3.size
    refine Wx.pure hq rfl rfl rfl rfl zmv ?_
    refine Wx.pure hq rfl rfl rfl rfl (rp_extract rfl rfl rfl) ?_
    refine Wx.pure hq rfl rfl rfl rfl (rp_extract rfl rfl rfl) ?_
    refine Wx.pure hq rfl rfl rfl rfl zas ?_
    refine Wx.pure hq rfl rfl rfl rfl zas ?_
    refine Wx.fin ?_
    refine ztx ?_
    refine Ox.pure rfl rfl zmv ?_
    refine Ox.pure rfl rfl zbc ?_
    refine Ox.fin ?_
    refine zcf ?_
    refine zsk ?_
    refine ztx ?_
    refine Ox.pure rfl rfl zmv ?_
    refine Ox.pure rfl rfl zfa ?_
    refine Ox.val rfl rfl zrs ?_
    refine Ox.pure rfl rfl zmv ?_
    refine Ox.pure rfl rfl (rp_indexAddr i rfl rfl rfl rfl rfl (by assumption) (by omega) hib) ?_
    refine Ox.val rfl rfl (rv_load rfl rfl (fun u hu => hLb u zxc)) ?_
    refine Ox.pure rfl rfl zmv ?_
    refine Ox.pure rfl rfl (rp_sliceS 0 many rfl rfl rfl rfl rfl rfl (.inl ⟨rfl, rfl⟩) (.inr ⟨_, rfl⟩) (Nat.zero_le _) (by omega)) ?_
    refine Ox.act rfl rfl (acts_call rfl rfl rfl (hrec _ _ p3 A3 c3 zxc (hs3.ext0 zxc) hwc hwl2)) ?_
    rintro v3 w3 ⟨e3, p8, A8, c8, rfl, hs8⟩
    have hz3 := e3.size
    refine Ox.pure rfl rfl (rp_extract rfl rfl rfl) ?_
    refine Ox.pure rfl rfl (rp_extract rfl rfl rfl) ?_
    refine Ox.pure rfl rfl zas ?_
    refine Ox.pure rfl rfl zas ?_
    refine Ox.fin ?_
    refine zrt ?_
    exact endE_ret [.slice p8 (recL (withB s.br ((k' : Int) - 1) m').1 (s.bls[i].l.take many)).1.length c8, .int .i64 (recL (withB s.br ((k' : Int) - 1) m').1 (s.bls[i].l.take many)).2] ⟨rfl, rfl, trivial⟩ ⟨zxc, by rw [hstep]; exact ⟨p8, A8, c8, rfl, hs8.ext0 zxc⟩⟩

theorem of_br (s : Bs) (hf : Formed s.br) (hck : checkL s.base = 0) (hsm : Small s) (k : Nat) (hk : k ≤ s.bls.length) (w : World) (hin : BsIn s w) :
    Calls Try.prog 43 #[.agg (bvc s).toArray, .int .i64 ((k : Int) - 1)] w (Ret fun r w' => Ext [] w w' ∧ RRec w' r (ofB s.br ((k : Int) - 1))) := by
  refine calls_of_Sx (args := [.agg (bvc s).toArray, .int .i64 ((k : Int) - 1)]) Try.func43 rfl rfl ?_
  refine ztx ?_
  refine Ox.act rfl rfl (acts_box rfl rfl) ?_
  rintro vb2 wb2 ⟨eb2, bb2, rfl, hbb2, hBb2⟩
  first | (have hCb2 : Cells wb2 ⟨bb2, 0, none⟩ [_, _, _, _, _] := hBb2.cells) | have hCb2 := Blk.cellsL hBb2
  have hlb2 := hBb2.lt
  have hzb2 := eb2.size
  refine Ox.pure rfl rfl zas ?_
  refine Ox.pure rfl rfl zas ?_
  refine Ox.fin ?_
  refine ztx ?_
  refine Ox.act rfl rfl (acts_alloc rfl rfl) ?_
  rintro vb6 wb6 ⟨eb6, bb6, rfl, hbb6, hBb6⟩
  first | (have hCb6 : Cells wb6 ⟨bb6, 0, none⟩ [_] := hBb6.cells) | have hCb6 := Blk.cellsL hBb6
  have hlb6 := hBb6.lt
  have hzb6 := eb6.size
  refine Ox.fin ?_
  refine ztx ?_
  refine Ox.pure rfl rfl (rp_makeFunc rfl rfl rfl) ?_
  refine Ox.act rfl rfl (acts_store_all rfl rfl rfl (hBb6.ext (X := []) zxc (by simp)) rfl rfl rfl (by (first | assumption | exact List.all_eq_true.mp rfl | simp [Value.cells, Value.oneCell']))) ?_
  rintro vs6 ws6 ⟨rfl, qs6, hBs6⟩
  have es6 : Ext [] w ws6 := Ext.renew zxc qs6 (by omega)
  have e2s6 : Ext [] wb2 ws6 := Ext.renew zxc qs6 (by omega)
  have hCs6 : Cells ws6 ⟨bb6, 0, none⟩ [.func (.func 64) #[] #[.pointer (some ⟨bb2, 0, none⟩), .pointer (some ⟨bb6, 0, none⟩)]] := hBs6.cells
  refine Ox.fin ?_
  have hC2 : Cells ws6 ⟨bb2, 0, none⟩ (bvc s) := hCb2.ext0 e2s6
  (repeat refine Sx.seq ?_)
  refine Sx.walkR rfl (fun _ _ _ _ h => h) [0, 1, 2, 3, 4, 5, 6, 7, 8, 9] [0, 1, 2, 3, 6, 7, 8, 9] (0) (by kernel_rfl) ?_
  intro hq w4 e4; have hz4 := e4.size
  refine Wx.val hq rfl rfl rfl rfl ([]) zrs ?_
  refine Wx.pure hq rfl rfl rfl rfl zmv ?_
  refine Wx.val hq rfl rfl rfl rfl ([]) zra ?_
  refine Wx.pure hq rfl rfl rfl rfl zmv ?_
  refine Wx.actNew rfl rfl rfl rfl (acts_call rfl rfl rfl (length_at_p s ((k : Int) - 1) _ (hin.ext0 zxc) (by omega))) ?_
  rintro v5 w5 e5 rfl
  have hz5 := e5.size
  refine Wx.actNew rfl rfl rfl rfl (acts_callv rfl rfl rfl rfl (with_at s hf hck hsm bb2 bb6 k (lenB s.br ((k : Int) - 1)) _ hk (by rw [lenB_K, show ((k : Int) - 1 + 1).toNat = k by omega]; exact Nat.le_refl _) (hin.ext0 zxc) (hC2.ext0 zxc) (hCs6.ext0 zxc))) ?_
  rintro v6 w6 e6 ⟨p5, A5, c5, rfl, hs5⟩
  have hz6 := e6.size
  refine Wx.pure hq rfl rfl rfl rfl (rp_extract rfl rfl rfl) ?_
  refine Wx.pure hq rfl rfl rfl rfl (rp_extract rfl rfl rfl) ?_
  refine Wx.pure hq rfl rfl rfl rfl zas ?_
  refine Wx.pure hq rfl rfl rfl rfl zas ?_
  refine Wx.fin ?_
  refine zrt ?_
  exact endE_ret [.slice p5 (ofB s.br ((k : Int) - 1)).1.length c5, .int .i64 (ofB s.br ((k : Int) - 1)).2] ⟨rfl, rfl, trivial⟩ ⟨zxc, p5, A5, c5, rfl, hs5.ext0 zxc⟩

end Go.Proofs.Ytfgckcochilpkaa

/- Branches' walks: validity. -/
set_option linter.unusedVariables false
set_option maxRecDepth 100000
set_option maxHeartbeats 4000000
set_option linter.unusedSimpArgs false
namespace Go.Proofs.Ytfgckcochilpkaa
open Go Go.Eng

theorem of_no (s : Bs) (hf : Formed s.br) (hck : checkL s.base = 0) (hsm : Small s) (no : Int) (h1 : -1 ≤ no) (h2 : no < (s.bls.length : Int)) (w : World) (hin : BsIn s w) :
    Calls Try.prog 43 #[.agg (bvc s).toArray, .int .i64 no] w (Ret fun r w' => Ext [] w w' ∧ RRec w' r (ofB s.br no)) := by
  have h9 := of_br s hf hck hsm (no + 1).toNat (by omega) w hin
  rw [show (((no + 1).toNat : Int) - 1) = no by omega] at h9
  exact h9
theorem valid_br (s : Bs) (hsm : Small s) (w : World) (hin : BsIn s w) :
    Calls Try.prog 35 #[.agg (bvc s).toArray] w (Ret fun r w' => Ext [] w w' ∧ r = .bool (decide (ValidB s.br))) := by
  have hpp := hin.par.ptr
  have hpr := hin.par.row
  have hpf := hin.par.few
  have hkp := hin.fks.ptr
  have hkr := hin.fks.row
  have hkf := hin.fks.few
  have hbf := hin.bls.few
  have hdf := hin.done.few
  have hbl := br_len s
  refine calls_of_Sx (args := [.agg (bvc s).toArray]) Try.func35 rfl rfl ?_
  by_cases hch1 : s.bls.length ≤ 64; rotate_left
  ·   have hno : ¬ ValidB s.br := by
        rintro ⟨⟨a1, a2, a3, a4, _⟩, _⟩
        rw [hbl] at a1 a2 a3 a4
        first | exact absurd a1 (by assumption) | exact absurd a2 (by assumption) | exact absurd a3 (by assumption) | exact absurd a4 (by assumption)
      refine ztx ?_
      refine Ox.act rfl rfl (acts_box rfl rfl) ?_
      rintro vb1 wb1 ⟨eb1, bb1, rfl, hbb1, hBb1⟩
      first | (have hCb1 : Cells wb1 ⟨bb1, 0, none⟩ [_, _, _, _, _] := hBb1.cells) | have hCb1 := Blk.cellsL hBb1
      have hlb1 := hBb1.lt
      have hzb1 := eb1.size
      refine Ox.pure rfl rfl zas ?_
      refine Ox.fin ?_
      refine ztx ?_
      refine Ox.pure rfl rfl zfa ?_
      refine Ox.val rfl rfl zrs ?_
      refine Ox.pure rfl rfl (rp_lenS rfl rfl rfl) ?_
      refine Ox.pure rfl rfl zas ?_
      refine Ox.fin ?_
      refine ztx ?_
      refine Ox.pure rfl rfl zmv ?_
      refine Ox.pure rfl rfl zbc ?_
      refine Ox.pure rfl rfl zmv ?_
      first | (refine Ox.skip rfl rfl ?_) | (refine Ox.pure rfl rfl zfa ?_)
      first | (refine Ox.skip rfl rfl ?_) | (refine Ox.val rfl rfl zrs ?_)
      first | (refine Ox.skip rfl rfl ?_) | (refine Ox.pure rfl rfl (rp_lenS rfl rfl rfl) ?_)
      first | (refine Ox.skip rfl rfl ?_) | (refine Ox.pure rfl rfl zmv ?_)
      first | (refine Ox.skip rfl rfl ?_) | (refine Ox.pure rfl rfl zbc ?_)
      refine Ox.pure rfl rfl zpk ?_
      refine Ox.pure rfl rfl zmv ?_
      first | (refine Ox.skip rfl rfl ?_) | (refine Ox.pure rfl rfl zfa ?_)
      first | (refine Ox.skip rfl rfl ?_) | (refine Ox.val rfl rfl zrs ?_)
      first | (refine Ox.skip rfl rfl ?_) | (refine Ox.pure rfl rfl (rp_lenS rfl rfl rfl) ?_)
      first | (refine Ox.skip rfl rfl ?_) | (refine Ox.pure rfl rfl zmv ?_)
      first | (refine Ox.skip rfl rfl ?_) | (refine Ox.pure rfl rfl zbc ?_)
      refine Ox.pure rfl rfl zpk ?_
      refine Ox.pure rfl rfl zmv ?_
      first | (refine Ox.skip rfl rfl ?_) | (refine Ox.pure rfl rfl zfa ?_)
      first | (refine Ox.skip rfl rfl ?_) | (refine Ox.val rfl rfl zrs ?_)
      first | (refine Ox.skip rfl rfl ?_) | (refine Ox.pure rfl rfl (rp_lenS rfl rfl rfl) ?_)
      first | (refine Ox.skip rfl rfl ?_) | (refine Ox.pure rfl rfl zmv ?_)
      first | (refine Ox.skip rfl rfl ?_) | (refine Ox.pure rfl rfl zbc ?_)
      refine Ox.pure rfl rfl zpk ?_
      refine Ox.fin ?_
      refine zct ?_
      refine ztx ?_
      refine Ox.pure rfl rfl zas ?_
      refine Ox.fin ?_
      refine zrt ?_
      exact endE_ret [_] ⟨rfl, trivial⟩ ⟨zxc, congrArg Value.bool (decide_eq_false hno).symm⟩
  by_cases hch2 : s.par.length = s.bls.length; rotate_left
  ·   have hno : ¬ ValidB s.br := by
        rintro ⟨⟨a1, a2, a3, a4, _⟩, _⟩
        rw [hbl] at a1 a2 a3 a4
        first | exact absurd a1 (by assumption) | exact absurd a2 (by assumption) | exact absurd a3 (by assumption) | exact absurd a4 (by assumption)
      refine ztx ?_
      refine Ox.act rfl rfl (acts_box rfl rfl) ?_
      rintro vb1 wb1 ⟨eb1, bb1, rfl, hbb1, hBb1⟩
      first | (have hCb1 : Cells wb1 ⟨bb1, 0, none⟩ [_, _, _, _, _] := hBb1.cells) | have hCb1 := Blk.cellsL hBb1
      have hlb1 := hBb1.lt
      have hzb1 := eb1.size
      refine Ox.pure rfl rfl zas ?_
      refine Ox.fin ?_
      refine ztx ?_
      refine Ox.pure rfl rfl zfa ?_
      refine Ox.val rfl rfl zrs ?_
      refine Ox.pure rfl rfl (rp_lenS rfl rfl rfl) ?_
      refine Ox.pure rfl rfl zas ?_
      refine Ox.fin ?_
      refine ztx ?_
      refine Ox.pure rfl rfl zmv ?_
      refine Ox.pure rfl rfl zbc ?_
      refine Ox.pure rfl rfl zmv ?_
      first | (refine Ox.skip rfl rfl ?_) | (refine Ox.pure rfl rfl zfa ?_)
      first | (refine Ox.skip rfl rfl ?_) | (refine Ox.val rfl rfl zrs ?_)
      first | (refine Ox.skip rfl rfl ?_) | (refine Ox.pure rfl rfl (rp_lenS rfl rfl rfl) ?_)
      first | (refine Ox.skip rfl rfl ?_) | (refine Ox.pure rfl rfl zmv ?_)
      first | (refine Ox.skip rfl rfl ?_) | (refine Ox.pure rfl rfl zbc ?_)
      refine Ox.pure rfl rfl zpk ?_
      refine Ox.pure rfl rfl zmv ?_
      first | (refine Ox.skip rfl rfl ?_) | (refine Ox.pure rfl rfl zfa ?_)
      first | (refine Ox.skip rfl rfl ?_) | (refine Ox.val rfl rfl zrs ?_)
      first | (refine Ox.skip rfl rfl ?_) | (refine Ox.pure rfl rfl (rp_lenS rfl rfl rfl) ?_)
      first | (refine Ox.skip rfl rfl ?_) | (refine Ox.pure rfl rfl zmv ?_)
      first | (refine Ox.skip rfl rfl ?_) | (refine Ox.pure rfl rfl zbc ?_)
      refine Ox.pure rfl rfl zpk ?_
      refine Ox.pure rfl rfl zmv ?_
      first | (refine Ox.skip rfl rfl ?_) | (refine Ox.pure rfl rfl zfa ?_)
      first | (refine Ox.skip rfl rfl ?_) | (refine Ox.val rfl rfl zrs ?_)
      first | (refine Ox.skip rfl rfl ?_) | (refine Ox.pure rfl rfl (rp_lenS rfl rfl rfl) ?_)
      first | (refine Ox.skip rfl rfl ?_) | (refine Ox.pure rfl rfl zmv ?_)
      first | (refine Ox.skip rfl rfl ?_) | (refine Ox.pure rfl rfl zbc ?_)
      refine Ox.pure rfl rfl zpk ?_
      refine Ox.fin ?_
      refine zct ?_
      refine ztx ?_
      refine Ox.pure rfl rfl zas ?_
      refine Ox.fin ?_
      refine zrt ?_
      exact endE_ret [_] ⟨rfl, trivial⟩ ⟨zxc, congrArg Value.bool (decide_eq_false hno).symm⟩
  by_cases hch3 : s.fks.length = s.bls.length; rotate_left
  ·   have hno : ¬ ValidB s.br := by
        rintro ⟨⟨a1, a2, a3, a4, _⟩, _⟩
        rw [hbl] at a1 a2 a3 a4
        first | exact absurd a1 (by assumption) | exact absurd a2 (by assumption) | exact absurd a3 (by assumption) | exact absurd a4 (by assumption)
      refine ztx ?_
      refine Ox.act rfl rfl (acts_box rfl rfl) ?_
      rintro vb1 wb1 ⟨eb1, bb1, rfl, hbb1, hBb1⟩
      first | (have hCb1 : Cells wb1 ⟨bb1, 0, none⟩ [_, _, _, _, _] := hBb1.cells) | have hCb1 := Blk.cellsL hBb1
      have hlb1 := hBb1.lt
      have hzb1 := eb1.size
      refine Ox.pure rfl rfl zas ?_
      refine Ox.fin ?_
      refine ztx ?_
      refine Ox.pure rfl rfl zfa ?_
      refine Ox.val rfl rfl zrs ?_
      refine Ox.pure rfl rfl (rp_lenS rfl rfl rfl) ?_
      refine Ox.pure rfl rfl zas ?_
      refine Ox.fin ?_
      refine ztx ?_
      refine Ox.pure rfl rfl zmv ?_
      refine Ox.pure rfl rfl zbc ?_
      refine Ox.pure rfl rfl zmv ?_
      first | (refine Ox.skip rfl rfl ?_) | (refine Ox.pure rfl rfl zfa ?_)
      first | (refine Ox.skip rfl rfl ?_) | (refine Ox.val rfl rfl zrs ?_)
      first | (refine Ox.skip rfl rfl ?_) | (refine Ox.pure rfl rfl (rp_lenS rfl rfl rfl) ?_)
      first | (refine Ox.skip rfl rfl ?_) | (refine Ox.pure rfl rfl zmv ?_)
      first | (refine Ox.skip rfl rfl ?_) | (refine Ox.pure rfl rfl zbc ?_)
      refine Ox.pure rfl rfl zpk ?_
      refine Ox.pure rfl rfl zmv ?_
      first | (refine Ox.skip rfl rfl ?_) | (refine Ox.pure rfl rfl zfa ?_)
      first | (refine Ox.skip rfl rfl ?_) | (refine Ox.val rfl rfl zrs ?_)
      first | (refine Ox.skip rfl rfl ?_) | (refine Ox.pure rfl rfl (rp_lenS rfl rfl rfl) ?_)
      first | (refine Ox.skip rfl rfl ?_) | (refine Ox.pure rfl rfl zmv ?_)
      first | (refine Ox.skip rfl rfl ?_) | (refine Ox.pure rfl rfl zbc ?_)
      refine Ox.pure rfl rfl zpk ?_
      refine Ox.pure rfl rfl zmv ?_
      first | (refine Ox.skip rfl rfl ?_) | (refine Ox.pure rfl rfl zfa ?_)
      first | (refine Ox.skip rfl rfl ?_) | (refine Ox.val rfl rfl zrs ?_)
      first | (refine Ox.skip rfl rfl ?_) | (refine Ox.pure rfl rfl (rp_lenS rfl rfl rfl) ?_)
      first | (refine Ox.skip rfl rfl ?_) | (refine Ox.pure rfl rfl zmv ?_)
      first | (refine Ox.skip rfl rfl ?_) | (refine Ox.pure rfl rfl zbc ?_)
      refine Ox.pure rfl rfl zpk ?_
      refine Ox.fin ?_
      refine zct ?_
      refine ztx ?_
      refine Ox.pure rfl rfl zas ?_
      refine Ox.fin ?_
      refine zrt ?_
      exact endE_ret [_] ⟨rfl, trivial⟩ ⟨zxc, congrArg Value.bool (decide_eq_false hno).symm⟩
  by_cases hch4 : s.done.length = s.bls.length; rotate_left
  ·   have hno : ¬ ValidB s.br := by
        rintro ⟨⟨a1, a2, a3, a4, _⟩, _⟩
        rw [hbl] at a1 a2 a3 a4
        first | exact absurd a1 (by assumption) | exact absurd a2 (by assumption) | exact absurd a3 (by assumption) | exact absurd a4 (by assumption)
      refine ztx ?_
      refine Ox.act rfl rfl (acts_box rfl rfl) ?_
      rintro vb1 wb1 ⟨eb1, bb1, rfl, hbb1, hBb1⟩
      first | (have hCb1 : Cells wb1 ⟨bb1, 0, none⟩ [_, _, _, _, _] := hBb1.cells) | have hCb1 := Blk.cellsL hBb1
      have hlb1 := hBb1.lt
      have hzb1 := eb1.size
      refine Ox.pure rfl rfl zas ?_
      refine Ox.fin ?_
      refine ztx ?_
      refine Ox.pure rfl rfl zfa ?_
      refine Ox.val rfl rfl zrs ?_
      refine Ox.pure rfl rfl (rp_lenS rfl rfl rfl) ?_
      refine Ox.pure rfl rfl zas ?_
      refine Ox.fin ?_
      refine ztx ?_
      refine Ox.pure rfl rfl zmv ?_
      refine Ox.pure rfl rfl zbc ?_
      refine Ox.pure rfl rfl zmv ?_
      first | (refine Ox.skip rfl rfl ?_) | (refine Ox.pure rfl rfl zfa ?_)
      first | (refine Ox.skip rfl rfl ?_) | (refine Ox.val rfl rfl zrs ?_)
      first | (refine Ox.skip rfl rfl ?_) | (refine Ox.pure rfl rfl (rp_lenS rfl rfl rfl) ?_)
      first | (refine Ox.skip rfl rfl ?_) | (refine Ox.pure rfl rfl zmv ?_)
      first | (refine Ox.skip rfl rfl ?_) | (refine Ox.pure rfl rfl zbc ?_)
      refine Ox.pure rfl rfl zpk ?_
      refine Ox.pure rfl rfl zmv ?_
      first | (refine Ox.skip rfl rfl ?_) | (refine Ox.pure rfl rfl zfa ?_)
      first | (refine Ox.skip rfl rfl ?_) | (refine Ox.val rfl rfl zrs ?_)
      first | (refine Ox.skip rfl rfl ?_) | (refine Ox.pure rfl rfl (rp_lenS rfl rfl rfl) ?_)
      first | (refine Ox.skip rfl rfl ?_) | (refine Ox.pure rfl rfl zmv ?_)
      first | (refine Ox.skip rfl rfl ?_) | (refine Ox.pure rfl rfl zbc ?_)
      refine Ox.pure rfl rfl zpk ?_
      refine Ox.pure rfl rfl zmv ?_
      first | (refine Ox.skip rfl rfl ?_) | (refine Ox.pure rfl rfl zfa ?_)
      first | (refine Ox.skip rfl rfl ?_) | (refine Ox.val rfl rfl zrs ?_)
      first | (refine Ox.skip rfl rfl ?_) | (refine Ox.pure rfl rfl (rp_lenS rfl rfl rfl) ?_)
      first | (refine Ox.skip rfl rfl ?_) | (refine Ox.pure rfl rfl zmv ?_)
      first | (refine Ox.skip rfl rfl ?_) | (refine Ox.pure rfl rfl zbc ?_)
      refine Ox.pure rfl rfl zpk ?_
      refine Ox.fin ?_
      refine zct ?_
      refine ztx ?_
      refine Ox.pure rfl rfl zas ?_
      refine Ox.fin ?_
      refine zrt ?_
      exact endE_ret [_] ⟨rfl, trivial⟩ ⟨zxc, congrArg Value.bool (decide_eq_false hno).symm⟩
  refine ztx ?_
  refine Ox.act rfl rfl (acts_box rfl rfl) ?_
  rintro vb1 wb1 ⟨eb1, bb1, rfl, hbb1, hBb1⟩
  first | (have hCb1 : Cells wb1 ⟨bb1, 0, none⟩ [_, _, _, _, _] := hBb1.cells) | have hCb1 := Blk.cellsL hBb1
  have hlb1 := hBb1.lt
  have hzb1 := eb1.size
  refine Ox.pure rfl rfl zas ?_
  refine Ox.fin ?_
  refine ztx ?_
  refine Ox.pure rfl rfl zfa ?_
  refine Ox.val rfl rfl zrs ?_
  refine Ox.pure rfl rfl (rp_lenS rfl rfl rfl) ?_
  refine Ox.pure rfl rfl zas ?_
  refine Ox.fin ?_
  refine ztx ?_
  refine Ox.pure rfl rfl zmv ?_
  refine Ox.pure rfl rfl zbc ?_
  refine Ox.pure rfl rfl zmv ?_
  first | (refine Ox.skip rfl rfl ?_) | (refine Ox.pure rfl rfl zfa ?_)
  first | (refine Ox.skip rfl rfl ?_) | (refine Ox.val rfl rfl zrs ?_)
  first | (refine Ox.skip rfl rfl ?_) | (refine Ox.pure rfl rfl (rp_lenS rfl rfl rfl) ?_)
  first | (refine Ox.skip rfl rfl ?_) | (refine Ox.pure rfl rfl zmv ?_)
  first | (refine Ox.skip rfl rfl ?_) | (refine Ox.pure rfl rfl zbc ?_)
  refine Ox.pure rfl rfl zpk ?_
  refine Ox.pure rfl rfl zmv ?_
  first | (refine Ox.skip rfl rfl ?_) | (refine Ox.pure rfl rfl zfa ?_)
  first | (refine Ox.skip rfl rfl ?_) | (refine Ox.val rfl rfl zrs ?_)
  first | (refine Ox.skip rfl rfl ?_) | (refine Ox.pure rfl rfl (rp_lenS rfl rfl rfl) ?_)
  first | (refine Ox.skip rfl rfl ?_) | (refine Ox.pure rfl rfl zmv ?_)
  first | (refine Ox.skip rfl rfl ?_) | (refine Ox.pure rfl rfl zbc ?_)
  refine Ox.pure rfl rfl zpk ?_
  refine Ox.pure rfl rfl zmv ?_
  first | (refine Ox.skip rfl rfl ?_) | (refine Ox.pure rfl rfl zfa ?_)
  first | (refine Ox.skip rfl rfl ?_) | (refine Ox.val rfl rfl zrs ?_)
  first | (refine Ox.skip rfl rfl ?_) | (refine Ox.pure rfl rfl (rp_lenS rfl rfl rfl) ?_)
  first | (refine Ox.skip rfl rfl ?_) | (refine Ox.pure rfl rfl zmv ?_)
  first | (refine Ox.skip rfl rfl ?_) | (refine Ox.pure rfl rfl zbc ?_)
  refine Ox.pure rfl rfl zpk ?_
  refine Ox.fin ?_
  refine zcf ?_
  refine zsk ?_
  refine ztx ?_
  refine Ox.pure rfl rfl zfa ?_
  refine Ox.val rfl rfl zrs ?_
  refine Ox.pure rfl rfl (rp_lenS rfl rfl rfl) ?_
  refine Ox.pure rfl rfl zmv ?_
  refine Ox.fin ?_
  refine zbl ?_
  refine Sx.loop (ι := Nat) (fun i E wr => E = [(1, .pointer (some ⟨bb1, 0, none⟩)), (3, .int .i64 (s.bls.length : Int)), (36, .slice s.p2 s.par.length s.c2), (37, .int .i64 (s.par.length : Int)), (38, .int .i64 (i : Int))] ∧ i ≤ s.par.length ∧ Ext [] wb1 wr ∧ ∀ j, j < i → (-1 ≤ parB s.br j ∧ parB s.br j < (j : Int)) ∧ 0 ≤ fkB s.br j ∧ fkB s.br j ≤ (lenB s.br (parB s.br j) : Int)) (fun i => s.par.length - i) 0
    (sub_cons rfl (sub_cons rfl (sub_cons rfl (sub_cons rfl (sub_cons rfl sub_nil))))) ⟨rfl, Nat.zero_le _, zxc, fun j h => absurd h (Nat.not_lt_zero _)⟩ ?_
  rintro i E wr ⟨rfl, hi, er, hall⟩
  have hz := er.size
  by_cases hlt : i < s.par.length
  · have hik : i < s.fks.length := by omega
    have hLp : ∀ u, Ext [] wr u → Ld Try.prog u 3 (s.A2.add (i * 1 + 0)) (.int .i64 (parB s.br i)) := fun u hu => by
      rw [parB_eq hlt]; exact ld_field ic_len (hpr.ext0 zxc) hlt 0 rfl (by decide) rfl
    have hLk : ∀ u, Ext [] wr u → Ld Try.prog u 3 (s.A3.add (i * 1 + 0)) (.int .i64 (fkB s.br i)) := fun u hu => by
      rw [fkB_eq hik]; exact ld_field ic_len (hkr.ext0 zxc) hik 0 rfl (by decide) rfl
    by_cases hch1 : -1 ≤ parB s.br i; rotate_left
    ·     have hno : ¬ ValidB s.br := by
            rintro ⟨⟨_, _, _, _, a5⟩, _⟩
            obtain ⟨⟨x1, x2⟩, x3, x4⟩ := a5 i (by omega)
            first | exact absurd x1 (by assumption) | exact absurd x2 (by assumption) | exact absurd x3 (by assumption) | exact absurd x4 (by assumption)
          refine ztx ?_
          refine Ox.pure rfl rfl zbc ?_
          refine Ox.fin ?_
          refine zct ?_
          refine zsk ?_
          refine zbl ?_
          refine ztx ?_
          refine Ox.pure rfl rfl zmv ?_
          refine Ox.pure rfl rfl zix ?_
          refine Ox.val rfl rfl (rv_load rfl rfl (fun u hu => hLp u zxc)) ?_
          refine Ox.pure rfl rfl zas ?_
          refine Ox.pure rfl rfl zas ?_
          refine Ox.fin ?_
          (repeat refine Sx.seq ?_)
          refine Sx.walkR rfl (fun _ _ _ _ h => h) [0, 1, 2, 3, 4, 5, 6, 7, 8, 9, 10, 11, 12, 13, 14, 15, 16, 17, 18, 19, 20, 21, 22, 23, 24, 25] [0, 1, 2, 3, 4, 5, 6, 7, 8, 9, 10, 11, 12, 13, 14, 15, 16, 17, 18, 19, 20, 21, 22, 24, 25] (0) (by kernel_rfl) ?_
          intro hq w1 e1; have hz1 := e1.size
          refine Wx.pure hq rfl rfl rfl rfl zmv ?_
          refine Wx.pure hq rfl rfl rfl rfl zbc ?_
          refine Wx.pure hq rfl rfl rfl rfl zmv ?_
          first | (refine Wx.skip hq rfl rfl rfl rfl ?_) | (refine Wx.pure hq rfl rfl rfl rfl zmv ?_)
          first | (refine Wx.skip hq rfl rfl rfl rfl ?_) | (refine Wx.pure hq rfl rfl rfl rfl zmv ?_)
          first | (refine Wx.skip hq rfl rfl rfl rfl ?_) | (refine Wx.pure hq rfl rfl rfl rfl zbc ?_)
          refine Wx.pure hq rfl rfl rfl rfl zpk ?_
          refine Wx.pure hq rfl rfl rfl rfl zmv ?_
          first | (refine Wx.skip hq rfl rfl rfl rfl ?_) | (refine Wx.pure hq rfl rfl rfl rfl zfa ?_)
          first | (refine Wx.skip hq rfl rfl rfl rfl ?_) | (refine Wx.val hq rfl rfl rfl rfl ([]) zrs ?_)
          first | (refine Wx.skip hq rfl rfl rfl rfl ?_) | (refine Wx.pure hq rfl rfl rfl rfl zmv ?_)
          first | (refine Wx.skip hq rfl rfl rfl rfl ?_) | (refine Wx.pure hq rfl rfl rfl rfl (rp_indexAddr i rfl rfl rfl rfl rfl (by assumption) rfl hik) ?_)
          first | (refine Wx.skip hq rfl rfl rfl rfl ?_) | (refine Wx.val hq rfl rfl rfl rfl ([]) (rv_load rfl rfl (fun u hu => hLk u zxc)) ?_)
          first | (refine Wx.skip hq rfl rfl rfl rfl ?_) | (refine Wx.pure hq rfl rfl rfl rfl zbc ?_)
          refine Wx.pure hq rfl rfl rfl rfl zpk ?_
          refine Wx.pure hq rfl rfl rfl rfl zmv ?_
          first | (refine Wx.skip hq rfl rfl rfl rfl ?_) | (refine Wx.pure hq rfl rfl rfl rfl zfa ?_)
          first | (refine Wx.skip hq rfl rfl rfl rfl ?_) | (refine Wx.val hq rfl rfl rfl rfl ([]) zrs ?_)
          first | (refine Wx.skip hq rfl rfl rfl rfl ?_) | (refine Wx.pure hq rfl rfl rfl rfl zmv ?_)
          first | (refine Wx.skip hq rfl rfl rfl rfl ?_) | (refine Wx.pure hq rfl rfl rfl rfl (rp_indexAddr i rfl rfl rfl rfl rfl (by assumption) rfl hik) ?_)
          first | (refine Wx.skip hq rfl rfl rfl rfl ?_) | (refine Wx.val hq rfl rfl rfl rfl ([]) (rv_load rfl rfl (fun u hu => hLk u zxc)) ?_)
          first | (refine Wx.skip hq rfl rfl rfl rfl ?_) | (refine Wx.val hq rfl rfl rfl rfl ([]) zra ?_)
          first | (refine Wx.skip hq rfl rfl rfl rfl ?_) | (refine Wx.pure hq rfl rfl rfl rfl zmv ?_)
          first | (refine Wx.actSkip rfl rfl rfl rfl ?_) | (refine Wx.actNew rfl rfl rfl rfl (acts_call rfl rfl rfl (length_at_p s (parB s.br i) _ (hin.ext0 zxc) (by omega))) ?_; rintro v2 w2 e2 rfl; have hz2 := e2.size)
          first | (refine Wx.skip hq rfl rfl rfl rfl ?_) | (refine Wx.pure hq rfl rfl rfl rfl zbc ?_)
          refine Wx.pure hq rfl rfl rfl rfl zpk ?_
          refine Wx.fin ?_
          refine zct ?_
          refine ztx ?_
          refine Ox.pure rfl rfl zas ?_
          refine Ox.fin ?_
          refine zrt ?_
          exact endE_ret [_] ⟨rfl, trivial⟩ ⟨zxc, congrArg Value.bool (decide_eq_false hno).symm⟩
    by_cases hch2 : parB s.br i < (i : Int); rotate_left
    ·     have hno : ¬ ValidB s.br := by
            rintro ⟨⟨_, _, _, _, a5⟩, _⟩
            obtain ⟨⟨x1, x2⟩, x3, x4⟩ := a5 i (by omega)
            first | exact absurd x1 (by assumption) | exact absurd x2 (by assumption) | exact absurd x3 (by assumption) | exact absurd x4 (by assumption)
          refine ztx ?_
          refine Ox.pure rfl rfl zbc ?_
          refine Ox.fin ?_
          refine zct ?_
          refine zsk ?_
          refine zbl ?_
          refine ztx ?_
          refine Ox.pure rfl rfl zmv ?_
          refine Ox.pure rfl rfl zix ?_
          refine Ox.val rfl rfl (rv_load rfl rfl (fun u hu => hLp u zxc)) ?_
          refine Ox.pure rfl rfl zas ?_
          refine Ox.pure rfl rfl zas ?_
          refine Ox.fin ?_
          (repeat refine Sx.seq ?_)
          refine Sx.walkR rfl (fun _ _ _ _ h => h) [0, 1, 2, 3, 4, 5, 6, 7, 8, 9, 10, 11, 12, 13, 14, 15, 16, 17, 18, 19, 20, 21, 22, 23, 24, 25] [0, 1, 2, 3, 4, 5, 6, 7, 8, 9, 10, 11, 12, 13, 14, 15, 16, 17, 18, 19, 20, 21, 22, 24, 25] (0) (by kernel_rfl) ?_
          intro hq w3 e3; have hz3 := e3.size
          refine Wx.pure hq rfl rfl rfl rfl zmv ?_
          refine Wx.pure hq rfl rfl rfl rfl zbc ?_
          refine Wx.pure hq rfl rfl rfl rfl zmv ?_
          first | (refine Wx.skip hq rfl rfl rfl rfl ?_) | (refine Wx.pure hq rfl rfl rfl rfl zmv ?_)
          first | (refine Wx.skip hq rfl rfl rfl rfl ?_) | (refine Wx.pure hq rfl rfl rfl rfl zmv ?_)
          first | (refine Wx.skip hq rfl rfl rfl rfl ?_) | (refine Wx.pure hq rfl rfl rfl rfl zbc ?_)
          refine Wx.pure hq rfl rfl rfl rfl zpk ?_
          refine Wx.pure hq rfl rfl rfl rfl zmv ?_
          first | (refine Wx.skip hq rfl rfl rfl rfl ?_) | (refine Wx.pure hq rfl rfl rfl rfl zfa ?_)
          first | (refine Wx.skip hq rfl rfl rfl rfl ?_) | (refine Wx.val hq rfl rfl rfl rfl ([]) zrs ?_)
          first | (refine Wx.skip hq rfl rfl rfl rfl ?_) | (refine Wx.pure hq rfl rfl rfl rfl zmv ?_)
          first | (refine Wx.skip hq rfl rfl rfl rfl ?_) | (refine Wx.pure hq rfl rfl rfl rfl (rp_indexAddr i rfl rfl rfl rfl rfl (by assumption) rfl hik) ?_)
          first | (refine Wx.skip hq rfl rfl rfl rfl ?_) | (refine Wx.val hq rfl rfl rfl rfl ([]) (rv_load rfl rfl (fun u hu => hLk u zxc)) ?_)
          first | (refine Wx.skip hq rfl rfl rfl rfl ?_) | (refine Wx.pure hq rfl rfl rfl rfl zbc ?_)
          refine Wx.pure hq rfl rfl rfl rfl zpk ?_
          refine Wx.pure hq rfl rfl rfl rfl zmv ?_
          first | (refine Wx.skip hq rfl rfl rfl rfl ?_) | (refine Wx.pure hq rfl rfl rfl rfl zfa ?_)
          first | (refine Wx.skip hq rfl rfl rfl rfl ?_) | (refine Wx.val hq rfl rfl rfl rfl ([]) zrs ?_)
          first | (refine Wx.skip hq rfl rfl rfl rfl ?_) | (refine Wx.pure hq rfl rfl rfl rfl zmv ?_)
          first | (refine Wx.skip hq rfl rfl rfl rfl ?_) | (refine Wx.pure hq rfl rfl rfl rfl (rp_indexAddr i rfl rfl rfl rfl rfl (by assumption) rfl hik) ?_)
          first | (refine Wx.skip hq rfl rfl rfl rfl ?_) | (refine Wx.val hq rfl rfl rfl rfl ([]) (rv_load rfl rfl (fun u hu => hLk u zxc)) ?_)
          first | (refine Wx.skip hq rfl rfl rfl rfl ?_) | (refine Wx.val hq rfl rfl rfl rfl ([]) zra ?_)
          first | (refine Wx.skip hq rfl rfl rfl rfl ?_) | (refine Wx.pure hq rfl rfl rfl rfl zmv ?_)
          first | (refine Wx.actSkip rfl rfl rfl rfl ?_) | (refine Wx.actNew rfl rfl rfl rfl (acts_call rfl rfl rfl (length_at_p s (parB s.br i) _ (hin.ext0 zxc) (by omega))) ?_; rintro v4 w4 e4 rfl; have hz4 := e4.size)
          first | (refine Wx.skip hq rfl rfl rfl rfl ?_) | (refine Wx.pure hq rfl rfl rfl rfl zbc ?_)
          refine Wx.pure hq rfl rfl rfl rfl zpk ?_
          refine Wx.fin ?_
          refine zct ?_
          refine ztx ?_
          refine Ox.pure rfl rfl zas ?_
          refine Ox.fin ?_
          refine zrt ?_
          exact endE_ret [_] ⟨rfl, trivial⟩ ⟨zxc, congrArg Value.bool (decide_eq_false hno).symm⟩
    by_cases hch3 : 0 ≤ fkB s.br i; rotate_left
    ·     have hno : ¬ ValidB s.br := by
            rintro ⟨⟨_, _, _, _, a5⟩, _⟩
            obtain ⟨⟨x1, x2⟩, x3, x4⟩ := a5 i (by omega)
            first | exact absurd x1 (by assumption) | exact absurd x2 (by assumption) | exact absurd x3 (by assumption) | exact absurd x4 (by assumption)
          refine ztx ?_
          refine Ox.pure rfl rfl zbc ?_
          refine Ox.fin ?_
          refine zct ?_
          refine zsk ?_
          refine zbl ?_
          refine ztx ?_
          refine Ox.pure rfl rfl zmv ?_
          refine Ox.pure rfl rfl zix ?_
          refine Ox.val rfl rfl (rv_load rfl rfl (fun u hu => hLp u zxc)) ?_
          refine Ox.pure rfl rfl zas ?_
          refine Ox.pure rfl rfl zas ?_
          refine Ox.fin ?_
          (repeat refine Sx.seq ?_)
          refine Sx.walkR rfl (fun _ _ _ _ h => h) [0, 1, 2, 3, 4, 5, 6, 7, 8, 9, 10, 11, 12, 13, 14, 15, 16, 17, 18, 19, 20, 21, 22, 23, 24, 25] [0, 1, 2, 3, 4, 5, 6, 7, 8, 9, 10, 11, 12, 13, 14, 15, 16, 17, 18, 19, 20, 21, 22, 24, 25] (0) (by kernel_rfl) ?_
          intro hq w5 e5; have hz5 := e5.size
          refine Wx.pure hq rfl rfl rfl rfl zmv ?_
          refine Wx.pure hq rfl rfl rfl rfl zbc ?_
          refine Wx.pure hq rfl rfl rfl rfl zmv ?_
          first | (refine Wx.skip hq rfl rfl rfl rfl ?_) | (refine Wx.pure hq rfl rfl rfl rfl zmv ?_)
          first | (refine Wx.skip hq rfl rfl rfl rfl ?_) | (refine Wx.pure hq rfl rfl rfl rfl zmv ?_)
          first | (refine Wx.skip hq rfl rfl rfl rfl ?_) | (refine Wx.pure hq rfl rfl rfl rfl zbc ?_)
          refine Wx.pure hq rfl rfl rfl rfl zpk ?_
          refine Wx.pure hq rfl rfl rfl rfl zmv ?_
          first | (refine Wx.skip hq rfl rfl rfl rfl ?_) | (refine Wx.pure hq rfl rfl rfl rfl zfa ?_)
          first | (refine Wx.skip hq rfl rfl rfl rfl ?_) | (refine Wx.val hq rfl rfl rfl rfl ([]) zrs ?_)
          first | (refine Wx.skip hq rfl rfl rfl rfl ?_) | (refine Wx.pure hq rfl rfl rfl rfl zmv ?_)
          first | (refine Wx.skip hq rfl rfl rfl rfl ?_) | (refine Wx.pure hq rfl rfl rfl rfl (rp_indexAddr i rfl rfl rfl rfl rfl (by assumption) rfl hik) ?_)
          first | (refine Wx.skip hq rfl rfl rfl rfl ?_) | (refine Wx.val hq rfl rfl rfl rfl ([]) (rv_load rfl rfl (fun u hu => hLk u zxc)) ?_)
          first | (refine Wx.skip hq rfl rfl rfl rfl ?_) | (refine Wx.pure hq rfl rfl rfl rfl zbc ?_)
          refine Wx.pure hq rfl rfl rfl rfl zpk ?_
          refine Wx.pure hq rfl rfl rfl rfl zmv ?_
          first | (refine Wx.skip hq rfl rfl rfl rfl ?_) | (refine Wx.pure hq rfl rfl rfl rfl zfa ?_)
          first | (refine Wx.skip hq rfl rfl rfl rfl ?_) | (refine Wx.val hq rfl rfl rfl rfl ([]) zrs ?_)
          first | (refine Wx.skip hq rfl rfl rfl rfl ?_) | (refine Wx.pure hq rfl rfl rfl rfl zmv ?_)
          first | (refine Wx.skip hq rfl rfl rfl rfl ?_) | (refine Wx.pure hq rfl rfl rfl rfl (rp_indexAddr i rfl rfl rfl rfl rfl (by assumption) rfl hik) ?_)
          first | (refine Wx.skip hq rfl rfl rfl rfl ?_) | (refine Wx.val hq rfl rfl rfl rfl ([]) (rv_load rfl rfl (fun u hu => hLk u zxc)) ?_)
          first | (refine Wx.skip hq rfl rfl rfl rfl ?_) | (refine Wx.val hq rfl rfl rfl rfl ([]) zra ?_)
          first | (refine Wx.skip hq rfl rfl rfl rfl ?_) | (refine Wx.pure hq rfl rfl rfl rfl zmv ?_)
          first | (refine Wx.actSkip rfl rfl rfl rfl ?_) | (refine Wx.actNew rfl rfl rfl rfl (acts_call rfl rfl rfl (length_at_p s (parB s.br i) _ (hin.ext0 zxc) (by omega))) ?_; rintro v6 w6 e6 rfl; have hz6 := e6.size)
          first | (refine Wx.skip hq rfl rfl rfl rfl ?_) | (refine Wx.pure hq rfl rfl rfl rfl zbc ?_)
          refine Wx.pure hq rfl rfl rfl rfl zpk ?_
          refine Wx.fin ?_
          refine zct ?_
          refine ztx ?_
          refine Ox.pure rfl rfl zas ?_
          refine Ox.fin ?_
          refine zrt ?_
          exact endE_ret [_] ⟨rfl, trivial⟩ ⟨zxc, congrArg Value.bool (decide_eq_false hno).symm⟩
    by_cases hch4 : fkB s.br i ≤ (lenB s.br (parB s.br i) : Int); rotate_left
    ·     have hno : ¬ ValidB s.br := by
            rintro ⟨⟨_, _, _, _, a5⟩, _⟩
            obtain ⟨⟨x1, x2⟩, x3, x4⟩ := a5 i (by omega)
            first | exact absurd x1 (by assumption) | exact absurd x2 (by assumption) | exact absurd x3 (by assumption) | exact absurd x4 (by assumption)
          refine ztx ?_
          refine Ox.pure rfl rfl zbc ?_
          refine Ox.fin ?_
          refine zct ?_
          refine zsk ?_
          refine zbl ?_
          refine ztx ?_
          refine Ox.pure rfl rfl zmv ?_
          refine Ox.pure rfl rfl zix ?_
          refine Ox.val rfl rfl (rv_load rfl rfl (fun u hu => hLp u zxc)) ?_
          refine Ox.pure rfl rfl zas ?_
          refine Ox.pure rfl rfl zas ?_
          refine Ox.fin ?_
          (repeat refine Sx.seq ?_)
          refine Sx.walkR rfl (fun _ _ _ _ h => h) [0, 1, 2, 3, 4, 5, 6, 7, 8, 9, 10, 11, 12, 13, 14, 15, 16, 17, 18, 19, 20, 21, 22, 23, 24, 25] [0, 1, 2, 3, 4, 5, 6, 7, 8, 9, 10, 11, 12, 13, 14, 15, 16, 17, 18, 19, 20, 21, 22, 24, 25] (0) (by kernel_rfl) ?_
          intro hq w7 e7; have hz7 := e7.size
          refine Wx.pure hq rfl rfl rfl rfl zmv ?_
          refine Wx.pure hq rfl rfl rfl rfl zbc ?_
          refine Wx.pure hq rfl rfl rfl rfl zmv ?_
          first | (refine Wx.skip hq rfl rfl rfl rfl ?_) | (refine Wx.pure hq rfl rfl rfl rfl zmv ?_)
          first | (refine Wx.skip hq rfl rfl rfl rfl ?_) | (refine Wx.pure hq rfl rfl rfl rfl zmv ?_)
          first | (refine Wx.skip hq rfl rfl rfl rfl ?_) | (refine Wx.pure hq rfl rfl rfl rfl zbc ?_)
          refine Wx.pure hq rfl rfl rfl rfl zpk ?_
          refine Wx.pure hq rfl rfl rfl rfl zmv ?_
          first | (refine Wx.skip hq rfl rfl rfl rfl ?_) | (refine Wx.pure hq rfl rfl rfl rfl zfa ?_)
          first | (refine Wx.skip hq rfl rfl rfl rfl ?_) | (refine Wx.val hq rfl rfl rfl rfl ([]) zrs ?_)
          first | (refine Wx.skip hq rfl rfl rfl rfl ?_) | (refine Wx.pure hq rfl rfl rfl rfl zmv ?_)
          first | (refine Wx.skip hq rfl rfl rfl rfl ?_) | (refine Wx.pure hq rfl rfl rfl rfl (rp_indexAddr i rfl rfl rfl rfl rfl (by assumption) rfl hik) ?_)
          first | (refine Wx.skip hq rfl rfl rfl rfl ?_) | (refine Wx.val hq rfl rfl rfl rfl ([]) (rv_load rfl rfl (fun u hu => hLk u zxc)) ?_)
          first | (refine Wx.skip hq rfl rfl rfl rfl ?_) | (refine Wx.pure hq rfl rfl rfl rfl zbc ?_)
          refine Wx.pure hq rfl rfl rfl rfl zpk ?_
          refine Wx.pure hq rfl rfl rfl rfl zmv ?_
          first | (refine Wx.skip hq rfl rfl rfl rfl ?_) | (refine Wx.pure hq rfl rfl rfl rfl zfa ?_)
          first | (refine Wx.skip hq rfl rfl rfl rfl ?_) | (refine Wx.val hq rfl rfl rfl rfl ([]) zrs ?_)
          first | (refine Wx.skip hq rfl rfl rfl rfl ?_) | (refine Wx.pure hq rfl rfl rfl rfl zmv ?_)
          first | (refine Wx.skip hq rfl rfl rfl rfl ?_) | (refine Wx.pure hq rfl rfl rfl rfl (rp_indexAddr i rfl rfl rfl rfl rfl (by assumption) rfl hik) ?_)
          first | (refine Wx.skip hq rfl rfl rfl rfl ?_) | (refine Wx.val hq rfl rfl rfl rfl ([]) (rv_load rfl rfl (fun u hu => hLk u zxc)) ?_)
          first | (refine Wx.skip hq rfl rfl rfl rfl ?_) | (refine Wx.val hq rfl rfl rfl rfl ([]) zra ?_)
          first | (refine Wx.skip hq rfl rfl rfl rfl ?_) | (refine Wx.pure hq rfl rfl rfl rfl zmv ?_)
          first | (refine Wx.actSkip rfl rfl rfl rfl ?_) | (refine Wx.actNew rfl rfl rfl rfl (acts_call rfl rfl rfl (length_at_p s (parB s.br i) _ (hin.ext0 zxc) (by omega))) ?_; rintro v8 w8 e8 rfl; have hz8 := e8.size)
          first | (refine Wx.skip hq rfl rfl rfl rfl ?_) | (refine Wx.pure hq rfl rfl rfl rfl zbc ?_)
          refine Wx.pure hq rfl rfl rfl rfl zpk ?_
          refine Wx.fin ?_
          refine zct ?_
          refine ztx ?_
          refine Ox.pure rfl rfl zas ?_
          refine Ox.fin ?_
          refine zrt ?_
          exact endE_ret [_] ⟨rfl, trivial⟩ ⟨zxc, congrArg Value.bool (decide_eq_false hno).symm⟩
    refine ztx ?_
    refine Ox.pure rfl rfl zbc ?_
    refine Ox.fin ?_
    refine zct ?_
    refine zsk ?_
    refine zbl ?_
    refine ztx ?_
    refine Ox.pure rfl rfl zmv ?_
    refine Ox.pure rfl rfl zix ?_
    refine Ox.val rfl rfl (rv_load rfl rfl (fun u hu => hLp u zxc)) ?_
    refine Ox.pure rfl rfl zas ?_
    refine Ox.pure rfl rfl zas ?_
    refine Ox.fin ?_
    (repeat refine Sx.seq ?_)
    refine Sx.walkR rfl (fun _ _ _ _ h => h) [0, 1, 2, 3, 4, 5, 6, 7, 8, 9, 10, 11, 12, 13, 14, 15, 16, 17, 18, 19, 20, 21, 22, 23, 24, 25] [0, 1, 2, 3, 4, 5, 6, 7, 8, 9, 10, 11, 12, 13, 14, 15, 16, 17, 18, 19, 20, 21, 22, 24, 25] (0) (by kernel_rfl) ?_
    intro hq w9 e9; have hz9 := e9.size
    refine Wx.pure hq rfl rfl rfl rfl zmv ?_
    refine Wx.pure hq rfl rfl rfl rfl zbc ?_
    refine Wx.pure hq rfl rfl rfl rfl zmv ?_
    first | (refine Wx.skip hq rfl rfl rfl rfl ?_) | (refine Wx.pure hq rfl rfl rfl rfl zmv ?_)
    first | (refine Wx.skip hq rfl rfl rfl rfl ?_) | (refine Wx.pure hq rfl rfl rfl rfl zmv ?_)
    first | (refine Wx.skip hq rfl rfl rfl rfl ?_) | (refine Wx.pure hq rfl rfl rfl rfl zbc ?_)
    refine Wx.pure hq rfl rfl rfl rfl zpk ?_
    refine Wx.pure hq rfl rfl rfl rfl zmv ?_
    first | (refine Wx.skip hq rfl rfl rfl rfl ?_) | (refine Wx.pure hq rfl rfl rfl rfl zfa ?_)
    first | (refine Wx.skip hq rfl rfl rfl rfl ?_) | (refine Wx.val hq rfl rfl rfl rfl ([]) zrs ?_)
    first | (refine Wx.skip hq rfl rfl rfl rfl ?_) | (refine Wx.pure hq rfl rfl rfl rfl zmv ?_)
    first | (refine Wx.skip hq rfl rfl rfl rfl ?_) | (refine Wx.pure hq rfl rfl rfl rfl (rp_indexAddr i rfl rfl rfl rfl rfl (by assumption) rfl hik) ?_)
    first | (refine Wx.skip hq rfl rfl rfl rfl ?_) | (refine Wx.val hq rfl rfl rfl rfl ([]) (rv_load rfl rfl (fun u hu => hLk u zxc)) ?_)
    first | (refine Wx.skip hq rfl rfl rfl rfl ?_) | (refine Wx.pure hq rfl rfl rfl rfl zbc ?_)
    refine Wx.pure hq rfl rfl rfl rfl zpk ?_
    refine Wx.pure hq rfl rfl rfl rfl zmv ?_
    first | (refine Wx.skip hq rfl rfl rfl rfl ?_) | (refine Wx.pure hq rfl rfl rfl rfl zfa ?_)
    first | (refine Wx.skip hq rfl rfl rfl rfl ?_) | (refine Wx.val hq rfl rfl rfl rfl ([]) zrs ?_)
    first | (refine Wx.skip hq rfl rfl rfl rfl ?_) | (refine Wx.pure hq rfl rfl rfl rfl zmv ?_)
    first | (refine Wx.skip hq rfl rfl rfl rfl ?_) | (refine Wx.pure hq rfl rfl rfl rfl (rp_indexAddr i rfl rfl rfl rfl rfl (by assumption) rfl hik) ?_)
    first | (refine Wx.skip hq rfl rfl rfl rfl ?_) | (refine Wx.val hq rfl rfl rfl rfl ([]) (rv_load rfl rfl (fun u hu => hLk u zxc)) ?_)
    first | (refine Wx.skip hq rfl rfl rfl rfl ?_) | (refine Wx.val hq rfl rfl rfl rfl ([]) zra ?_)
    first | (refine Wx.skip hq rfl rfl rfl rfl ?_) | (refine Wx.pure hq rfl rfl rfl rfl zmv ?_)
    first | (refine Wx.actSkip rfl rfl rfl rfl ?_) | (refine Wx.actNew rfl rfl rfl rfl (acts_call rfl rfl rfl (length_at_p s (parB s.br i) _ (hin.ext0 zxc) (by omega))) ?_; rintro v10 w10 e10 rfl; have hz10 := e10.size)
    first | (refine Wx.skip hq rfl rfl rfl rfl ?_) | (refine Wx.pure hq rfl rfl rfl rfl zbc ?_)
    refine Wx.pure hq rfl rfl rfl rfl zpk ?_
    refine Wx.fin ?_
    refine zcf ?_
    refine zsk ?_
    refine ztx ?_
    refine Ox.pure rfl rfl zba ?_
    refine Ox.pure rfl rfl zmv ?_
    refine Ox.fin ?_
    exact ⟨i + 1, _, sub_cons rfl (sub_cons rfl (sub_cons rfl (sub_cons rfl (sub_cons rfl sub_nil)))), ⟨rfl, hlt, zxc, fun j hj => by
      rcases Nat.lt_or_ge j i with h | h
      · exact hall j h
      · obtain rfl : j = i := by omega
        exact ⟨⟨by assumption, by assumption⟩, by assumption, by assumption⟩⟩, by omega⟩
  obtain rfl : i = s.par.length := by omega
  have hf : Formed s.br := ⟨by omega, by show s.par.length = _; omega, by show s.fks.length = _; omega, by show s.done.length = _; omega, fun j hj => hall j (by omega)⟩
  by_cases hck : checkL s.base = 0; rotate_left
  · refine ztx ?_
    refine Ox.pure rfl rfl zbc ?_
    refine Ox.fin ?_
    refine zcf ?_
    refine zex ?_
    refine ztx ?_
    refine Ox.pure rfl rfl zfa ?_
    refine Ox.val rfl rfl zrs ?_
    refine Ox.act rfl rfl (acts_call rfl rfl rfl (check_at s.base s.p0 s.A0 s.c0 _ (hin.base.ext0 zxc))) ?_
    rintro v11 w11 ⟨e11, rfl⟩
    have hz11 := e11.size
    refine Ox.pure rfl rfl zbc ?_
    refine Ox.fin ?_
    refine zct ?_
    refine ztx ?_
    refine Ox.pure rfl rfl zas ?_
    refine Ox.fin ?_
    refine zrt ?_
    exact endE_ret [_] ⟨rfl, trivial⟩ ⟨zxc, congrArg Value.bool (decide_eq_false (fun h => hck h.2.1)).symm⟩
  refine ztx ?_
  refine Ox.pure rfl rfl zbc ?_
  refine Ox.fin ?_
  refine zcf ?_
  refine zex ?_
  refine ztx ?_
  refine Ox.pure rfl rfl zfa ?_
  refine Ox.val rfl rfl zrs ?_
  refine Ox.act rfl rfl (acts_call rfl rfl rfl (check_at s.base s.p0 s.A0 s.c0 _ (hin.base.ext0 zxc))) ?_
  rintro v12 w12 ⟨e12, rfl⟩
  have hz12 := e12.size
  refine Ox.pure rfl rfl zbc ?_
  refine Ox.fin ?_
  refine zcf ?_
  refine zsk ?_
  refine ztx ?_
  refine Ox.pure rfl rfl zmv ?_
  refine Ox.pure rfl rfl zmv ?_
  refine Ox.fin ?_
  refine zbl ?_
  refine Sx.loop (ι := Nat) (fun i E wk => E = [(1, .pointer (some ⟨bb1, 0, none⟩)), (74, .int .i64 (s.bls.length : Int)), (75, .int .i64 (i : Int))] ∧ i ≤ s.bls.length ∧ Ext [] wr wk ∧ ∀ j : Nat, j < i → (ofB s.br (j : Int)).2 = 0) (fun i => s.bls.length - i) 0
    (sub_cons rfl (sub_cons rfl (sub_cons rfl sub_nil))) ⟨rfl, Nat.zero_le _, zxc, fun j h => absurd h (Nat.not_lt_zero _)⟩ ?_
  rintro i E wk ⟨rfl, hi2, ek, hof⟩
  have hzk := ek.size
  by_cases hlt : i < s.bls.length
  · 
    by_cases hz5 : (ofB s.br (i : Int)).2 = 0
    · refine ztx ?_
      refine Ox.pure rfl rfl zbc ?_
      refine Ox.fin ?_
      refine zct ?_
      refine zsk ?_
      refine zbl ?_
      refine ztx ?_
      refine Ox.pure rfl rfl zmv ?_
      refine Ox.pure rfl rfl zas ?_
      refine Ox.fin ?_
      refine ztx ?_
      refine Ox.val rfl rfl zra ?_
      refine Ox.pure rfl rfl zmv ?_
      refine Ox.act rfl rfl (acts_call rfl rfl rfl (of_no s hf hck hsm (i : Int) (by omega) (by omega) _ (hin.ext0 zxc))) ?_
      rintro v13 w13 ⟨e13, p5, A5, c5, rfl, hs5⟩
      have hz13 := e13.size
      refine Ox.pure rfl rfl zmv ?_
      refine Ox.pure rfl rfl (rp_extract rfl rfl rfl) ?_
      refine Ox.pure rfl rfl (rp_extract rfl rfl rfl) ?_
      refine Ox.pure rfl rfl zas ?_
      refine Ox.pure rfl rfl zas ?_
      refine Ox.fin ?_
      refine ztx ?_
      refine Ox.pure rfl rfl zmv ?_
      refine Ox.pure rfl rfl zbc ?_
      refine Ox.fin ?_
      refine zcf ?_
      refine zsk ?_
      refine ztx ?_
      refine Ox.pure rfl rfl zba ?_
      refine Ox.pure rfl rfl zmv ?_
      refine Ox.fin ?_
      exact ⟨i + 1, _, sub_cons rfl (sub_cons rfl (sub_cons rfl sub_nil)), ⟨rfl, hlt, zxc, fun j hj => by
        rcases Nat.lt_or_ge j i with h | h
        · exact hof j h
        · obtain rfl : j = i := by omega
          exact hz5⟩, by omega⟩
    · refine ztx ?_
      refine Ox.pure rfl rfl zbc ?_
      refine Ox.fin ?_
      refine zct ?_
      refine zsk ?_
      refine zbl ?_
      refine ztx ?_
      refine Ox.pure rfl rfl zmv ?_
      refine Ox.pure rfl rfl zas ?_
      refine Ox.fin ?_
      refine ztx ?_
      refine Ox.val rfl rfl zra ?_
      refine Ox.pure rfl rfl zmv ?_
      refine Ox.act rfl rfl (acts_call rfl rfl rfl (of_no s hf hck hsm (i : Int) (by omega) (by omega) _ (hin.ext0 zxc))) ?_
      rintro v14 w14 ⟨e14, p5, A5, c5, rfl, hs5⟩
      have hz14 := e14.size
      refine Ox.pure rfl rfl zmv ?_
      refine Ox.pure rfl rfl (rp_extract rfl rfl rfl) ?_
      refine Ox.pure rfl rfl (rp_extract rfl rfl rfl) ?_
      refine Ox.pure rfl rfl zas ?_
      refine Ox.pure rfl rfl zas ?_
      refine Ox.fin ?_
      refine ztx ?_
      refine Ox.pure rfl rfl zmv ?_
      refine Ox.pure rfl rfl zbc ?_
      refine Ox.fin ?_
      refine zct ?_
      refine ztx ?_
      refine Ox.pure rfl rfl zas ?_
      refine Ox.fin ?_
      refine zrt ?_
      exact endE_ret [_] ⟨rfl, trivial⟩ ⟨zxc, congrArg Value.bool (decide_eq_false (fun h => hz5 (h.2.2 i (by omega)))).symm⟩
  · refine ztx ?_
    refine Ox.pure rfl rfl zbc ?_
    refine Ox.fin ?_
    refine zcf ?_
    refine zex ?_
    refine ztx ?_
    refine Ox.pure rfl rfl zas ?_
    refine Ox.fin ?_
    refine zrt ?_
    exact endE_ret [_] ⟨rfl, trivial⟩ ⟨zxc, congrArg Value.bool (decide_eq_true (⟨hf, hck, fun j hj => hof j (by omega)⟩ : ValidB s.br)).symm⟩

end Go.Proofs.Ytfgckcochilpkaa

/- Branches' walks: copies. -/
set_option linter.unusedVariables false
set_option maxRecDepth 100000
set_option maxHeartbeats 4000000
set_option linter.unusedSimpArgs false
namespace Go.Proofs.Ytfgckcochilpkaa
open Go Go.Eng

theorem cloneI_at (l : List Int) (p : Option Addr) (A : Addr) (c : Nat) (w : World) (hs : SlV ic w p A l c) (hl : l.length ≤ 1000000) :
    Calls Try.prog 61 #[.slice p l.length c] w (Ret fun r w' => Ext [] w w' ∧ w'.ownsRow w.heap.size 3 1 r l.length (rowsV ic l)) := by
  have hp := hs.ptr
  refine calls_of_Sx (args := [.slice p l.length c]) Try.func61 rfl rfl ?_
  cases p with
  | none =>
    obtain rfl : l = [] := List.eq_nil_of_length_eq_zero (by
      rcases Nat.eq_zero_or_pos l.length with h | h
      · exact h
      · cases hp h)
    refine ztx ?_
    refine Ox.pure rfl rfl zas ?_
    refine Ox.fin ?_
    refine ztx ?_
    refine Ox.pure rfl rfl zmv ?_
    refine Ox.pure rfl rfl (rp_sliceNil rfl rfl rfl) ?_
    refine Ox.fin ?_
    refine zct ?_
    refine ztx ?_
    refine Ox.pure rfl rfl zas ?_
    refine Ox.fin ?_
    refine zrt ?_
    exact endE_ret [_] ⟨rfl, trivial⟩ ⟨zxc, World.ownsRow_nil _ _ _ _⟩
  | some a =>
    refine ztx ?_
    refine Ox.pure rfl rfl zas ?_
    refine Ox.fin ?_
    refine ztx ?_
    refine Ox.pure rfl rfl zmv ?_
    refine Ox.pure rfl rfl (rp_sliceNil rfl rfl rfl) ?_
    refine Ox.fin ?_
    refine zcf ?_
    refine zsk ?_
    refine ztx ?_
    refine Ox.act rfl rfl (acts_buildSlice (ps := []) rfl rfl rfl rfl rfl rfl rfl rfl) ?_
    rintro vb0 wb0 ⟨eb0, bb0, rfl, hbb0, hBb0⟩
    first | (have hCb0 : Cells wb0 ⟨bb0, 0, none⟩ [] := hBb0.cells) | have hCb0 := Blk.cellsL hBb0
    have hlb0 := hBb0.lt
    have hzb0 := eb0.size
    refine Ox.pure rfl rfl zmv ?_
    refine Ox.act rfl rfl (acts_append (e := 3) (size := 1) (bytes := 8) rfl rfl rfl rfl (own_keep0 (show wb0.ownsRow w.heap.size 3 1 (.slice (some ⟨bb0, 0, none⟩) 0 0) 0 [] from own_built (size := 1) (len := 0) hBb0 (by omega) rfl (by decide)) zxc) ((hs.ext0 zxc).src rfl ic_len ic_one) (by first | omega | (dsimp only; omega)) (by first | omega | (dsimp only; omega)) (by omega)) ?_
    rintro vap wap hgap
    refine Ox.pure rfl rfl zas ?_
    refine Ox.fin ?_
    refine zrt ?_
    refine endE_ret [_] ⟨rfl, trivial⟩ ⟨hgap.ext0 zxc (fun g hg => by simp [Value.ownBlock] at hg; omega), ?_⟩
    have := hgap.own
    simpa [resV] using this

theorem cloneB_at (l : List Bool) (p : Option Addr) (A : Addr) (c : Nat) (w : World) (hs : SlV boc w p A l c) (hl : l.length ≤ 1000000) :
    Calls Try.prog 62 #[.slice p l.length c] w (Ret fun r w' => Ext [] w w' ∧ w'.ownsRow w.heap.size 4 1 r l.length (rowsV boc l)) := by
  have hp := hs.ptr
  refine calls_of_Sx (args := [.slice p l.length c]) Try.func62 rfl rfl ?_
  cases p with
  | none =>
    obtain rfl : l = [] := List.eq_nil_of_length_eq_zero (by
      rcases Nat.eq_zero_or_pos l.length with h | h
      · exact h
      · cases hp h)
    refine ztx ?_
    refine Ox.pure rfl rfl zas ?_
    refine Ox.fin ?_
    refine ztx ?_
    refine Ox.pure rfl rfl zmv ?_
    refine Ox.pure rfl rfl (rp_sliceNil rfl rfl rfl) ?_
    refine Ox.fin ?_
    refine zct ?_
    refine ztx ?_
    refine Ox.pure rfl rfl zas ?_
    refine Ox.fin ?_
    refine zrt ?_
    exact endE_ret [_] ⟨rfl, trivial⟩ ⟨zxc, World.ownsRow_nil _ _ _ _⟩
  | some a =>
    refine ztx ?_
    refine Ox.pure rfl rfl zas ?_
    refine Ox.fin ?_
    refine ztx ?_
    refine Ox.pure rfl rfl zmv ?_
    refine Ox.pure rfl rfl (rp_sliceNil rfl rfl rfl) ?_
    refine Ox.fin ?_
    refine zcf ?_
    refine zsk ?_
    refine ztx ?_
    refine Ox.act rfl rfl (acts_buildSlice (ps := []) rfl rfl rfl rfl rfl rfl rfl rfl) ?_
    rintro vb0 wb0 ⟨eb0, bb0, rfl, hbb0, hBb0⟩
    first | (have hCb0 : Cells wb0 ⟨bb0, 0, none⟩ [] := hBb0.cells) | have hCb0 := Blk.cellsL hBb0
    have hlb0 := hBb0.lt
    have hzb0 := eb0.size
    refine Ox.pure rfl rfl zmv ?_
    refine Ox.act rfl rfl (acts_append (e := 4) (size := 1) (bytes := 1) rfl rfl rfl rfl (own_keep0 (show wb0.ownsRow w.heap.size 4 1 (.slice (some ⟨bb0, 0, none⟩) 0 0) 0 [] from own_built (size := 1) (len := 0) hBb0 (by omega) rfl (by decide)) zxc) ((hs.ext0 zxc).src rfl boc_len boc_one) (by first | omega | (dsimp only; omega)) (by first | omega | (dsimp only; omega)) (by omega)) ?_
    rintro vap wap hgap
    refine Ox.pure rfl rfl zas ?_
    refine Ox.fin ?_
    refine zrt ?_
    refine endE_ret [_] ⟨rfl, trivial⟩ ⟨hgap.ext0 zxc (fun g hg => by simp [Value.ownBlock] at hg; omega), ?_⟩
    have := hgap.own
    simpa [resV] using this

structure BsOwn (base : Nat) (s : Bs) (w : World) : Prop where
  in_ : BsIn s w
  obls : w.ownsRow base 59 1 (.slice s.p1 s.bls.length s.c1) s.bls.length (rowsV blc s.bls)
  opar : w.ownsRow base 3 1 (.slice s.p2 s.par.length s.c2) s.par.length (rowsV ic s.par)
  ofks : w.ownsRow base 3 1 (.slice s.p3 s.fks.length s.c3) s.fks.length (rowsV ic s.fks)
  odone : w.ownsRow base 4 1 (.slice s.p4 s.done.length s.c4) s.done.length (rowsV boc s.done)
  apart : ∀ g, (Value.slice s.p2 s.par.length s.c2).ownBlock = some g → (Value.slice s.p3 s.fks.length s.c3).ownBlock ≠ some g
structure Few (s : Bs) : Prop where
  bls : s.bls.length ≤ 1000
  par : s.par.length ≤ 1000
  fks : s.fks.length ≤ 1000
  done : s.done.length ≤ 1000
theorem copied_at (s : Bs) (hfw : Few s) (w : World) (hin : BsIn s w) :
    Calls Try.prog 37 #[.agg (bvc s).toArray] w (Ret fun r w' => Ext [] w w' ∧ ∃ s' : Bs, r = .agg (bvc s').toArray ∧ s'.br = s.br ∧ s'.bls = s.bls ∧ (∀ u, SlV fc u s.p0 s.A0 s.base s.c0 → SlV fc u s'.p0 s'.A0 s'.base s'.c0) ∧ BsOwn w.heap.size s' w') := by
  obtain ⟨w1, w2, w3, w4⟩ := hfw
  refine calls_of_Sx (args := [.agg (bvc s).toArray]) Try.func37 rfl rfl ?_
  refine ztx ?_
  refine Ox.act rfl rfl (acts_box rfl rfl) ?_
  rintro vb1 wb1 ⟨eb1, bb1, rfl, hbb1, hBb1⟩
  first | (have hCb1 : Cells wb1 ⟨bb1, 0, none⟩ [_, _, _, _, _] := hBb1.cells) | have hCb1 := Blk.cellsL hBb1
  have hlb1 := hBb1.lt
  have hzb1 := eb1.size
  refine Ox.act rfl rfl (acts_alloc rfl rfl) ?_
  rintro vb2 wb2 ⟨eb2, bb2, rfl, hbb2, hBb2⟩
  first | (have hCb2 : Cells wb2 ⟨bb2, 0, none⟩ [_, _, _, _, _] := hBb2.cells) | have hCb2 := Blk.cellsL hBb2
  have hlb2 := hBb2.lt
  have hzb2 := eb2.size
  refine Ox.fin ?_
  refine ztx ?_
  refine Ox.val rfl rfl zra ?_
  refine Ox.act rfl rfl (acts_alloc rfl rfl) ?_
  rintro vb3 wb3 ⟨eb3, bb3, rfl, hbb3, hBb3⟩
  first | (have hCb3 : Cells wb3 ⟨bb3, 0, none⟩ [_, _, _, _, _] := hBb3.cells) | have hCb3 := Blk.cellsL hBb3
  have hlb3 := hBb3.lt
  have hzb3 := eb3.size
  refine Ox.act rfl rfl (acts_store_all rfl rfl rfl hBb3 rfl (by first | rfl | assumption) (by first | rfl | assumption) (by (first | assumption | exact List.all_eq_true.mp rfl | simp [Value.cells, Value.oneCell']))) ?_
  rintro vs3 ws3 ⟨rfl, qs3, hBs3⟩
  have es3 := Ext.renew eb3 qs3 hbb3
  have hzs3 := es3.size
  have hls3 := hBs3.lt
  first | (have hCs3 : Cells ws3 ⟨bb3, 0, none⟩ [_, _, _, _, _] := hBs3.cells) | have hCs3 := Blk.cellsL hBs3
  refine Ox.fin ?_
  refine ztx ?_
  refine Ox.pure rfl rfl zfa ?_
  refine Ox.val rfl rfl zrs ?_
  refine Ox.pure rfl rfl (rp_lenS rfl rfl rfl) ?_
  refine Ox.act rfl rfl (acts_makeSlice (e := 59) (len := s.bls.length) (size := 1) (bytes := 24) rfl rfl rfl (by omega) (by omega)) ?_
  rintro vmk wmk ⟨emk, bm, zm, rfl, hbm, hBm, hlm⟩
  have hzmk := emk.size
  have hzmk := emk.size
  refine Ox.pure rfl rfl zfa ?_
  refine Ox.act rfl rfl (acts_store (off := 1) rfl rfl rfl rfl rfl (hBs3.ext (X := []) zxc (by simp)) (Nat.le_of_ble_eq_true rfl) (by (first | assumption | exact List.all_eq_true.mp rfl | simp [Value.cells, Value.oneCell']))) ?_
  rintro vs4 ws4 ⟨rfl, qs4, hBs4⟩
  have es4 : Ext [] wb2 ws4 := Ext.renew zxc qs4 (by omega)
  have hzs4 := qs4.size
  have hCs4 : Cells ws4 ⟨bb3, 0, none⟩ [.slice s.p0 s.base.length s.c0, .slice (some ⟨bm, 0, none⟩) s.bls.length s.bls.length, .slice s.p2 s.par.length s.c2, .slice s.p3 s.fks.length s.c3, .slice s.p4 s.done.length s.c4] := hBs4.cells
  refine Ox.fin ?_
  refine ztx ?_
  refine Ox.pure rfl rfl zfa ?_
  refine Ox.val rfl rfl zrs ?_
  refine Ox.pure rfl rfl zfa ?_
  refine Ox.val rfl rfl zrs ?_
  refine Ox.act rfl rfl (acts_copy (len := s.bls.length) rfl rfl rfl rfl rfl (hBm.ext qs4 (by simp; omega)) (by omega) hin.bls.ptr (hin.bls.row.ext0 zxc) (by rw [rowsV_length blc_len]; omega) (rowsV_all blc_one _)) ?_
  rintro vcp wcp ⟨rfl, qcp, hBcp⟩
  have ecp : Ext [] wb2 wcp := Ext.renew zxc qcp (by omega)
  have hzcp := qcp.size
  have hCcp : Cells wcp ⟨bb3, 0, none⟩ [.slice s.p0 s.base.length s.c0, .slice (some ⟨bm, 0, none⟩) s.bls.length s.bls.length, .slice s.p2 s.par.length s.c2, .slice s.p3 s.fks.length s.c3, .slice s.p4 s.done.length s.c4] := hCs4.ext qcp (by simp; omega)
  refine Ox.fin ?_
  have hB3c : Blk wcp bb3 27 [.slice s.p0 s.base.length s.c0, .slice (some ⟨bm, 0, none⟩) s.bls.length s.bls.length, .slice s.p2 s.par.length s.c2, .slice s.p3 s.fks.length s.c3, .slice s.p4 s.done.length s.c4] := hBs4.ext qcp (by simp; omega)
  have hlm2 := hBcp.lt
  have hl3 := hB3c.lt
  have hlb2 := hBb2.lt
  (repeat refine Sx.seq ?_)
  refine Sx.walkR rfl (fun _ _ _ _ h => h) [0, 1, 3, 4, 6, 7, 2, 9, 5, 8, 10, 11, 12, 13, 14] [0, 1, 3, 4, 6, 7, 9, 11, 13] (0) (by kernel_rfl) ?_
  intro hq w1 e1; have hz1 := e1.size
  refine Wx.pure hq rfl rfl rfl rfl zfa ?_
  refine Wx.val hq rfl rfl rfl rfl ([]) zrs ?_
  refine Wx.pure hq rfl rfl rfl rfl zfa ?_
  refine Wx.val hq rfl rfl rfl rfl ([]) zrs ?_
  refine Wx.pure hq rfl rfl rfl rfl zfa ?_
  refine Wx.val hq rfl rfl rfl rfl ([]) zrs ?_
  refine Wx.actNew rfl rfl rfl rfl (acts_call rfl rfl rfl (cloneI_at s.par s.p2 s.A2 s.c2 _ (hin.par.ext0 zxc) (by omega))) ?_
  rintro vc2 wc2 ec2 hoc2
  have hzc2 := ec2.size
  obtain ⟨p2, k2, A2, rfl, hs2, _⟩ := SlV.of_own hoc2 (by omega)
  refine Wx.pure hq rfl rfl rfl rfl zfa ?_
  refine Wx.actNew rfl rfl rfl rfl (acts_call rfl rfl rfl (cloneI_at s.fks s.p3 s.A3 s.c3 _ (hin.fks.ext0 zxc) (by omega))) ?_
  rintro vc3 wc3 ec3 hoc3
  have hzc3 := ec3.size
  obtain ⟨p3, k3, A3, rfl, hs3, _⟩ := SlV.of_own hoc3 (by omega)
  refine Wx.actNew rfl rfl rfl rfl (acts_call rfl rfl rfl (cloneB_at s.done s.p4 s.A4 s.c4 _ (hin.done.ext0 zxc) (by omega))) ?_
  rintro vc4 wc4 ec4 hoc4
  have hzc4 := ec4.size
  obtain ⟨p4, k4, A4, rfl, hs4, _⟩ := SlV.of_own hoc4 (by omega)
  refine Wx.actLast rfl rfl rfl rfl (by kernel_rfl) (acts_store (off := 2) rfl rfl rfl rfl rfl (hB3c.ext (X := []) zxc (by simp)) (Nat.le_of_ble_eq_true rfl) (by (first | assumption | exact List.all_eq_true.mp rfl | simp [Value.cells, Value.oneCell']))) ?_
  rintro vs5 ws5 ⟨rfl, qs5, hBs5⟩
  have es5 : Ext [] wb2 ws5 := Ext.renew zxc qs5 (by omega)
  refine Wx.pure hq rfl rfl rfl rfl zfa ?_
  refine Wx.actLast rfl rfl rfl rfl (by kernel_rfl) (acts_store (off := 3) rfl rfl rfl rfl rfl hBs5 (Nat.le_of_ble_eq_true rfl) (by (first | assumption | exact List.all_eq_true.mp rfl | simp [Value.cells, Value.oneCell']))) ?_
  rintro vs6 ws6 ⟨rfl, qs6, hBs6⟩
  have es6 : Ext [] wb2 ws6 := Ext.renew zxc qs6 (by omega)
  refine Wx.pure hq rfl rfl rfl rfl zfa ?_
  refine Wx.actLast rfl rfl rfl rfl (by kernel_rfl) (acts_store (off := 4) rfl rfl rfl rfl rfl hBs6 (Nat.le_of_ble_eq_true rfl) (by (first | assumption | exact List.all_eq_true.mp rfl | simp [Value.cells, Value.oneCell']))) ?_
  rintro vs7 ws7 ⟨rfl, qs7, hBs7⟩
  have es7 : Ext [] wb2 ws7 := Ext.renew zxc qs7 (by omega)
  have hCs7 : Cells ws7 ⟨bb3, 0, none⟩ [.slice s.p0 s.base.length s.c0, .slice (some ⟨bm, 0, none⟩) s.bls.length s.bls.length, .slice p2 s.par.length k2, .slice p3 s.fks.length k3, .slice p4 s.done.length k4] := hBs7.cells
  refine Wx.fin ?_
  refine ztx ?_
  refine Ox.val rfl rfl zra ?_
  refine Ox.act rfl rfl (acts_store_all rfl rfl rfl (hBb2.ext (X := []) zxc (by simp)) rfl rfl rfl (by (first | assumption | exact List.all_eq_true.mp rfl | simp [Value.cells, Value.oneCell']))) ?_
  rintro vs8 ws8 ⟨rfl, qs8, hBs8⟩
  have es8 : Ext [] w ws8 := Ext.renew zxc qs8 (by omega)
  refine Ox.fin ?_
  refine zrt ?_
  have q7 := qs5.trans (qs6.trans qs7)
  have E78 := (q7.mono (Y := [bb3, bb2]) (by simp)).trans (qs8.mono (by simp))
  have own2 := own_base (base' := w.heap.size) (own_keep (own_keep0 hoc2 zxc) E78 (fun g hg hm => by have := (own_lt hoc2 g (by simp [hg])).1; simp at hm; omega)) (by omega)
  have own3 := own_base (base' := w.heap.size) (own_keep (own_keep0 hoc3 zxc) E78 (fun g hg hm => by have := (own_lt hoc3 g (by simp [hg])).1; simp at hm; omega)) (by omega)
  have own4 := own_base (base' := w.heap.size) (own_keep (own_keep0 hoc4 zxc) E78 (fun g hg hm => by have := (own_lt hoc4 g (by simp [hg])).1; simp at hm; omega)) (by omega)
  have hBm8 : Blk ws8 bm 59 (rowsV blc s.bls) := (hBcp.ext (X := []) zxc (by simp)).ext E78 (by simp; omega)
  obtain ⟨p2', k2', A2', he2, hs2', _⟩ := SlV.of_own own2 (by omega)
  obtain ⟨p3', k3', A3', he3, hs3', _⟩ := SlV.of_own own3 (by omega)
  obtain ⟨p4', k4', A4', he4, hs4', _⟩ := SlV.of_own own4 (by omega)
  injection he2 with he2 _ hf2
  injection he3 with he3 _ hf3
  injection he4 with he4 _ hf4
  subst he2 hf2 he3 hf3 he4 hf4
  refine endE_ret [.agg #[.slice s.p0 s.base.length s.c0, .slice (some ⟨bm, 0, none⟩) s.bls.length s.bls.length, .slice p2 s.par.length k2, .slice p3 s.fks.length k3, .slice p4 s.done.length k4]] ⟨⟨⟨bb2, 0, none⟩, rfl, hBs8.cellsL.ldA rfl rfl⟩, trivial⟩ ⟨zxc, ⟨s.base, s.p0, s.A0, s.c0, s.bls, some ⟨bm, 0, none⟩, ⟨bm, 0, none⟩, s.bls.length, s.par, p2, A2', k2, s.fks, p3, A3', k3, s.done, p4, A4', k4⟩, rfl, rfl, rfl, fun _ h => h, ?_⟩
  have hl1 : (rowsV blc s.bls).length = s.bls.length * 1 := rowsV_length blc_len _
  refine ⟨⟨hin.base.ext0 es8, ⟨fun _ => rfl, hBm8.cells, Nat.le_refl _, by dsimp only; omega, by dsimp only; omega⟩, fun x hx => (hin.sub x hx).imp fun _ h => h.ext0 es8, hs2', hs3', hs4'⟩, ?_, own2, own3, own4, fun g h1 h2 => ?_⟩
  · exact own_built (size := 1) (len := s.bls.length) hBm8 (by omega) hl1 (by omega)
  · have h5 := (own_lt hoc2 g (by simpa using h1)).2
    have h6 := (own_lt hoc3 g (by simpa using h2)).1
    have h7 := ec3.size
    omega

end Go.Proofs.Ytfgckcochilpkaa

/- Branches' walks: new branchings, their facts, branches that are dropped. -/
set_option linter.unusedVariables false
set_option maxRecDepth 100000
set_option maxHeartbeats 4000000
set_option linter.unusedSimpArgs false
namespace Go.Proofs.Ytfgckcochilpkaa
open Go Go.Eng

/-- What lies in no block below `base` (its list of branches). -/
def RBr (base : Nat) (w : World) (v : Value) (b : Br) : Prop := ∃ s : Bs, v = .agg (bvc s).toArray ∧ BsIn s w ∧ s.br = b ∧ (0 < s.bls.length → base ≤ s.A1.block)
theorem RBr.zero (base : Nat) (w : World) : RBr base w (.agg (bvc Bs0).toArray) Br0 := ⟨Bs0, rfl, Bs0_in w, rfl, fun h => absurd h (by decide)⟩
theorem RBr.low {base base' : Nat} {w : World} {v : Value} {b : Br} (h : RBr base w v b) (hb : base' ≤ base) : RBr base' w v b := by
  obtain ⟨s, h1, h2, h3, h4⟩ := h
  exact ⟨s, h1, h2, h3, fun h => Nat.le_trans hb (h4 h)⟩
def Off (s : Bs) (g : Nat) : Prop := 0 < s.bls.length → s.A1.block ≠ g
theorem sl_off {α : Type} {enc : α → List Value} {m : Nat} (hlen : ∀ a, (enc a).length = m) (hns : ∀ a, ∀ u ∈ enc a, ∀ p l c, u ≠ .slice p l c) (hm : 0 < m) {w : World} {p : Option Addr} {A : Addr} {l : List α} {c g : Nat} {t : TypeId} {s0 : Bs} (h : SlV enc w p A l c) (hB : Blk w g t (bvc s0)) (hl : 0 < l.length) : A.block ≠ g := by
  intro he
  obtain ⟨x, xs, rfl⟩ : ∃ x xs, l = x :: xs := by cases l with | nil => exact absurd hl (by simp) | cons x xs => exact ⟨x, xs, rfl⟩
  obtain ⟨v, vs, hv⟩ : ∃ v vs, enc x = v :: vs := by
    have := hlen x
    cases hx : enc x with
    | nil => rw [hx] at this; simp at this; omega
    | cons v vs => exact ⟨v, vs, rfl⟩
  have h1 := h.row 0 v (by rw [rowsV_cons, hv]; rfl)
  have h2 : w.heap[A.block]? = some (.cells (bvc s0).toArray t (0, 0)) := by rw [he]; exact hB
  obtain ⟨cs, t', z, h3, h4⟩ : ∃ cs t' z, w.heap[A.block]? = some (.cells cs t' z) ∧ cs[A.off]? = some v := by
    unfold World.cell? at h1
    rw [addr_block] at h1
    rw [h2] at h1 ⊢
    refine ⟨_, _, _, rfl, ?_⟩
    have h9 : A.spot = none ∧ (bvc s0)[A.off]? = some v := by simpa [Addr.add] using h1
    simpa using h9.2
  rw [h2] at h3
  injection h3 with h3
  injection h3 with h3 _ _
  subst h3
  have h5 : v ∈ bvc s0 := by
    have h6 := List.mem_of_getElem? (l := bvc s0) (i := A.off) (by simpa using h4)
    exact h6
  have h7 := hns x v (by rw [hv]; exact List.mem_cons_self)
  simp only [List.mem_cons, List.not_mem_nil, or_false] at h5
  rcases h5 with h5 | h5 | h5 | h5 | h5 <;> exact h7 _ _ _ h5
theorem sl_keep {α : Type} {enc : α → List Value} {w w' : World} {X : List Nat} {p : Option Addr} {A : Addr} {l : List α} {c : Nat} (h : SlV enc w p A l c) (he : Ext X w w') (hx : 0 < l.length → A.block ∉ X) : SlV enc w' p A l c := by
  rcases Nat.eq_zero_or_pos l.length with h0 | h0
  · obtain rfl := List.eq_nil_of_length_eq_zero h0
    exact ⟨fun h => absurd h (by simp), cells_nil _ _, h.le, h.small, h.few⟩
  · exact h.ext he (hx h0)
theorem fc_ns (f : Fct) : ∀ u ∈ fc f, ∀ p l c, u ≠ Value.slice p l c := by intro u hu p l c h; subst h; simp [fc] at hu
theorem cc_ns (f : Cr) : ∀ u ∈ cc f, ∀ p l c, u ≠ Value.slice p l c := by intro u hu p l c h; subst h; simp [cc] at hu
theorem ic_ns (f : Int) : ∀ u ∈ ic f, ∀ p l c, u ≠ Value.slice p l c := by intro u hu p l c h; subst h; simp [ic] at hu
theorem boc_ns (f : Bool) : ∀ u ∈ boc f, ∀ p l c, u ≠ Value.slice p l c := by intro u hu p l c h; subst h; simp [boc] at hu
/-- A variable that holds a branching is written over: another branching lies as it lay. -/
theorem BsIn.keep {s s0 : Bs} {w w' : World} {g : Nat} {t : TypeId} (h : BsIn s w) (hB : Blk w g t (bvc s0)) (ho : Off s g) (he : Ext [g] w w') : BsIn s w' :=
  ⟨sl_keep h.base he (fun hl => by simpa using sl_off fc_len fc_ns (by decide) h.base hB hl), sl_keep h.bls he (fun hl => by simpa using ho hl),
   fun x hx => (h.sub x hx).imp fun A hA => sl_keep hA he (fun hl => by simpa using sl_off cc_len cc_ns (by decide) hA hB hl),
   sl_keep h.par he (fun hl => by simpa using sl_off ic_len ic_ns (by decide) h.par hB hl), sl_keep h.fks he (fun hl => by simpa using sl_off ic_len ic_ns (by decide) h.fks hB hl),
   sl_keep h.done he (fun hl => by simpa using sl_off boc_len boc_ns (by decide) h.done hB hl)⟩
theorem own_in {s : Bs} {base : Nat} {w : World} (hfw : Few s) (hb : SlV fc w s.p0 s.A0 s.base s.c0) (hsub : ∀ x ∈ s.bls, ∃ A, SlV cc w x.p A x.l x.c)
    (o1 : w.ownsRow base 59 1 (.slice s.p1 s.bls.length s.c1) s.bls.length (rowsV blc s.bls)) (o2 : w.ownsRow base 3 1 (.slice s.p2 s.par.length s.c2) s.par.length (rowsV ic s.par))
    (o3 : w.ownsRow base 3 1 (.slice s.p3 s.fks.length s.c3) s.fks.length (rowsV ic s.fks)) (o4 : w.ownsRow base 4 1 (.slice s.p4 s.done.length s.c4) s.done.length (rowsV boc s.done)) : RBr base w (.agg (bvc s).toArray) s.br := by
  obtain ⟨w1, w2, w3, w4⟩ := hfw
  obtain ⟨p1, k1, A1, h1, s1, z1⟩ := SlV.of_own o1 (by omega)
  obtain ⟨p2, k2, A2, h2, s2, _⟩ := SlV.of_own o2 (by omega)
  obtain ⟨p3, k3, A3, h3, s3, _⟩ := SlV.of_own o3 (by omega)
  obtain ⟨p4, k4, A4, h4, s4, _⟩ := SlV.of_own o4 (by omega)
  injection h1 with e1 _ f1
  injection h2 with e2 _ f2
  injection h3 with e3 _ f3
  injection h4 with e4 _ f4
  refine ⟨⟨s.base, s.p0, s.A0, s.c0, s.bls, s.p1, A1, s.c1, s.par, s.p2, A2, s.c2, s.fks, s.p3, A3, s.c3, s.done, s.p4, A4, s.c4⟩, rfl, ⟨hb, ?_, hsub, ?_, ?_, ?_⟩, rfl, fun h => (z1 h).1⟩
  · rw [e1, f1]; exact s1
  · rw [e2, f2]; exact s2
  · rw [e3, f3]; exact s3
  · rw [e4, f4]; exact s4

theorem new_at (l : List Fct) (p : Option Addr) (A : Addr) (c : Nat) (w : World) (hs : SlV fc w p A l c) :
    Calls Try.prog 12 #[.slice p l.length c] w (Ret fun r w' => Ext [] w w' ∧ ∃ v, r = .tuple #[v, .int .i64 (newB l).2] ∧ RBr w.heap.size w' v (newB l).1) := by
  refine calls_of_Sx (args := [.slice p l.length c]) Try.func12 rfl rfl ?_
  by_cases h0 : checkL l = 0
  · have he : newB l = (⟨l, [], [], [], []⟩, 0) := if_neg (fun h => h h0)
    refine ztx ?_
    refine Ox.act rfl rfl (acts_alloc rfl rfl) ?_
    rintro vb2 wb2 ⟨eb2, bb2, rfl, hbb2, hBb2⟩
    first | (have hCb2 : Cells wb2 ⟨bb2, 0, none⟩ [_, _, _, _, _] := hBb2.cells) | have hCb2 := Blk.cellsL hBb2
    have hlb2 := hBb2.lt
    have hzb2 := eb2.size
    refine Ox.pure rfl rfl zas ?_
    refine Ox.fin ?_
    refine ztx ?_
    refine Ox.pure rfl rfl zmv ?_
    refine Ox.act rfl rfl (acts_call rfl rfl rfl (check_at l p A c _ (hs.ext0 zxc))) ?_
    rintro v1 w1 ⟨e1, rfl⟩
    have hz1 := e1.size
    refine Ox.pure rfl rfl zas ?_
    refine Ox.fin ?_
    refine ztx ?_
    refine Ox.pure rfl rfl zmv ?_
    refine Ox.pure rfl rfl zbc ?_
    refine Ox.fin ?_
    refine zcf ?_
    refine zsk ?_
    refine ztx ?_
    refine Ox.pure rfl rfl zmv ?_
    refine Ox.pure rfl rfl (rp_buildS (ps := [(0, .tmp 11)]) rfl rfl rfl rfl rfl) ?_
    refine Ox.act rfl rfl (acts_store_all rfl rfl rfl (hBb2.ext (X := []) zxc (by simp)) rfl rfl rfl (by (first | assumption | exact List.all_eq_true.mp rfl | simp [Value.cells, Value.oneCell']))) ?_
    rintro vs4 ws4 ⟨rfl, qs4, hBs4⟩
    have es4 : Ext [] w ws4 := Ext.renew zxc qs4 (by omega)
    refine Ox.pure rfl rfl zas ?_
    refine Ox.fin ?_
    refine zrt ?_
    exact endE_ret [.agg #[.slice p l.length c, .slice none 0 0, .slice none 0 0, .slice none 0 0, .slice none 0 0], .int .i64 0] ⟨⟨⟨bb2, 0, none⟩, rfl, hBs4.cellsL.ldA rfl rfl⟩, rfl, trivial⟩ ⟨zxc, _, by rw [he]; rfl, by rw [he]; exact ⟨⟨l, p, A, c, [], none, ⟨0, 0, none⟩, 0, [], none, ⟨0, 0, none⟩, 0, [], none, ⟨0, 0, none⟩, 0, [], none, ⟨0, 0, none⟩, 0⟩, rfl, ⟨hs.ext0 zxc, SlV.nil _ _, fun x h => (by cases h), SlV.nil _ _, SlV.nil _ _, SlV.nil _ _⟩, rfl, fun h => absurd h (by simp)⟩⟩
  · have he : newB l = (Br0, checkL l) := if_pos h0
    refine ztx ?_
    refine Ox.act rfl rfl (acts_alloc rfl rfl) ?_
    rintro vb2 wb2 ⟨eb2, bb2, rfl, hbb2, hBb2⟩
    first | (have hCb2 : Cells wb2 ⟨bb2, 0, none⟩ [_, _, _, _, _] := hBb2.cells) | have hCb2 := Blk.cellsL hBb2
    have hlb2 := hBb2.lt
    have hzb2 := eb2.size
    refine Ox.pure rfl rfl zas ?_
    refine Ox.fin ?_
    refine ztx ?_
    refine Ox.pure rfl rfl zmv ?_
    refine Ox.act rfl rfl (acts_call rfl rfl rfl (check_at l p A c _ (hs.ext0 zxc))) ?_
    rintro v2 w2 ⟨e2, rfl⟩
    have hz2 := e2.size
    refine Ox.pure rfl rfl zas ?_
    refine Ox.fin ?_
    refine ztx ?_
    refine Ox.pure rfl rfl zmv ?_
    refine Ox.pure rfl rfl zbc ?_
    refine Ox.fin ?_
    refine zct ?_
    refine ztx ?_
    refine Ox.val rfl rfl zra ?_
    refine Ox.pure rfl rfl zmv ?_
    refine Ox.act rfl rfl (acts_store_all rfl rfl rfl (hBb2.ext (X := []) zxc (by simp)) rfl rfl rfl (bvc_one Bs0)) ?_
    rintro vs3 ws3 ⟨rfl, qs3, hBs3⟩
    have es3 : Ext [] w ws3 := Ext.renew zxc qs3 (by omega)
    refine Ox.pure rfl rfl zas ?_
    refine Ox.fin ?_
    refine zrt ?_
    exact endE_ret [.agg (bvc Bs0).toArray, .int .i64 (checkL l)] ⟨⟨⟨bb2, 0, none⟩, rfl, hBs3.cellsL.ldA rfl rfl⟩, rfl, trivial⟩ ⟨zxc, _, by rw [he]; rfl, by rw [he]; exact RBr.zero _ _⟩

theorem facts_br (s : Bs) (hsm : Small s) (no : Int) (w : World) (hin : BsIn s w) :
    Calls Try.prog 19 #[.agg (bvc s).toArray, .int .i64 no] w (Ret fun r w' => Ext [] w w' ∧ RRec w' r (factsB s.br no)) := by
  have hbl := br_len s
  have hbf := hin.bls.few
  refine calls_of_Sx (args := [.agg (bvc s).toArray, .int .i64 no]) Try.func19 rfl rfl ?_
  by_cases hv : ValidB s.br; rotate_left
  · have he : factsB s.br no = ([], 540) := if_pos hv
    refine ztx ?_
    refine Ox.act rfl rfl (acts_box rfl rfl) ?_
    rintro vb2 wb2 ⟨eb2, bb2, rfl, hbb2, hBb2⟩
    first | (have hCb2 : Cells wb2 ⟨bb2, 0, none⟩ [_, _, _, _, _] := hBb2.cells) | have hCb2 := Blk.cellsL hBb2
    have hlb2 := hBb2.lt
    have hzb2 := eb2.size
    refine Ox.pure rfl rfl zas ?_
    refine Ox.pure rfl rfl zas ?_
    refine Ox.fin ?_
    refine ztx ?_
    refine Ox.val rfl rfl zra ?_
    refine Ox.act rfl rfl (acts_call rfl rfl rfl (valid_br s hsm _ (hin.ext0 zxc))) ?_
    rintro v3 w3 ⟨e3, rfl⟩
    have hz3 := e3.size
    first | rw [decide_eq_true hv] | rw [decide_eq_false hv]
    refine Ox.pure rfl rfl (rp_not rfl rfl) ?_
    refine Ox.fin ?_
    refine zct ?_
    refine ztx ?_
    refine Ox.pure rfl rfl zas ?_
    refine Ox.pure rfl rfl zas ?_
    refine Ox.fin ?_
    refine zrt ?_
    exact endE_ret [.slice none 0 0, .int .i64 540] ⟨rfl, rfl, trivial⟩ ⟨zxc, by rw [he]; exact ⟨none, ⟨0, 0, none⟩, 0, rfl, SlV.nil _ _⟩⟩
  by_cases hch1 : -1 ≤ no; rotate_left
  ·   have he : factsB s.br no = ([], 1) := (if_neg (fun h => h hv)).trans (if_pos (by omega))
      refine ztx ?_
      refine Ox.act rfl rfl (acts_box rfl rfl) ?_
      rintro vb2 wb2 ⟨eb2, bb2, rfl, hbb2, hBb2⟩
      first | (have hCb2 : Cells wb2 ⟨bb2, 0, none⟩ [_, _, _, _, _] := hBb2.cells) | have hCb2 := Blk.cellsL hBb2
      have hlb2 := hBb2.lt
      have hzb2 := eb2.size
      refine Ox.pure rfl rfl zas ?_
      refine Ox.pure rfl rfl zas ?_
      refine Ox.fin ?_
      refine ztx ?_
      refine Ox.val rfl rfl zra ?_
      refine Ox.act rfl rfl (acts_call rfl rfl rfl (valid_br s hsm _ (hin.ext0 zxc))) ?_
      rintro v4 w4 ⟨e4, rfl⟩
      have hz4 := e4.size
      first | rw [decide_eq_true hv] | rw [decide_eq_false hv]
      refine Ox.pure rfl rfl (rp_not rfl rfl) ?_
      refine Ox.fin ?_
      refine zcf ?_
      refine zsk ?_
      refine ztx ?_
      refine Ox.pure rfl rfl zmv ?_
      refine Ox.pure rfl rfl zbc ?_
      refine Ox.pure rfl rfl zmv ?_
      first | (refine Ox.skip rfl rfl ?_) | (refine Ox.pure rfl rfl zmv ?_)
      first | (refine Ox.skip rfl rfl ?_) | (refine Ox.pure rfl rfl zfa ?_)
      first | (refine Ox.skip rfl rfl ?_) | (refine Ox.val rfl rfl zrs ?_)
      first | (refine Ox.skip rfl rfl ?_) | (refine Ox.pure rfl rfl (rp_lenS rfl rfl rfl) ?_)
      first | (refine Ox.skip rfl rfl ?_) | (refine Ox.pure rfl rfl zbc ?_)
      refine Ox.pure rfl rfl zpk ?_
      refine Ox.fin ?_
      refine zct ?_
      refine ztx ?_
      refine Ox.pure rfl rfl zas ?_
      refine Ox.pure rfl rfl zas ?_
      refine Ox.fin ?_
      refine zrt ?_
      exact endE_ret [.slice none 0 0, .int .i64 1] ⟨rfl, rfl, trivial⟩ ⟨zxc, by rw [he]; exact ⟨none, ⟨0, 0, none⟩, 0, rfl, SlV.nil _ _⟩⟩
  by_cases hch2 : no < (s.bls.length : Int); rotate_left
  ·   have he : factsB s.br no = ([], 1) := (if_neg (fun h => h hv)).trans (if_pos (by omega))
      refine ztx ?_
      refine Ox.act rfl rfl (acts_box rfl rfl) ?_
      rintro vb2 wb2 ⟨eb2, bb2, rfl, hbb2, hBb2⟩
      first | (have hCb2 : Cells wb2 ⟨bb2, 0, none⟩ [_, _, _, _, _] := hBb2.cells) | have hCb2 := Blk.cellsL hBb2
      have hlb2 := hBb2.lt
      have hzb2 := eb2.size
      refine Ox.pure rfl rfl zas ?_
      refine Ox.pure rfl rfl zas ?_
      refine Ox.fin ?_
      refine ztx ?_
      refine Ox.val rfl rfl zra ?_
      refine Ox.act rfl rfl (acts_call rfl rfl rfl (valid_br s hsm _ (hin.ext0 zxc))) ?_
      rintro v5 w5 ⟨e5, rfl⟩
      have hz5 := e5.size
      first | rw [decide_eq_true hv] | rw [decide_eq_false hv]
      refine Ox.pure rfl rfl (rp_not rfl rfl) ?_
      refine Ox.fin ?_
      refine zcf ?_
      refine zsk ?_
      refine ztx ?_
      refine Ox.pure rfl rfl zmv ?_
      refine Ox.pure rfl rfl zbc ?_
      refine Ox.pure rfl rfl zmv ?_
      first | (refine Ox.skip rfl rfl ?_) | (refine Ox.pure rfl rfl zmv ?_)
      first | (refine Ox.skip rfl rfl ?_) | (refine Ox.pure rfl rfl zfa ?_)
      first | (refine Ox.skip rfl rfl ?_) | (refine Ox.val rfl rfl zrs ?_)
      first | (refine Ox.skip rfl rfl ?_) | (refine Ox.pure rfl rfl (rp_lenS rfl rfl rfl) ?_)
      first | (refine Ox.skip rfl rfl ?_) | (refine Ox.pure rfl rfl zbc ?_)
      refine Ox.pure rfl rfl zpk ?_
      refine Ox.fin ?_
      refine zct ?_
      refine ztx ?_
      refine Ox.pure rfl rfl zas ?_
      refine Ox.pure rfl rfl zas ?_
      refine Ox.fin ?_
      refine zrt ?_
      exact endE_ret [.slice none 0 0, .int .i64 1] ⟨rfl, rfl, trivial⟩ ⟨zxc, by rw [he]; exact ⟨none, ⟨0, 0, none⟩, 0, rfl, SlV.nil _ _⟩⟩
  have he : factsB s.br no = ofB s.br no := (if_neg (fun h => h hv)).trans (if_neg (by omega))
  refine ztx ?_
  refine Ox.act rfl rfl (acts_box rfl rfl) ?_
  rintro vb2 wb2 ⟨eb2, bb2, rfl, hbb2, hBb2⟩
  first | (have hCb2 : Cells wb2 ⟨bb2, 0, none⟩ [_, _, _, _, _] := hBb2.cells) | have hCb2 := Blk.cellsL hBb2
  have hlb2 := hBb2.lt
  have hzb2 := eb2.size
  refine Ox.pure rfl rfl zas ?_
  refine Ox.pure rfl rfl zas ?_
  refine Ox.fin ?_
  refine ztx ?_
  refine Ox.val rfl rfl zra ?_
  refine Ox.act rfl rfl (acts_call rfl rfl rfl (valid_br s hsm _ (hin.ext0 zxc))) ?_
  rintro v6 w6 ⟨e6, rfl⟩
  have hz6 := e6.size
  first | rw [decide_eq_true hv] | rw [decide_eq_false hv]
  refine Ox.pure rfl rfl (rp_not rfl rfl) ?_
  refine Ox.fin ?_
  refine zcf ?_
  refine zsk ?_
  refine ztx ?_
  refine Ox.pure rfl rfl zmv ?_
  refine Ox.pure rfl rfl zbc ?_
  refine Ox.pure rfl rfl zmv ?_
  first | (refine Ox.skip rfl rfl ?_) | (refine Ox.pure rfl rfl zmv ?_)
  first | (refine Ox.skip rfl rfl ?_) | (refine Ox.pure rfl rfl zfa ?_)
  first | (refine Ox.skip rfl rfl ?_) | (refine Ox.val rfl rfl zrs ?_)
  first | (refine Ox.skip rfl rfl ?_) | (refine Ox.pure rfl rfl (rp_lenS rfl rfl rfl) ?_)
  first | (refine Ox.skip rfl rfl ?_) | (refine Ox.pure rfl rfl zbc ?_)
  refine Ox.pure rfl rfl zpk ?_
  refine Ox.fin ?_
  refine zcf ?_
  refine zsk ?_
  refine ztx ?_
  refine Ox.val rfl rfl zra ?_
  refine Ox.pure rfl rfl zmv ?_
  refine Ox.act rfl rfl (acts_call rfl rfl rfl (of_no s hv.1 hv.2.1 hsm no (by assumption) (by assumption) _ (hin.ext0 zxc))) ?_
  rintro v7 w7 ⟨e7, p5, A5, c5, rfl, hs5⟩
  have hz7 := e7.size
  refine Ox.pure rfl rfl (rp_extract rfl rfl rfl) ?_
  refine Ox.pure rfl rfl (rp_extract rfl rfl rfl) ?_
  refine Ox.pure rfl rfl zas ?_
  refine Ox.pure rfl rfl zas ?_
  refine Ox.fin ?_
  refine zrt ?_
  exact endE_ret [.slice p5 (ofB s.br no).1.length c5, .int .i64 (ofB s.br no).2] ⟨rfl, rfl, trivial⟩ ⟨zxc, by rw [he]; exact ⟨p5, A5, c5, rfl, hs5.ext0 zxc⟩⟩

theorem drop_at (s : Bs) (hsm : Small s) (hfw : Few s) (no : Int) (w : World) (hin : BsIn s w) :
    Calls Try.prog 24 #[.agg (bvc s).toArray, .int .i64 no] w (Ret fun r w' => Ext [] w w' ∧ ∃ v, r = .tuple #[v, .int .i64 (dropB s.br no).2] ∧ RBr w.heap.size w' v (dropB s.br no).1) := by
  have hbl := br_len s
  refine calls_of_Sx (args := [.agg (bvc s).toArray, .int .i64 no]) Try.func24 rfl rfl ?_
  by_cases hv : ValidB s.br; rotate_left
  · have he : dropB s.br no = (Br0, 540) := if_pos hv
    refine ztx ?_
    refine Ox.act rfl rfl (acts_box rfl rfl) ?_
    rintro vb2 wb2 ⟨eb2, bb2, rfl, hbb2, hBb2⟩
    first | (have hCb2 : Cells wb2 ⟨bb2, 0, none⟩ [_, _, _, _, _] := hBb2.cells) | have hCb2 := Blk.cellsL hBb2
    have hlb2 := hBb2.lt
    have hzb2 := eb2.size
    refine Ox.act rfl rfl (acts_alloc rfl rfl) ?_
    rintro vb4 wb4 ⟨eb4, bb4, rfl, hbb4, hBb4⟩
    first | (have hCb4 : Cells wb4 ⟨bb4, 0, none⟩ [_, _, _, _, _] := hBb4.cells) | have hCb4 := Blk.cellsL hBb4
    have hlb4 := hBb4.lt
    have hzb4 := eb4.size
    refine Ox.pure rfl rfl zas ?_
    refine Ox.fin ?_
    refine ztx ?_
    refine Ox.val rfl rfl zra ?_
    refine Ox.act rfl rfl (acts_call rfl rfl rfl (valid_br s hsm _ (hin.ext0 zxc))) ?_
    rintro v8 w8 ⟨e8, rfl⟩
    have hz8 := e8.size
    first | rw [decide_eq_true hv] | rw [decide_eq_false hv]
    refine Ox.pure rfl rfl (rp_not rfl rfl) ?_
    refine Ox.fin ?_
    refine zct ?_
    refine ztx ?_
    refine Ox.val rfl rfl zra ?_
    refine Ox.act rfl rfl (acts_store_all rfl rfl rfl (hBb4.ext (X := []) zxc (by simp)) rfl rfl rfl (bvc_one Bs0)) ?_
    rintro vs2 ws2 ⟨rfl, qs2, hBs2⟩
    have es2 : Ext [] w ws2 := Ext.renew zxc qs2 (by omega)
    refine Ox.pure rfl rfl zas ?_
    refine Ox.fin ?_
    refine zrt ?_
    exact endE_ret [.agg (bvc Bs0).toArray, .int .i64 540] ⟨⟨⟨bb4, 0, none⟩, rfl, hBs2.cellsL.ldA rfl rfl⟩, rfl, trivial⟩ ⟨zxc, _, by rw [he]; rfl, by rw [he]; exact RBr.zero _ _⟩
  have hdl : s.done.length = s.bls.length := by have : s.done.length = s.br.brs.length := hv.1.2.2.2.1; omega
  by_cases ho : OpenB s.br no; rotate_left
  · have he : dropB s.br no = (Br0, 1) := (if_neg (fun h => h hv)).trans (if_pos ho)
    refine ztx ?_
    refine Ox.act rfl rfl (acts_box rfl rfl) ?_
    rintro vb2 wb2 ⟨eb2, bb2, rfl, hbb2, hBb2⟩
    first | (have hCb2 : Cells wb2 ⟨bb2, 0, none⟩ [_, _, _, _, _] := hBb2.cells) | have hCb2 := Blk.cellsL hBb2
    have hlb2 := hBb2.lt
    have hzb2 := eb2.size
    refine Ox.act rfl rfl (acts_alloc rfl rfl) ?_
    rintro vb4 wb4 ⟨eb4, bb4, rfl, hbb4, hBb4⟩
    first | (have hCb4 : Cells wb4 ⟨bb4, 0, none⟩ [_, _, _, _, _] := hBb4.cells) | have hCb4 := Blk.cellsL hBb4
    have hlb4 := hBb4.lt
    have hzb4 := eb4.size
    refine Ox.pure rfl rfl zas ?_
    refine Ox.fin ?_
    refine ztx ?_
    refine Ox.val rfl rfl zra ?_
    refine Ox.act rfl rfl (acts_call rfl rfl rfl (valid_br s hsm _ (hin.ext0 zxc))) ?_
    rintro v9 w9 ⟨e9, rfl⟩
    have hz9 := e9.size
    first | rw [decide_eq_true hv] | rw [decide_eq_false hv]
    refine Ox.pure rfl rfl (rp_not rfl rfl) ?_
    refine Ox.fin ?_
    refine zcf ?_
    refine zsk ?_
    refine ztx ?_
    refine Ox.val rfl rfl zra ?_
    refine Ox.pure rfl rfl zmv ?_
    refine Ox.act rfl rfl (acts_call rfl rfl rfl (open_at_p s no _ (hin.ext0 zxc) hdl)) ?_
    rintro v10 w10 ⟨e10, rfl⟩
    have hz10 := e10.size
    first | rw [decide_eq_true ho] | rw [decide_eq_false ho]
    refine Ox.pure rfl rfl (rp_not rfl rfl) ?_
    refine Ox.fin ?_
    refine zct ?_
    refine ztx ?_
    refine Ox.val rfl rfl zra ?_
    refine Ox.act rfl rfl (acts_store_all rfl rfl rfl (hBb4.ext (X := []) zxc (by simp)) rfl rfl rfl (bvc_one Bs0)) ?_
    rintro vs4 ws4 ⟨rfl, qs4, hBs4⟩
    have es4 : Ext [] w ws4 := Ext.renew zxc qs4 (by omega)
    refine Ox.pure rfl rfl zas ?_
    refine Ox.fin ?_
    refine zrt ?_
    exact endE_ret [.agg (bvc Bs0).toArray, .int .i64 1] ⟨⟨⟨bb4, 0, none⟩, rfl, hBs4.cellsL.ldA rfl rfl⟩, rfl, trivial⟩ ⟨zxc, _, by rw [he]; rfl, by rw [he]; exact RBr.zero _ _⟩
  have he : dropB s.br no = (⟨s.br.base, s.br.brs, s.br.par, s.br.fks, s.br.done.set no.toNat true⟩, 0) := (if_neg (fun h => h hv)).trans (if_neg (fun h => h ho))
  obtain ⟨o1, o2, _⟩ := id ho
  refine ztx ?_
  refine Ox.act rfl rfl (acts_box rfl rfl) ?_
  rintro vb2 wb2 ⟨eb2, bb2, rfl, hbb2, hBb2⟩
  first | (have hCb2 : Cells wb2 ⟨bb2, 0, none⟩ [_, _, _, _, _] := hBb2.cells) | have hCb2 := Blk.cellsL hBb2
  have hlb2 := hBb2.lt
  have hzb2 := eb2.size
  refine Ox.act rfl rfl (acts_alloc rfl rfl) ?_
  rintro vb4 wb4 ⟨eb4, bb4, rfl, hbb4, hBb4⟩
  first | (have hCb4 : Cells wb4 ⟨bb4, 0, none⟩ [_, _, _, _, _] := hBb4.cells) | have hCb4 := Blk.cellsL hBb4
  have hlb4 := hBb4.lt
  have hzb4 := eb4.size
  refine Ox.pure rfl rfl zas ?_
  refine Ox.fin ?_
  refine ztx ?_
  refine Ox.val rfl rfl zra ?_
  refine Ox.act rfl rfl (acts_call rfl rfl rfl (valid_br s hsm _ (hin.ext0 zxc))) ?_
  rintro v11 w11 ⟨e11, rfl⟩
  have hz11 := e11.size
  first | rw [decide_eq_true hv] | rw [decide_eq_false hv]
  refine Ox.pure rfl rfl (rp_not rfl rfl) ?_
  refine Ox.fin ?_
  refine zcf ?_
  refine zsk ?_
  refine ztx ?_
  refine Ox.val rfl rfl zra ?_
  refine Ox.pure rfl rfl zmv ?_
  refine Ox.act rfl rfl (acts_call rfl rfl rfl (open_at_p s no _ (hin.ext0 zxc) hdl)) ?_
  rintro v12 w12 ⟨e12, rfl⟩
  have hz12 := e12.size
  first | rw [decide_eq_true ho] | rw [decide_eq_false ho]
  refine Ox.pure rfl rfl (rp_not rfl rfl) ?_
  refine Ox.fin ?_
  refine zcf ?_
  refine zsk ?_
  refine ztx ?_
  refine Ox.val rfl rfl zra ?_
  refine Ox.act rfl rfl (acts_call rfl rfl rfl (copied_at s hfw _ (hin.ext0 zxc))) ?_
  rintro vu5 wu5 ⟨eu5, s', rfl, hbr, hbls, htr, hO⟩
  have hzu5 := eu5.size
  refine Ox.act rfl rfl (acts_store_all rfl rfl rfl (hBb4.ext (X := []) zxc (by simp)) rfl rfl rfl (bvc_one s')) ?_
  rintro vs5 ws5 ⟨rfl, qs5, hBs5⟩
  have es5 : Ext [] w ws5 := Ext.renew zxc qs5 (by omega)
  have hCs5 : Cells ws5 ⟨bb4, 0, none⟩ (bvc s') := hBs5.cellsL
  refine Ox.fin ?_
  have hl4 := hBb4.lt
  have hz5 := eu5.size
  have hzs5 := qs5.size
  have hd' : s'.done = s.done := congrArg Br.done hbr
  have hp' : s'.par = s.par := congrArg Br.par hbr
  have hf' : s'.fks = s.fks := congrArg Br.fks hbr
  have hi : no.toNat < s'.done.length := by rw [hd']; omega
  obtain ⟨hI, q1, q2, q3, q4, _⟩ := hO
  have hn4 : ∀ {e : TypeId} {m : Nat} {v : Value} {k : Nat} {xs : List Value} {b : Nat}, wu5.ownsRow b e m v k xs → wb4.heap.size ≤ b → ∀ g, v.ownBlock = some g → g ∉ [bb4] := fun h hb g hg hm => by
    have := (own_lt h g (by simp [hg])).1
    rw [List.mem_singleton.1 hm] at this; omega
  have z1 := own_keep q1 qs5 (fun g hg => hn4 q1 (by omega) g hg)
  have z2 := own_keep q2 qs5 (fun g hg => hn4 q2 (by omega) g hg)
  have z3 := own_keep q3 qs5 (fun g hg => hn4 q3 (by omega) g hg)
  have z4 := own_keep q4 qs5 (fun g hg => hn4 q4 (by omega) g hg)
  have hpt := hI.done.ptr
  refine ztx ?_
  refine Ox.pure rfl rfl zfa ?_
  refine Ox.val rfl rfl zrs ?_
  refine Ox.pure rfl rfl zmv ?_
  refine Ox.pure rfl rfl (rp_indexAddr no.toNat rfl rfl rfl rfl rfl (by assumption) (by omega) hi) ?_
  refine Ox.act rfl rfl (acts_store_own (enc := boc) boc_len true rfl rfl rfl rfl rfl (own_keep0 z4 zxc) hpt hi (boc_one true)) ?_
  rintro vs6 ws6 ⟨rfl, qs6, hos6⟩
  refine Ox.fin ?_
  have hnb : bb4 ∉ (Value.slice s'.p4 s'.done.length s'.c4).ownBlock.toList := fun hm => by have := (own_lt z4 _ hm).1; omega
  have hB6 := hBs5.ext qs6 hnb
  have hC6 : Cells ws6 ⟨bb4, 0, none⟩ (bvc s') := hB6.cellsL
  have es6 : Ext [] w ws6 := es5.join qs6 (fun y hy => .inr (by have := (own_lt z4 y hy).1; omega))
  refine ztx ?_
  refine Ox.val rfl rfl zra ?_
  refine Ox.act rfl rfl (acts_store_all rfl rfl rfl hB6 rfl rfl rfl (bvc_one s')) ?_
  rintro vs7 ws7 ⟨rfl, qs7, hBs7⟩
  have es7 : Ext [] w ws7 := Ext.renew zxc qs7 (by omega)
  refine Ox.pure rfl rfl zas ?_
  refine Ox.fin ?_
  refine zrt ?_
  have hn6 : ∀ {e : TypeId} {m : Nat} {v : Value} {k : Nat} {xs : List Value} {b : Nat}, ws6.ownsRow b e m v k xs → wb4.heap.size ≤ b → ∀ g, v.ownBlock = some g → g ∉ [bb4] := fun h hb g hg hm => by
    have := (own_lt h g (by simp [hg])).1
    rw [List.mem_singleton.1 hm] at this; omega
  have y1 := own_keep z1 qs6 (fun g hg hm => own_apart z1 z4 (by decide) g hg (by simpa using hm))
  have y2 := own_keep z2 qs6 (fun g hg hm => own_apart z2 z4 (by decide) g hg (by simpa using hm))
  have y3 := own_keep z3 qs6 (fun g hg hm => own_apart z3 z4 (by decide) g hg (by simpa using hm))
  have x1 := own_keep y1 qs7 (fun g hg => hn6 y1 (by omega) g hg)
  have x2 := own_keep y2 qs7 (fun g hg => hn6 y2 (by omega) g hg)
  have x3 := own_keep y3 qs7 (fun g hg => hn6 y3 (by omega) g hg)
  have x4 := own_keep hos6 qs7 (fun g hg => hn6 hos6 (by omega) g hg)
  obtain ⟨w1, w2, w3, w4⟩ := hfw
  have hls : (s'.done.set no.toNat true).length = s'.done.length := by simp
  have hres := own_in (s := { s' with done := s'.done.set no.toNat true }) ⟨by show s'.bls.length ≤ 1000; rw [hbls]; exact w1, by show s'.par.length ≤ 1000; rw [hp']; exact w2, by show s'.fks.length ≤ 1000; rw [hf']; exact w3, by show (s'.done.set no.toNat true).length ≤ 1000; rw [hls, hd']; exact w4⟩ (htr _ (hin.base.ext0 es7)) (fun x hx => (hin.sub x (by rw [← hbls]; exact hx)).imp fun _ h => h.ext0 es7) x1 x2 x3 (by show ws7.ownsRow _ _ _ (.slice s'.p4 (s'.done.set no.toNat true).length s'.c4) (s'.done.set no.toNat true).length _; rw [hls]; exact x4)
  refine endE_ret [.agg (bvc s').toArray, .int .i64 0] ⟨⟨⟨bb4, 0, none⟩, rfl, hBs7.cellsL.ldA rfl rfl⟩, rfl, trivial⟩ ⟨zxc, _, by rw [he]; rfl, ?_⟩
  rw [he, ← hbr]
  have hbv : bvc { s' with done := s'.done.set no.toNat true } = bvc s' := by
    show [_, _, _, _, Value.slice s'.p4 (s'.done.set no.toNat true).length s'.c4] = _
    rw [hls]
  rw [hbv] at hres
  exact hres.low (by omega)

end Go.Proofs.Ytfgckcochilpkaa

/- Branches' walks: a branching of one's own in a variable. -/
set_option linter.unusedVariables false
set_option maxRecDepth 100000
set_option maxHeartbeats 4000000
set_option linter.unusedSimpArgs false
namespace Go.Proofs.Ytfgckcochilpkaa
open Go Go.Eng

/-- A branching in a variable's block b, its rows (but Base) are the call's own, from `base` on. -/
structure OB (b base : Nat) (s : Bs) (w : World) : Prop where
  blk : Blk w b 27 (bvc s)
  o1 : w.ownsRow base 59 1 (.slice s.p1 s.bls.length s.c1) s.bls.length (rowsV blc s.bls)
  o2 : w.ownsRow base 3 1 (.slice s.p2 s.par.length s.c2) s.par.length (rowsV ic s.par)
  o3 : w.ownsRow base 3 1 (.slice s.p3 s.fks.length s.c3) s.fks.length (rowsV ic s.fks)
  o4 : w.ownsRow base 4 1 (.slice s.p4 s.done.length s.c4) s.done.length (rowsV boc s.done)
  apart : ∀ g, (Value.slice s.p2 s.par.length s.c2).ownBlock = some g → (Value.slice s.p3 s.fks.length s.c3).ownBlock ≠ some g
theorem OB.ext0 {b base : Nat} {s : Bs} {w w' : World} (h : OB b base s w) (he : Ext [] w w') : OB b base s w' :=
  ⟨h.blk.ext he (by simp), own_keep0 h.o1 he, own_keep0 h.o2 he, own_keep0 h.o3 he, own_keep0 h.o4 he, h.apart⟩
theorem own_notin {base b : Nat} {e : TypeId} {m : Nat} {v : Value} {k : Nat} {xs : List Value} {w : World} (h : w.ownsRow base e m v k xs) (hb : b < base) : ∀ g, v.ownBlock = some g → g ∉ [b] := fun g hg hm => by
  have := (own_lt h g (by simp [hg])).1
  rw [List.mem_singleton.1 hm] at this; omega
theorem notin_own {base b : Nat} {e : TypeId} {m : Nat} {v : Value} {k : Nat} {xs : List Value} {w : World} (h : w.ownsRow base e m v k xs) (hb : b < base) : b ∉ v.ownBlock.toList := fun hm => by
  have := (own_lt h b hm).1; omega
/-- A row does not lie in a block of another type. -/
theorem own_ne {base b : Nat} {e t : TypeId} {m : Nat} {v : Value} {k : Nat} {xs cs : List Value} {w : World} (h : w.ownsRow base e m v k xs) (hB : Blk w b t cs) (hne : e ≠ t) : ∀ g, v.ownBlock = some g → g ∉ [b] := fun g hg hm => by
  obtain rfl := List.mem_singleton.1 hm
  obtain ⟨_, h | ⟨b, cap, cur, rfl, hb, hg2, _⟩⟩ := h
  · obtain ⟨rfl, rfl⟩ := h; simp [Value.ownBlock] at hg
  simp only [Value.ownBlock, Option.some.injEq] at hg
  subst hg
  unfold Blk at hB
  rw [hg2] at hB
  simp only [Option.some.injEq, Obj.cells.injEq] at hB
  exact hne hB.2.1
theorem ne_own {base b : Nat} {e t : TypeId} {m : Nat} {v : Value} {k : Nat} {xs cs : List Value} {w : World} (h : w.ownsRow base e m v k xs) (hB : Blk w b t cs) (hne : e ≠ t) : b ∉ v.ownBlock.toList := fun hm => own_ne h hB hne b (by simpa using hm) (List.mem_singleton.2 rfl)
theorem OB.put {b base : Nat} {s : Bs} {w w' : World} {cs : List Value} (h : BsOwn base s w) (hb : Blk w b 27 cs) (hq : Ext [b] w w') (hB : Blk w' b 27 (bvc s)) : OB b base s w' :=
  ⟨hB, own_keep h.obls hq (own_ne h.obls hb (by decide)), own_keep h.opar hq (own_ne h.opar hb (by decide)), own_keep h.ofks hq (own_ne h.ofks hb (by decide)), own_keep h.odone hq (own_ne h.odone hb (by decide)), h.apart⟩
theorem OB.blk1 {b base : Nat} {s : Bs} {w w' : World} {v : Value} {k : Nat} {xs : List Value} (h : OB b base s w) (hg : Grew base 59 1 w (.slice s.p1 s.bls.length s.c1) k xs v w') : Blk w' b 27 (bvc s) := h.blk.ext hg.ext (ne_own h.o1 h.blk (by decide))
theorem OB.app1 {b base : Nat} {s : Bs} {w w' w'' : World} {x : Bl} {p : Option Addr} {c : Nat} (h : OB b base s w) (hg : Grew base 59 1 w (.slice s.p1 s.bls.length s.c1) (s.bls.length + 1) (rowsV blc s.bls ++ blc x) (.slice p (s.bls.length + 1) c) w')
    (hq : Ext [b] w' w'') (hB : Blk w'' b 27 (over (bvc s) 1 (Value.slice p (s.bls.length + 1) c).cells.toList)) : OB b base { s with bls := s.bls ++ [x], p1 := p, c1 := c } w'' := by
  have hl : (s.bls ++ [x]).length = s.bls.length + 1 := by simp
  have hr : rowsV blc (s.bls ++ [x]) = rowsV blc s.bls ++ blc x := by rw [rowsV_append, rowsV_one]
  have y2 := own_keep h.o2 hg.ext (fun g hg hm => own_apart h.o2 h.o1 (by decide) g hg (by simpa using hm))
  have x2 := own_keep y2 hq (own_ne y2 (h.blk1 hg) (by decide))
  have y3 := own_keep h.o3 hg.ext (fun g hg hm => own_apart h.o3 h.o1 (by decide) g hg (by simpa using hm))
  have x3 := own_keep y3 hq (own_ne y3 (h.blk1 hg) (by decide))
  have y4 := own_keep h.o4 hg.ext (fun g hg hm => own_apart h.o4 h.o1 (by decide) g hg (by simpa using hm))
  have x4 := own_keep y4 hq (own_ne y4 (h.blk1 hg) (by decide))
  have x1 := own_keep hg.own hq (own_ne hg.own (h.blk1 hg) (by decide))
  exact ⟨by show Blk w'' b 27 [.slice s.p0 s.base.length s.c0, .slice p (s.bls ++ [x]).length c, .slice s.p2 s.par.length s.c2, .slice s.p3 s.fks.length s.c3, .slice s.p4 s.done.length s.c4]; rw [hl]; exact hB, by show World.ownsRow _ _ _ _ (.slice p (s.bls ++ [x]).length c) (s.bls ++ [x]).length (rowsV blc (s.bls ++ [x])); rw [hl, hr]; exact x1, x2, x3, x4, h.apart⟩
theorem OB.blk2 {b base : Nat} {s : Bs} {w w' : World} {v : Value} {k : Nat} {xs : List Value} (h : OB b base s w) (hg : Grew base 3 1 w (.slice s.p2 s.par.length s.c2) k xs v w') : Blk w' b 27 (bvc s) := h.blk.ext hg.ext (ne_own h.o2 h.blk (by decide))
theorem OB.app2 {b base : Nat} {s : Bs} {w w' w'' : World} {x : Int} {p : Option Addr} {c : Nat} (h : OB b base s w) (hg : Grew base 3 1 w (.slice s.p2 s.par.length s.c2) (s.par.length + 1) (rowsV ic s.par ++ ic x) (.slice p (s.par.length + 1) c) w')
    (hq : Ext [b] w' w'') (hB : Blk w'' b 27 (over (bvc s) 2 (Value.slice p (s.par.length + 1) c).cells.toList)) : OB b base { s with par := s.par ++ [x], p2 := p, c2 := c } w'' := by
  have hl : (s.par ++ [x]).length = s.par.length + 1 := by simp
  have hr : rowsV ic (s.par ++ [x]) = rowsV ic s.par ++ ic x := by rw [rowsV_append, rowsV_one]
  have y1 := own_keep h.o1 hg.ext (fun g hg hm => own_apart h.o1 h.o2 (by decide) g hg (by simpa using hm))
  have x1 := own_keep y1 hq (own_ne y1 (h.blk2 hg) (by decide))
  have y3 := own_keep h.o3 hg.ext (fun g hg hm => h.apart g (by simpa using hm) hg)
  have x3 := own_keep y3 hq (own_ne y3 (h.blk2 hg) (by decide))
  have y4 := own_keep h.o4 hg.ext (fun g hg hm => own_apart h.o4 h.o2 (by decide) g hg (by simpa using hm))
  have x4 := own_keep y4 hq (own_ne y4 (h.blk2 hg) (by decide))
  have x2 := own_keep hg.own hq (own_ne hg.own (h.blk2 hg) (by decide))
  have hap : ∀ g, (Value.slice p (s.par.length + 1) c).ownBlock = some g → (Value.slice s.p3 s.fks.length s.c3).ownBlock ≠ some g := fun g h1 h2 => by
    rcases hg.blk g (by simp [h1]) with h3 | h3
    · exact h.apart g (by simpa using h3) h2
    · have := (own_lt h.o3 g (by simp [h2])).2; omega
  exact ⟨by show Blk w'' b 27 [.slice s.p0 s.base.length s.c0, .slice s.p1 s.bls.length s.c1, .slice p (s.par ++ [x]).length c, .slice s.p3 s.fks.length s.c3, .slice s.p4 s.done.length s.c4]; rw [hl]; exact hB, x1, by show World.ownsRow _ _ _ _ (.slice p (s.par ++ [x]).length c) (s.par ++ [x]).length (rowsV ic (s.par ++ [x])); rw [hl, hr]; exact x2, x3, x4, by show ∀ g, (Value.slice p (s.par ++ [x]).length c).ownBlock = some g → _; rw [hl]; exact hap⟩
theorem OB.blk3 {b base : Nat} {s : Bs} {w w' : World} {v : Value} {k : Nat} {xs : List Value} (h : OB b base s w) (hg : Grew base 3 1 w (.slice s.p3 s.fks.length s.c3) k xs v w') : Blk w' b 27 (bvc s) := h.blk.ext hg.ext (ne_own h.o3 h.blk (by decide))
theorem OB.app3 {b base : Nat} {s : Bs} {w w' w'' : World} {x : Int} {p : Option Addr} {c : Nat} (h : OB b base s w) (hg : Grew base 3 1 w (.slice s.p3 s.fks.length s.c3) (s.fks.length + 1) (rowsV ic s.fks ++ ic x) (.slice p (s.fks.length + 1) c) w')
    (hq : Ext [b] w' w'') (hB : Blk w'' b 27 (over (bvc s) 3 (Value.slice p (s.fks.length + 1) c).cells.toList)) : OB b base { s with fks := s.fks ++ [x], p3 := p, c3 := c } w'' := by
  have hl : (s.fks ++ [x]).length = s.fks.length + 1 := by simp
  have hr : rowsV ic (s.fks ++ [x]) = rowsV ic s.fks ++ ic x := by rw [rowsV_append, rowsV_one]
  have y1 := own_keep h.o1 hg.ext (fun g hg hm => own_apart h.o1 h.o3 (by decide) g hg (by simpa using hm))
  have x1 := own_keep y1 hq (own_ne y1 (h.blk3 hg) (by decide))
  have y2 := own_keep h.o2 hg.ext (fun g hg hm => h.apart g hg (by simpa using hm))
  have x2 := own_keep y2 hq (own_ne y2 (h.blk3 hg) (by decide))
  have y4 := own_keep h.o4 hg.ext (fun g hg hm => own_apart h.o4 h.o3 (by decide) g hg (by simpa using hm))
  have x4 := own_keep y4 hq (own_ne y4 (h.blk3 hg) (by decide))
  have x3 := own_keep hg.own hq (own_ne hg.own (h.blk3 hg) (by decide))
  have hap : ∀ g, (Value.slice s.p2 s.par.length s.c2).ownBlock = some g → (Value.slice p (s.fks.length + 1) c).ownBlock ≠ some g := fun g h1 h2 => by
    rcases hg.blk g (by simp [h2]) with h3 | h3
    · exact h.apart g h1 (by simpa using h3)
    · have := (own_lt h.o2 g (by simp [h1])).2; omega
  exact ⟨by show Blk w'' b 27 [.slice s.p0 s.base.length s.c0, .slice s.p1 s.bls.length s.c1, .slice s.p2 s.par.length s.c2, .slice p (s.fks ++ [x]).length c, .slice s.p4 s.done.length s.c4]; rw [hl]; exact hB, x1, x2, by show World.ownsRow _ _ _ _ (.slice p (s.fks ++ [x]).length c) (s.fks ++ [x]).length (rowsV ic (s.fks ++ [x])); rw [hl, hr]; exact x3, x4, by show ∀ g, _ → (Value.slice p (s.fks ++ [x]).length c).ownBlock ≠ some g; rw [hl]; exact hap⟩
theorem OB.blk4 {b base : Nat} {s : Bs} {w w' : World} {v : Value} {k : Nat} {xs : List Value} (h : OB b base s w) (hg : Grew base 4 1 w (.slice s.p4 s.done.length s.c4) k xs v w') : Blk w' b 27 (bvc s) := h.blk.ext hg.ext (ne_own h.o4 h.blk (by decide))
theorem OB.app4 {b base : Nat} {s : Bs} {w w' w'' : World} {x : Bool} {p : Option Addr} {c : Nat} (h : OB b base s w) (hg : Grew base 4 1 w (.slice s.p4 s.done.length s.c4) (s.done.length + 1) (rowsV boc s.done ++ boc x) (.slice p (s.done.length + 1) c) w')
    (hq : Ext [b] w' w'') (hB : Blk w'' b 27 (over (bvc s) 4 (Value.slice p (s.done.length + 1) c).cells.toList)) : OB b base { s with done := s.done ++ [x], p4 := p, c4 := c } w'' := by
  have hl : (s.done ++ [x]).length = s.done.length + 1 := by simp
  have hr : rowsV boc (s.done ++ [x]) = rowsV boc s.done ++ boc x := by rw [rowsV_append, rowsV_one]
  have y1 := own_keep h.o1 hg.ext (fun g hg hm => own_apart h.o1 h.o4 (by decide) g hg (by simpa using hm))
  have x1 := own_keep y1 hq (own_ne y1 (h.blk4 hg) (by decide))
  have y2 := own_keep h.o2 hg.ext (fun g hg hm => own_apart h.o2 h.o4 (by decide) g hg (by simpa using hm))
  have x2 := own_keep y2 hq (own_ne y2 (h.blk4 hg) (by decide))
  have y3 := own_keep h.o3 hg.ext (fun g hg hm => own_apart h.o3 h.o4 (by decide) g hg (by simpa using hm))
  have x3 := own_keep y3 hq (own_ne y3 (h.blk4 hg) (by decide))
  have x4 := own_keep hg.own hq (own_ne hg.own (h.blk4 hg) (by decide))
  exact ⟨by show Blk w'' b 27 [.slice s.p0 s.base.length s.c0, .slice s.p1 s.bls.length s.c1, .slice s.p2 s.par.length s.c2, .slice s.p3 s.fks.length s.c3, .slice p (s.done ++ [x]).length c]; rw [hl]; exact hB, x1, x2, x3, by show World.ownsRow _ _ _ _ (.slice p (s.done ++ [x]).length c) (s.done ++ [x]).length (rowsV boc (s.done ++ [x])); rw [hl, hr]; exact x4, h.apart⟩
theorem OB.set1 {b base : Nat} {s : Bs} {w w' : World} {x : Bl} {j : Nat} (h : OB b base s w) (hq : Ext (Value.slice s.p1 s.bls.length s.c1).ownBlock.toList w w') (ho : w'.ownsRow base 59 1 (.slice s.p1 s.bls.length s.c1) s.bls.length (rowsV blc (s.bls.set j x))) :
    OB b base { s with bls := s.bls.set j x } w' := by
  have hl : (s.bls.set j x).length = s.bls.length := by simp
  have x2 := own_keep h.o2 hq (fun g hg hm => own_apart h.o2 h.o1 (by decide) g hg (by simpa using hm))
  have x3 := own_keep h.o3 hq (fun g hg hm => own_apart h.o3 h.o1 (by decide) g hg (by simpa using hm))
  have x4 := own_keep h.o4 hq (fun g hg hm => own_apart h.o4 h.o1 (by decide) g hg (by simpa using hm))
  exact ⟨by show Blk w' b 27 [.slice s.p0 s.base.length s.c0, .slice s.p1 (s.bls.set j x).length s.c1, .slice s.p2 s.par.length s.c2, .slice s.p3 s.fks.length s.c3, .slice s.p4 s.done.length s.c4]; rw [hl]; exact h.blk.ext hq (ne_own h.o1 h.blk (by decide)), by show World.ownsRow _ _ _ _ (.slice s.p1 (s.bls.set j x).length s.c1) (s.bls.set j x).length (rowsV blc (s.bls.set j x)); rw [hl]; exact ho, x2, x3, x4, h.apart⟩
theorem OB.set4 {b base : Nat} {s : Bs} {w w' : World} {x : Bool} {j : Nat} (h : OB b base s w) (hq : Ext (Value.slice s.p4 s.done.length s.c4).ownBlock.toList w w') (ho : w'.ownsRow base 4 1 (.slice s.p4 s.done.length s.c4) s.done.length (rowsV boc (s.done.set j x))) :
    OB b base { s with done := s.done.set j x } w' := by
  have hl : (s.done.set j x).length = s.done.length := by simp
  have x1 := own_keep h.o1 hq (fun g hg hm => own_apart h.o1 h.o4 (by decide) g hg (by simpa using hm))
  have x2 := own_keep h.o2 hq (fun g hg hm => own_apart h.o2 h.o4 (by decide) g hg (by simpa using hm))
  have x3 := own_keep h.o3 hq (fun g hg hm => own_apart h.o3 h.o4 (by decide) g hg (by simpa using hm))
  exact ⟨by show Blk w' b 27 [.slice s.p0 s.base.length s.c0, .slice s.p1 s.bls.length s.c1, .slice s.p2 s.par.length s.c2, .slice s.p3 s.fks.length s.c3, .slice s.p4 (s.done.set j x).length s.c4]; rw [hl]; exact h.blk.ext hq (ne_own h.o4 h.blk (by decide)), x1, x2, x3, by show World.ownsRow _ _ _ _ (.slice s.p4 (s.done.set j x).length s.c4) (s.done.set j x).length (rowsV boc (s.done.set j x)); rw [hl]; exact ho, h.apart⟩
theorem OB.ext_app1 {b base : Nat} {s : Bs} {w0 w w' w'' : World} {v : Value} {k : Nat} {xs : List Value} (h : OB b base s w) (hg : Grew base 59 1 w (.slice s.p1 s.bls.length s.c1) k xs v w') (he : Ext [] w0 w) (hb : w0.heap.size ≤ b) (hbb : w0.heap.size ≤ base) (hq : Ext [b] w' w'') : Ext [] w0 w'' :=
  Ext.renew (hg.ext0 he (fun g hg' => by have h1 := (own_lt h.o1 g (by simp [hg'])).1; omega)) hq hb
theorem OB.ext_app2 {b base : Nat} {s : Bs} {w0 w w' w'' : World} {v : Value} {k : Nat} {xs : List Value} (h : OB b base s w) (hg : Grew base 3 1 w (.slice s.p2 s.par.length s.c2) k xs v w') (he : Ext [] w0 w) (hb : w0.heap.size ≤ b) (hbb : w0.heap.size ≤ base) (hq : Ext [b] w' w'') : Ext [] w0 w'' :=
  Ext.renew (hg.ext0 he (fun g hg' => by have h1 := (own_lt h.o2 g (by simp [hg'])).1; omega)) hq hb
theorem OB.ext_app3 {b base : Nat} {s : Bs} {w0 w w' w'' : World} {v : Value} {k : Nat} {xs : List Value} (h : OB b base s w) (hg : Grew base 3 1 w (.slice s.p3 s.fks.length s.c3) k xs v w') (he : Ext [] w0 w) (hb : w0.heap.size ≤ b) (hbb : w0.heap.size ≤ base) (hq : Ext [b] w' w'') : Ext [] w0 w'' :=
  Ext.renew (hg.ext0 he (fun g hg' => by have h1 := (own_lt h.o3 g (by simp [hg'])).1; omega)) hq hb
theorem OB.ext_app4 {b base : Nat} {s : Bs} {w0 w w' w'' : World} {v : Value} {k : Nat} {xs : List Value} (h : OB b base s w) (hg : Grew base 4 1 w (.slice s.p4 s.done.length s.c4) k xs v w') (he : Ext [] w0 w) (hb : w0.heap.size ≤ b) (hbb : w0.heap.size ≤ base) (hq : Ext [b] w' w'') : Ext [] w0 w'' :=
  Ext.renew (hg.ext0 he (fun g hg' => by have h1 := (own_lt h.o4 g (by simp [hg'])).1; omega)) hq hb
theorem OB.base {b base : Nat} {s : Bs} {w w' : World} {l : List Fct} {p : Option Addr} {A : Addr} {c : Nat} (h : OB b base s w) (hq : Ext [b] w w') (hB : Blk w' b 27 (over (bvc s) 0 (Value.slice p l.length c).cells.toList)) :
    OB b base { s with base := l, p0 := p, A0 := A, c0 := c } w' :=
  ⟨hB, own_keep h.o1 hq (own_ne h.o1 h.blk (by decide)), own_keep h.o2 hq (own_ne h.o2 h.blk (by decide)), own_keep h.o3 hq (own_ne h.o3 h.blk (by decide)), own_keep h.o4 hq (own_ne h.o4 h.blk (by decide)), h.apart⟩
theorem OB.self {b base : Nat} {s : Bs} {w w' : World} (h : OB b base s w) (hq : Ext [b] w w') (hB : Blk w' b 27 (bvc s)) : OB b base s w' :=
  ⟨hB, own_keep h.o1 hq (own_ne h.o1 h.blk (by decide)), own_keep h.o2 hq (own_ne h.o2 h.blk (by decide)), own_keep h.o3 hq (own_ne h.o3 h.blk (by decide)), own_keep h.o4 hq (own_ne h.o4 h.blk (by decide)), h.apart⟩
theorem OB.res {b base : Nat} {s : Bs} {w : World} (h : OB b base s w) (hfw : Few s) (hb : SlV fc w s.p0 s.A0 s.base s.c0) (hsub : ∀ x ∈ s.bls, ∃ A, SlV cc w x.p A x.l x.c) : RBr base w (.agg (bvc s).toArray) s.br :=
  own_in hfw hb hsub h.o1 h.o2 h.o3 h.o4
theorem OB.cells {b base : Nat} {s : Bs} {w : World} (h : OB b base s w) : Cells w ⟨b, 0, none⟩ (bvc s) := h.blk.cells
theorem OB.step {base : Nat} {w0 w w' : World} {v : Value} {e : TypeId} {k : Nat} {xs : List Value} (he : Ext [] w0 w) (hq : Ext v.ownBlock.toList w w') (h : w.ownsRow base e 1 v k xs) (hb : w0.heap.size ≤ base) : Ext [] w0 w' :=
  he.join hq (fun y hy => .inr (by have := (own_lt h y hy).1; omega))

end Go.Proofs.Ytfgckcochilpkaa
