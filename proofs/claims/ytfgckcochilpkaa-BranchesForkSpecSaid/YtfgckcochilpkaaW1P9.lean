/- Texts of one proof, put together: BranZ, BranQ. -/
import Derived.Test.YtfgckcochilpkaaRows
import Derived.Test.YtfgckcochilpkaaW1P8
/- Branches' walks: how many. -/
set_option linter.unusedVariables false
set_option maxRecDepth 100000
set_option maxHeartbeats 4000000
set_option linter.unusedSimpArgs false
namespace Go.Proofs.Ytfgckcochilpkaa
open Go Go.Eng

def sumB (b : Br) : Nat := (b.brs.map List.length).sum
def FewB (b : Br) : Prop := b.base.length ≤ 30 ∧ sumB b ≤ 24 ∧ b.brs.length ≤ 70 ∧ b.par.length ≤ 80 ∧ b.fks.length ≤ 80 ∧ b.done.length ≤ 80 ∧ (sumB b = 0 ∨ b.brs.length ≤ 8)
instance (b : Br) : Decidable (FewB b) := by unfold FewB; infer_instance
theorem sum_step {ls : List Bl} {i : Nat} (h : i < ls.length) : ((ls.take (i + 1)).map (fun x => x.l.length)).sum = ((ls.take i).map (fun x => x.l.length)).sum + ls[i].l.length := by
  rw [← List.take_append_getElem h, List.map_append, List.sum_append]; simp
theorem sumB_br (s : Bs) : sumB s.br = (s.bls.map (fun x => x.l.length)).sum := by
  unfold sumB Bs.br; simp only [List.map_map]; rfl
theorem ref_FewB_many (s : Bs) (w : World) (hs : BsIn s w) (h70 : ¬ s.bls.length ≤ 70) :
    Calls Try.prog 11 #[.agg (bvc s).toArray] w (Ret fun r w' => Ext [] w w' ∧ r = .bool false) := by
  have hbl := br_len s
  have hf1 := hs.bls.few
  refine calls_of_Sx (args := [.agg (bvc s).toArray]) Try.func11 rfl rfl ?_
  refine ztx ?_
  refine Ox.act rfl rfl (acts_box rfl rfl) ?_
  rintro vb1 wb1 ⟨eb1, bb1, rfl, hbb1, hBb1⟩
  first | (have hCb1 : Cells wb1 ⟨bb1, 0, none⟩ [_, _, _, _, _] := hBb1.cells) | have hCb1 := Blk.cellsL hBb1
  have hlb1 := hBb1.lt
  have hzb1 := eb1.size
  refine Ox.pure rfl rfl zas ?_
  refine Ox.fin ?_
  refine ztx ?_
  refine Ox.pure rfl rfl zas ?_
  refine Ox.fin ?_
  refine ztx ?_
  refine Ox.pure rfl rfl zas ?_
  refine Ox.fin ?_
  refine zbl ?_
  refine Sx.loop (ι := Nat × Int) (fun i E wr => E = [(1, .pointer (some ⟨bb1, 0, none⟩)), (3, .int .i64 i.2), (4, .int .i64 (i.1 : Int))] ∧ i.1 ≤ s.bls.length ∧ Ext [] wb1 wr) (fun i => s.bls.length - i.1) (0, 0)
    (sub_cons rfl (sub_cons rfl (sub_cons rfl sub_nil))) ⟨rfl, Nat.zero_le _, zxc⟩ ?_
  rintro ⟨i, n⟩ E wr ⟨rfl, hi, er⟩
  dsimp only at hi ⊢
  by_cases hlt : i < s.bls.length
  · 
    refine ztx ?_
    refine Ox.pure rfl rfl zmv ?_
    refine Ox.pure rfl rfl zfa ?_
    refine Ox.val rfl rfl zrs ?_
    refine Ox.pure rfl rfl (rp_lenS rfl rfl rfl) ?_
    refine Ox.pure rfl rfl zbc ?_
    refine Ox.fin ?_
    refine zct ?_
    refine zsk ?_
    refine zbl ?_
    refine ztx ?_
    refine Ox.pure rfl rfl zmv ?_
    refine Ox.pure rfl rfl zfa ?_
    refine Ox.val rfl rfl zrs ?_
    refine Ox.pure rfl rfl zmv ?_
    refine Ox.pure rfl rfl (rp_indexAddr i rfl rfl rfl rfl rfl hs.bls.ptr rfl hlt) ?_
    refine Ox.val rfl rfl (rv_load rfl rfl (fun u hu => ld_field blc_len (hs.bls.row.ext0 zxc) hlt 0 rfl (by decide) rfl)) ?_
    refine Ox.pure rfl rfl (rp_lenS rfl rfl rfl) ?_
    refine Ox.pure rfl rfl (rp_bin rfl rfl rfl rfl) ?_
    refine Ox.pure rfl rfl zas ?_
    refine Ox.fin ?_
    refine ztx ?_
    refine Ox.pure rfl rfl zmv ?_
    refine Ox.pure rfl rfl zba ?_
    refine Ox.pure rfl rfl zas ?_
    refine Ox.fin ?_
    exact ⟨(i + 1, _), _, sub_cons rfl (sub_cons rfl (sub_cons rfl sub_nil)), ⟨rfl, hlt, zxc⟩, by dsimp only; omega⟩
  refine ztx ?_
  refine Ox.pure rfl rfl zmv ?_
  refine Ox.pure rfl rfl zfa ?_
  refine Ox.val rfl rfl zrs ?_
  refine Ox.pure rfl rfl (rp_lenS rfl rfl rfl) ?_
  refine Ox.pure rfl rfl zbc ?_
  refine Ox.fin ?_
  refine zcf ?_
  refine zex ?_
  by_cases hch1 : s.base.length ≤ 30; rotate_left
  ·   refine ztx ?_
      refine Ox.pure rfl rfl zfa ?_
      refine Ox.val rfl rfl zrs ?_
      refine Ox.pure rfl rfl (rp_lenS rfl rfl rfl) ?_
      refine Ox.pure rfl rfl zbc ?_
      refine Ox.pure rfl rfl zmv ?_
      first | (refine Ox.skip rfl rfl ?_) | (refine Ox.pure rfl rfl zmv ?_)
      first | (refine Ox.skip rfl rfl ?_) | (refine Ox.pure rfl rfl zbc ?_)
      refine Ox.pure rfl rfl zpk ?_
      refine Ox.pure rfl rfl zmv ?_
      first | (refine Ox.skip rfl rfl ?_) | (refine Ox.pure rfl rfl zfa ?_)
      first | (refine Ox.skip rfl rfl ?_) | (refine Ox.val rfl rfl zrs ?_)
      first | (refine Ox.skip rfl rfl ?_) | (refine Ox.pure rfl rfl (rp_lenS rfl rfl rfl) ?_)
      first | (refine Ox.skip rfl rfl ?_) | (refine Ox.pure rfl rfl zbc ?_)
      refine Ox.pure rfl rfl zpk ?_
      refine Ox.pure rfl rfl zmv ?_
      first | (refine Ox.skip rfl rfl ?_) | (refine Ox.pure rfl rfl zfa ?_)
      first | (refine Ox.skip rfl rfl ?_) | (refine Ox.val rfl rfl zrs ?_)
      first | (refine Ox.skip rfl rfl ?_) | (refine Ox.pure rfl rfl (rp_lenS rfl rfl rfl) ?_)
      first | (refine Ox.skip rfl rfl ?_) | (refine Ox.pure rfl rfl zbc ?_)
      refine Ox.pure rfl rfl zpk ?_
      refine Ox.pure rfl rfl zmv ?_
      first | (refine Ox.skip rfl rfl ?_) | (refine Ox.pure rfl rfl zfa ?_)
      first | (refine Ox.skip rfl rfl ?_) | (refine Ox.val rfl rfl zrs ?_)
      first | (refine Ox.skip rfl rfl ?_) | (refine Ox.pure rfl rfl (rp_lenS rfl rfl rfl) ?_)
      first | (refine Ox.skip rfl rfl ?_) | (refine Ox.pure rfl rfl zbc ?_)
      refine Ox.pure rfl rfl zpk ?_
      refine Ox.pure rfl rfl zmv ?_
      first | (refine Ox.skip rfl rfl ?_) | (refine Ox.pure rfl rfl zfa ?_)
      first | (refine Ox.skip rfl rfl ?_) | (refine Ox.val rfl rfl zrs ?_)
      first | (refine Ox.skip rfl rfl ?_) | (refine Ox.pure rfl rfl (rp_lenS rfl rfl rfl) ?_)
      first | (refine Ox.skip rfl rfl ?_) | (refine Ox.pure rfl rfl zbc ?_)
      refine Ox.pure rfl rfl zpk ?_
      refine Ox.pure rfl rfl zmv ?_
      first | (refine Ox.skip rfl rfl ?_) | (refine Ox.pure rfl rfl zmv ?_)
      first | (refine Ox.skip rfl rfl ?_) | (refine Ox.pure rfl rfl zbc ?_)
      first | (refine Ox.skip rfl rfl ?_) | (refine Ox.pure rfl rfl zmv ?_)
      first | (refine Ox.skip rfl rfl ?_) | (refine Ox.pure rfl rfl zfa ?_)
      first | (refine Ox.skip rfl rfl ?_) | (refine Ox.val rfl rfl zrs ?_)
      first | (refine Ox.skip rfl rfl ?_) | (refine Ox.pure rfl rfl (rp_lenS rfl rfl rfl) ?_)
      first | (refine Ox.skip rfl rfl ?_) | (refine Ox.pure rfl rfl zbc ?_)
      first | (refine Ox.skip rfl rfl ?_) | (refine Ox.pure rfl rfl zpk ?_)
      refine Ox.pure rfl rfl zpk ?_
      refine Ox.pure rfl rfl zas ?_
      refine Ox.fin ?_
      refine zrt ?_
      exact endE_ret [_] ⟨rfl, trivial⟩ ⟨zxc, rfl⟩
  by_cases hch2 : n ≤ 24; rotate_left
  ·   refine ztx ?_
      refine Ox.pure rfl rfl zfa ?_
      refine Ox.val rfl rfl zrs ?_
      refine Ox.pure rfl rfl (rp_lenS rfl rfl rfl) ?_
      refine Ox.pure rfl rfl zbc ?_
      refine Ox.pure rfl rfl zmv ?_
      first | (refine Ox.skip rfl rfl ?_) | (refine Ox.pure rfl rfl zmv ?_)
      first | (refine Ox.skip rfl rfl ?_) | (refine Ox.pure rfl rfl zbc ?_)
      refine Ox.pure rfl rfl zpk ?_
      refine Ox.pure rfl rfl zmv ?_
      first | (refine Ox.skip rfl rfl ?_) | (refine Ox.pure rfl rfl zfa ?_)
      first | (refine Ox.skip rfl rfl ?_) | (refine Ox.val rfl rfl zrs ?_)
      first | (refine Ox.skip rfl rfl ?_) | (refine Ox.pure rfl rfl (rp_lenS rfl rfl rfl) ?_)
      first | (refine Ox.skip rfl rfl ?_) | (refine Ox.pure rfl rfl zbc ?_)
      refine Ox.pure rfl rfl zpk ?_
      refine Ox.pure rfl rfl zmv ?_
      first | (refine Ox.skip rfl rfl ?_) | (refine Ox.pure rfl rfl zfa ?_)
      first | (refine Ox.skip rfl rfl ?_) | (refine Ox.val rfl rfl zrs ?_)
      first | (refine Ox.skip rfl rfl ?_) | (refine Ox.pure rfl rfl (rp_lenS rfl rfl rfl) ?_)
      first | (refine Ox.skip rfl rfl ?_) | (refine Ox.pure rfl rfl zbc ?_)
      refine Ox.pure rfl rfl zpk ?_
      refine Ox.pure rfl rfl zmv ?_
      first | (refine Ox.skip rfl rfl ?_) | (refine Ox.pure rfl rfl zfa ?_)
      first | (refine Ox.skip rfl rfl ?_) | (refine Ox.val rfl rfl zrs ?_)
      first | (refine Ox.skip rfl rfl ?_) | (refine Ox.pure rfl rfl (rp_lenS rfl rfl rfl) ?_)
      first | (refine Ox.skip rfl rfl ?_) | (refine Ox.pure rfl rfl zbc ?_)
      refine Ox.pure rfl rfl zpk ?_
      refine Ox.pure rfl rfl zmv ?_
      first | (refine Ox.skip rfl rfl ?_) | (refine Ox.pure rfl rfl zfa ?_)
      first | (refine Ox.skip rfl rfl ?_) | (refine Ox.val rfl rfl zrs ?_)
      first | (refine Ox.skip rfl rfl ?_) | (refine Ox.pure rfl rfl (rp_lenS rfl rfl rfl) ?_)
      first | (refine Ox.skip rfl rfl ?_) | (refine Ox.pure rfl rfl zbc ?_)
      refine Ox.pure rfl rfl zpk ?_
      refine Ox.pure rfl rfl zmv ?_
      first | (refine Ox.skip rfl rfl ?_) | (refine Ox.pure rfl rfl zmv ?_)
      first | (refine Ox.skip rfl rfl ?_) | (refine Ox.pure rfl rfl zbc ?_)
      first | (refine Ox.skip rfl rfl ?_) | (refine Ox.pure rfl rfl zmv ?_)
      first | (refine Ox.skip rfl rfl ?_) | (refine Ox.pure rfl rfl zfa ?_)
      first | (refine Ox.skip rfl rfl ?_) | (refine Ox.val rfl rfl zrs ?_)
      first | (refine Ox.skip rfl rfl ?_) | (refine Ox.pure rfl rfl (rp_lenS rfl rfl rfl) ?_)
      first | (refine Ox.skip rfl rfl ?_) | (refine Ox.pure rfl rfl zbc ?_)
      first | (refine Ox.skip rfl rfl ?_) | (refine Ox.pure rfl rfl zpk ?_)
      refine Ox.pure rfl rfl zpk ?_
      refine Ox.pure rfl rfl zas ?_
      refine Ox.fin ?_
      refine zrt ?_
      exact endE_ret [_] ⟨rfl, trivial⟩ ⟨zxc, rfl⟩
  refine ztx ?_
  refine Ox.pure rfl rfl zfa ?_
  refine Ox.val rfl rfl zrs ?_
  refine Ox.pure rfl rfl (rp_lenS rfl rfl rfl) ?_
  refine Ox.pure rfl rfl zbc ?_
  refine Ox.pure rfl rfl zmv ?_
  first | (refine Ox.skip rfl rfl ?_) | (refine Ox.pure rfl rfl zmv ?_)
  first | (refine Ox.skip rfl rfl ?_) | (refine Ox.pure rfl rfl zbc ?_)
  refine Ox.pure rfl rfl zpk ?_
  refine Ox.pure rfl rfl zmv ?_
  first | (refine Ox.skip rfl rfl ?_) | (refine Ox.pure rfl rfl zfa ?_)
  first | (refine Ox.skip rfl rfl ?_) | (refine Ox.val rfl rfl zrs ?_)
  first | (refine Ox.skip rfl rfl ?_) | (refine Ox.pure rfl rfl (rp_lenS rfl rfl rfl) ?_)
  first | (refine Ox.skip rfl rfl ?_) | (refine Ox.pure rfl rfl zbc ?_)
  refine Ox.pure rfl rfl zpk ?_
  refine Ox.pure rfl rfl zmv ?_
  first | (refine Ox.skip rfl rfl ?_) | (refine Ox.pure rfl rfl zfa ?_)
  first | (refine Ox.skip rfl rfl ?_) | (refine Ox.val rfl rfl zrs ?_)
  first | (refine Ox.skip rfl rfl ?_) | (refine Ox.pure rfl rfl (rp_lenS rfl rfl rfl) ?_)
  first | (refine Ox.skip rfl rfl ?_) | (refine Ox.pure rfl rfl zbc ?_)
  refine Ox.pure rfl rfl zpk ?_
  refine Ox.pure rfl rfl zmv ?_
  first | (refine Ox.skip rfl rfl ?_) | (refine Ox.pure rfl rfl zfa ?_)
  first | (refine Ox.skip rfl rfl ?_) | (refine Ox.val rfl rfl zrs ?_)
  first | (refine Ox.skip rfl rfl ?_) | (refine Ox.pure rfl rfl (rp_lenS rfl rfl rfl) ?_)
  first | (refine Ox.skip rfl rfl ?_) | (refine Ox.pure rfl rfl zbc ?_)
  refine Ox.pure rfl rfl zpk ?_
  refine Ox.pure rfl rfl zmv ?_
  first | (refine Ox.skip rfl rfl ?_) | (refine Ox.pure rfl rfl zfa ?_)
  first | (refine Ox.skip rfl rfl ?_) | (refine Ox.val rfl rfl zrs ?_)
  first | (refine Ox.skip rfl rfl ?_) | (refine Ox.pure rfl rfl (rp_lenS rfl rfl rfl) ?_)
  first | (refine Ox.skip rfl rfl ?_) | (refine Ox.pure rfl rfl zbc ?_)
  refine Ox.pure rfl rfl zpk ?_
  refine Ox.pure rfl rfl zmv ?_
  first | (refine Ox.skip rfl rfl ?_) | (refine Ox.pure rfl rfl zmv ?_)
  first | (refine Ox.skip rfl rfl ?_) | (refine Ox.pure rfl rfl zbc ?_)
  first | (refine Ox.skip rfl rfl ?_) | (refine Ox.pure rfl rfl zmv ?_)
  first | (refine Ox.skip rfl rfl ?_) | (refine Ox.pure rfl rfl zfa ?_)
  first | (refine Ox.skip rfl rfl ?_) | (refine Ox.val rfl rfl zrs ?_)
  first | (refine Ox.skip rfl rfl ?_) | (refine Ox.pure rfl rfl (rp_lenS rfl rfl rfl) ?_)
  first | (refine Ox.skip rfl rfl ?_) | (refine Ox.pure rfl rfl zbc ?_)
  first | (refine Ox.skip rfl rfl ?_) | (refine Ox.pure rfl rfl zpk ?_)
  refine Ox.pure rfl rfl zpk ?_
  refine Ox.pure rfl rfl zas ?_
  refine Ox.fin ?_
  refine zrt ?_
  exact endE_ret [_] ⟨rfl, trivial⟩ ⟨zxc, rfl⟩

theorem ref_FewB (s : Bs) (w : World) (hs : BsIn s w) :
    Calls Try.prog 11 #[.agg (bvc s).toArray] w (Ret fun r w' => Ext [] w w' ∧ r = .bool (decide (FewB s.br))) := by
  by_cases h70 : s.bls.length ≤ 70; rotate_left
  · exact (ref_FewB_many s w hs h70).mono fun e u he => (by
      cases e with
      | returned r => exact ⟨he.1, he.2.trans (congrArg Value.bool (decide_eq_false (fun h : FewB s.br => h70 (by rw [← br_len]; exact h.2.2.1))).symm)⟩
      | panicked c => exact he.elim
      | outgrown => exact he.elim)
  have hbl := br_len s
  have hf1 := hs.bls.few
  refine calls_of_Sx (args := [.agg (bvc s).toArray]) Try.func11 rfl rfl ?_
  refine ztx ?_
  refine Ox.act rfl rfl (acts_box rfl rfl) ?_
  rintro vb1 wb1 ⟨eb1, bb1, rfl, hbb1, hBb1⟩
  first | (have hCb1 : Cells wb1 ⟨bb1, 0, none⟩ [_, _, _, _, _] := hBb1.cells) | have hCb1 := Blk.cellsL hBb1
  have hlb1 := hBb1.lt
  have hzb1 := eb1.size
  refine Ox.pure rfl rfl zas ?_
  refine Ox.fin ?_
  refine ztx ?_
  refine Ox.pure rfl rfl zas ?_
  refine Ox.fin ?_
  refine ztx ?_
  refine Ox.pure rfl rfl zas ?_
  refine Ox.fin ?_
  refine zbl ?_
  refine Sx.loop (ι := Nat × Nat) (fun i E wr => E = [(1, .pointer (some ⟨bb1, 0, none⟩)), (3, .int .i64 (i.2 : Int)), (4, .int .i64 (i.1 : Int))] ∧ i.1 ≤ s.bls.length ∧ i.2 = ((s.bls.take i.1).map (fun x => x.l.length)).sum ∧ i.2 ≤ i.1 * 140737488355328 ∧ Ext [] wb1 wr) (fun i => s.bls.length - i.1) (0, 0)
    (sub_cons rfl (sub_cons rfl (sub_cons rfl sub_nil))) ⟨rfl, Nat.zero_le _, rfl, Nat.le_refl _, zxc⟩ ?_
  rintro ⟨i, n⟩ E wr ⟨rfl, hi, hs1, hn, er⟩
  dsimp only at hi hs1 hn ⊢
  by_cases hlt : i < s.bls.length
  · have hst := sum_step hlt
    obtain ⟨AL, hL⟩ := hs.sub _ (List.getElem_mem hlt)
    have hfL := hL.few
    refine ztx ?_
    refine Ox.pure rfl rfl zmv ?_
    refine Ox.pure rfl rfl zfa ?_
    refine Ox.val rfl rfl zrs ?_
    refine Ox.pure rfl rfl (rp_lenS rfl rfl rfl) ?_
    refine Ox.pure rfl rfl zbc ?_
    refine Ox.fin ?_
    refine zct ?_
    refine zsk ?_
    refine zbl ?_
    refine ztx ?_
    refine Ox.pure rfl rfl zmv ?_
    refine Ox.pure rfl rfl zfa ?_
    refine Ox.val rfl rfl zrs ?_
    refine Ox.pure rfl rfl zmv ?_
    refine Ox.pure rfl rfl (rp_indexAddr i rfl rfl rfl rfl rfl hs.bls.ptr rfl hlt) ?_
    refine Ox.val rfl rfl (rv_load rfl rfl (fun u hu => ld_field blc_len (hs.bls.row.ext0 zxc) hlt 0 rfl (by decide) rfl)) ?_
    refine Ox.pure rfl rfl (rp_lenS rfl rfl rfl) ?_
    refine Ox.pure rfl rfl zba ?_
    refine Ox.pure rfl rfl zas ?_
    refine Ox.fin ?_
    refine ztx ?_
    refine Ox.pure rfl rfl zmv ?_
    refine Ox.pure rfl rfl zba ?_
    refine Ox.pure rfl rfl zas ?_
    refine Ox.fin ?_
    exact ⟨(i + 1, n + s.bls[i].l.length), _, sub_cons rfl (sub_cons rfl (sub_cons rfl sub_nil)), ⟨rfl, hlt, by rw [hst, ← hs1], by dsimp only; omega, zxc⟩, by dsimp only; omega⟩
  rw [List.take_of_length_le (by omega), ← sumB_br] at hs1
  have hdf : FewB s.br ↔ s.base.length ≤ 30 ∧ n ≤ 24 ∧ s.bls.length ≤ 70 ∧ s.par.length ≤ 80 ∧ s.fks.length ≤ 80 ∧ s.done.length ≤ 80 ∧ (n = 0 ∨ s.bls.length ≤ 8) := by
    unfold FewB; rw [hbl, hs1]; exact Iff.rfl
  refine ztx ?_
  refine Ox.pure rfl rfl zmv ?_
  refine Ox.pure rfl rfl zfa ?_
  refine Ox.val rfl rfl zrs ?_
  refine Ox.pure rfl rfl (rp_lenS rfl rfl rfl) ?_
  refine Ox.pure rfl rfl zbc ?_
  refine Ox.fin ?_
  refine zcf ?_
  refine zex ?_
  clear hn hi hlt hs1
  by_cases hF : s.base.length ≤ 30 ∧ n ≤ 24 ∧ s.par.length ≤ 80 ∧ s.fks.length ≤ 80 ∧ s.done.length ≤ 80; rotate_left
  · 
    refine ztx ?_
    refine Ox.pure rfl rfl zfa ?_
    refine Ox.val rfl rfl zrs ?_
    refine Ox.pure rfl rfl (rp_lenS rfl rfl rfl) ?_
    by_cases hs1 : s.base.length ≤ 30; rotate_left
    · refine Ox.pure rfl rfl zbc ?_
      refine Ox.pure rfl rfl zmv ?_
      refine Ox.skip rfl rfl ?_
      refine Ox.skip rfl rfl ?_
      refine Ox.pure rfl rfl zpk ?_
      refine Ox.pure rfl rfl zmv ?_
      refine Ox.skip rfl rfl ?_
      refine Ox.skip rfl rfl ?_
      refine Ox.skip rfl rfl ?_
      refine Ox.skip rfl rfl ?_
      refine Ox.pure rfl rfl zpk ?_
      refine Ox.pure rfl rfl zmv ?_
      refine Ox.skip rfl rfl ?_
      refine Ox.skip rfl rfl ?_
      refine Ox.skip rfl rfl ?_
      refine Ox.skip rfl rfl ?_
      refine Ox.pure rfl rfl zpk ?_
      refine Ox.pure rfl rfl zmv ?_
      refine Ox.skip rfl rfl ?_
      refine Ox.skip rfl rfl ?_
      refine Ox.skip rfl rfl ?_
      refine Ox.skip rfl rfl ?_
      refine Ox.pure rfl rfl zpk ?_
      refine Ox.pure rfl rfl zmv ?_
      refine Ox.skip rfl rfl ?_
      refine Ox.skip rfl rfl ?_
      refine Ox.skip rfl rfl ?_
      refine Ox.skip rfl rfl ?_
      refine Ox.pure rfl rfl zpk ?_
      refine Ox.pure rfl rfl zmv ?_
      refine Ox.skip rfl rfl ?_
      refine Ox.skip rfl rfl ?_
      refine Ox.skip rfl rfl ?_
      refine Ox.skip rfl rfl ?_
      refine Ox.skip rfl rfl ?_
      refine Ox.skip rfl rfl ?_
      refine Ox.skip rfl rfl ?_
      refine Ox.skip rfl rfl ?_
      refine Ox.pure rfl rfl zpk ?_
      refine Ox.pure rfl rfl zas ?_
      refine Ox.fin ?_
      refine zrt ?_
      exact endE_ret [_] ⟨rfl, trivial⟩ ⟨zxc, congrArg Value.bool (decide_eq_false (fun h => hF (by have := hdf.1 h; omega))).symm⟩
    refine Ox.pure rfl rfl zbc ?_
    refine Ox.pure rfl rfl zmv ?_
    refine Ox.pure rfl rfl zmv ?_
    by_cases hs2 : n ≤ 24; rotate_left
    · refine Ox.pure rfl rfl zbc ?_
      refine Ox.pure rfl rfl zpk ?_
      refine Ox.pure rfl rfl zmv ?_
      refine Ox.skip rfl rfl ?_
      refine Ox.skip rfl rfl ?_
      refine Ox.skip rfl rfl ?_
      refine Ox.skip rfl rfl ?_
      refine Ox.pure rfl rfl zpk ?_
      refine Ox.pure rfl rfl zmv ?_
      refine Ox.skip rfl rfl ?_
      refine Ox.skip rfl rfl ?_
      refine Ox.skip rfl rfl ?_
      refine Ox.skip rfl rfl ?_
      refine Ox.pure rfl rfl zpk ?_
      refine Ox.pure rfl rfl zmv ?_
      refine Ox.skip rfl rfl ?_
      refine Ox.skip rfl rfl ?_
      refine Ox.skip rfl rfl ?_
      refine Ox.skip rfl rfl ?_
      refine Ox.pure rfl rfl zpk ?_
      refine Ox.pure rfl rfl zmv ?_
      refine Ox.skip rfl rfl ?_
      refine Ox.skip rfl rfl ?_
      refine Ox.skip rfl rfl ?_
      refine Ox.skip rfl rfl ?_
      refine Ox.pure rfl rfl zpk ?_
      refine Ox.pure rfl rfl zmv ?_
      refine Ox.skip rfl rfl ?_
      refine Ox.skip rfl rfl ?_
      refine Ox.skip rfl rfl ?_
      refine Ox.skip rfl rfl ?_
      refine Ox.skip rfl rfl ?_
      refine Ox.skip rfl rfl ?_
      refine Ox.skip rfl rfl ?_
      refine Ox.skip rfl rfl ?_
      refine Ox.pure rfl rfl zpk ?_
      refine Ox.pure rfl rfl zas ?_
      refine Ox.fin ?_
      refine zrt ?_
      exact endE_ret [_] ⟨rfl, trivial⟩ ⟨zxc, congrArg Value.bool (decide_eq_false (fun h => hF (by have := hdf.1 h; omega))).symm⟩
    refine Ox.pure rfl rfl zbc ?_
    refine Ox.pure rfl rfl zpk ?_
    refine Ox.pure rfl rfl zmv ?_
    refine Ox.pure rfl rfl zfa ?_
    refine Ox.val rfl rfl zrs ?_
    refine Ox.pure rfl rfl (rp_lenS rfl rfl rfl) ?_
    refine Ox.pure rfl rfl zbc ?_
    refine Ox.pure rfl rfl zpk ?_
    refine Ox.pure rfl rfl zmv ?_
    refine Ox.pure rfl rfl zfa ?_
    refine Ox.val rfl rfl zrs ?_
    refine Ox.pure rfl rfl (rp_lenS rfl rfl rfl) ?_
    by_cases hs3 : s.par.length ≤ 80; rotate_left
    · refine Ox.pure rfl rfl zbc ?_
      refine Ox.pure rfl rfl zpk ?_
      refine Ox.pure rfl rfl zmv ?_
      refine Ox.skip rfl rfl ?_
      refine Ox.skip rfl rfl ?_
      refine Ox.skip rfl rfl ?_
      refine Ox.skip rfl rfl ?_
      refine Ox.pure rfl rfl zpk ?_
      refine Ox.pure rfl rfl zmv ?_
      refine Ox.skip rfl rfl ?_
      refine Ox.skip rfl rfl ?_
      refine Ox.skip rfl rfl ?_
      refine Ox.skip rfl rfl ?_
      refine Ox.pure rfl rfl zpk ?_
      refine Ox.pure rfl rfl zmv ?_
      refine Ox.skip rfl rfl ?_
      refine Ox.skip rfl rfl ?_
      refine Ox.skip rfl rfl ?_
      refine Ox.skip rfl rfl ?_
      refine Ox.skip rfl rfl ?_
      refine Ox.skip rfl rfl ?_
      refine Ox.skip rfl rfl ?_
      refine Ox.skip rfl rfl ?_
      refine Ox.pure rfl rfl zpk ?_
      refine Ox.pure rfl rfl zas ?_
      refine Ox.fin ?_
      refine zrt ?_
      exact endE_ret [_] ⟨rfl, trivial⟩ ⟨zxc, congrArg Value.bool (decide_eq_false (fun h => hF (by have := hdf.1 h; omega))).symm⟩
    refine Ox.pure rfl rfl zbc ?_
    refine Ox.pure rfl rfl zpk ?_
    refine Ox.pure rfl rfl zmv ?_
    refine Ox.pure rfl rfl zfa ?_
    refine Ox.val rfl rfl zrs ?_
    refine Ox.pure rfl rfl (rp_lenS rfl rfl rfl) ?_
    by_cases hs4 : s.fks.length ≤ 80; rotate_left
    · refine Ox.pure rfl rfl zbc ?_
      refine Ox.pure rfl rfl zpk ?_
      refine Ox.pure rfl rfl zmv ?_
      refine Ox.skip rfl rfl ?_
      refine Ox.skip rfl rfl ?_
      refine Ox.skip rfl rfl ?_
      refine Ox.skip rfl rfl ?_
      refine Ox.pure rfl rfl zpk ?_
      refine Ox.pure rfl rfl zmv ?_
      refine Ox.skip rfl rfl ?_
      refine Ox.skip rfl rfl ?_
      refine Ox.skip rfl rfl ?_
      refine Ox.skip rfl rfl ?_
      refine Ox.skip rfl rfl ?_
      refine Ox.skip rfl rfl ?_
      refine Ox.skip rfl rfl ?_
      refine Ox.skip rfl rfl ?_
      refine Ox.pure rfl rfl zpk ?_
      refine Ox.pure rfl rfl zas ?_
      refine Ox.fin ?_
      refine zrt ?_
      exact endE_ret [_] ⟨rfl, trivial⟩ ⟨zxc, congrArg Value.bool (decide_eq_false (fun h => hF (by have := hdf.1 h; omega))).symm⟩
    refine Ox.pure rfl rfl zbc ?_
    refine Ox.pure rfl rfl zpk ?_
    refine Ox.pure rfl rfl zmv ?_
    refine Ox.pure rfl rfl zfa ?_
    refine Ox.val rfl rfl zrs ?_
    refine Ox.pure rfl rfl (rp_lenS rfl rfl rfl) ?_
    by_cases hs5 : s.done.length ≤ 80; rotate_left
    · refine Ox.pure rfl rfl zbc ?_
      refine Ox.pure rfl rfl zpk ?_
      refine Ox.pure rfl rfl zmv ?_
      refine Ox.skip rfl rfl ?_
      refine Ox.skip rfl rfl ?_
      refine Ox.skip rfl rfl ?_
      refine Ox.skip rfl rfl ?_
      refine Ox.skip rfl rfl ?_
      refine Ox.skip rfl rfl ?_
      refine Ox.skip rfl rfl ?_
      refine Ox.skip rfl rfl ?_
      refine Ox.pure rfl rfl zpk ?_
      refine Ox.pure rfl rfl zas ?_
      refine Ox.fin ?_
      refine zrt ?_
      exact endE_ret [_] ⟨rfl, trivial⟩ ⟨zxc, congrArg Value.bool (decide_eq_false (fun h => hF (by have := hdf.1 h; omega))).symm⟩
    refine Ox.pure rfl rfl zbc ?_
    omega
  obtain ⟨q1, q2, q3, q4, q5⟩ := hF
  by_cases hz : n = 0
  · refine ztx ?_
    refine Ox.pure rfl rfl zfa ?_
    refine Ox.val rfl rfl zrs ?_
    refine Ox.pure rfl rfl (rp_lenS rfl rfl rfl) ?_
    refine Ox.pure rfl rfl zbc ?_
    refine Ox.pure rfl rfl zmv ?_
    first | (refine Ox.skip rfl rfl ?_) | (refine Ox.pure rfl rfl zmv ?_)
    first | (refine Ox.skip rfl rfl ?_) | (refine Ox.pure rfl rfl zbc ?_)
    refine Ox.pure rfl rfl zpk ?_
    refine Ox.pure rfl rfl zmv ?_
    first | (refine Ox.skip rfl rfl ?_) | (refine Ox.pure rfl rfl zfa ?_)
    first | (refine Ox.skip rfl rfl ?_) | (refine Ox.val rfl rfl zrs ?_)
    first | (refine Ox.skip rfl rfl ?_) | (refine Ox.pure rfl rfl (rp_lenS rfl rfl rfl) ?_)
    first | (refine Ox.skip rfl rfl ?_) | (refine Ox.pure rfl rfl zbc ?_)
    refine Ox.pure rfl rfl zpk ?_
    refine Ox.pure rfl rfl zmv ?_
    first | (refine Ox.skip rfl rfl ?_) | (refine Ox.pure rfl rfl zfa ?_)
    first | (refine Ox.skip rfl rfl ?_) | (refine Ox.val rfl rfl zrs ?_)
    first | (refine Ox.skip rfl rfl ?_) | (refine Ox.pure rfl rfl (rp_lenS rfl rfl rfl) ?_)
    first | (refine Ox.skip rfl rfl ?_) | (refine Ox.pure rfl rfl zbc ?_)
    refine Ox.pure rfl rfl zpk ?_
    refine Ox.pure rfl rfl zmv ?_
    first | (refine Ox.skip rfl rfl ?_) | (refine Ox.pure rfl rfl zfa ?_)
    first | (refine Ox.skip rfl rfl ?_) | (refine Ox.val rfl rfl zrs ?_)
    first | (refine Ox.skip rfl rfl ?_) | (refine Ox.pure rfl rfl (rp_lenS rfl rfl rfl) ?_)
    first | (refine Ox.skip rfl rfl ?_) | (refine Ox.pure rfl rfl zbc ?_)
    refine Ox.pure rfl rfl zpk ?_
    refine Ox.pure rfl rfl zmv ?_
    first | (refine Ox.skip rfl rfl ?_) | (refine Ox.pure rfl rfl zfa ?_)
    first | (refine Ox.skip rfl rfl ?_) | (refine Ox.val rfl rfl zrs ?_)
    first | (refine Ox.skip rfl rfl ?_) | (refine Ox.pure rfl rfl (rp_lenS rfl rfl rfl) ?_)
    first | (refine Ox.skip rfl rfl ?_) | (refine Ox.pure rfl rfl zbc ?_)
    refine Ox.pure rfl rfl zpk ?_
    refine Ox.pure rfl rfl zmv ?_
    first | (refine Ox.skip rfl rfl ?_) | (refine Ox.pure rfl rfl zmv ?_)
    first | (refine Ox.skip rfl rfl ?_) | (refine Ox.pure rfl rfl zbc ?_)
    first | (refine Ox.skip rfl rfl ?_) | (refine Ox.pure rfl rfl zmv ?_)
    first | (refine Ox.skip rfl rfl ?_) | (refine Ox.pure rfl rfl zfa ?_)
    first | (refine Ox.skip rfl rfl ?_) | (refine Ox.val rfl rfl zrs ?_)
    first | (refine Ox.skip rfl rfl ?_) | (refine Ox.pure rfl rfl (rp_lenS rfl rfl rfl) ?_)
    first | (refine Ox.skip rfl rfl ?_) | (refine Ox.pure rfl rfl zbc ?_)
    first | (refine Ox.skip rfl rfl ?_) | (refine Ox.pure rfl rfl zpk ?_)
    refine Ox.pure rfl rfl zpk ?_
    refine Ox.pure rfl rfl zas ?_
    refine Ox.fin ?_
    refine zrt ?_
    exact endE_ret [_] ⟨rfl, trivial⟩ ⟨zxc, congrArg Value.bool (decide_eq_true (hdf.2 (by omega))).symm⟩
  by_cases h8 : s.bls.length ≤ 8
  · refine ztx ?_
    refine Ox.pure rfl rfl zfa ?_
    refine Ox.val rfl rfl zrs ?_
    refine Ox.pure rfl rfl (rp_lenS rfl rfl rfl) ?_
    refine Ox.pure rfl rfl zbc ?_
    refine Ox.pure rfl rfl zmv ?_
    first | (refine Ox.skip rfl rfl ?_) | (refine Ox.pure rfl rfl zmv ?_)
    first | (refine Ox.skip rfl rfl ?_) | (refine Ox.pure rfl rfl zbc ?_)
    refine Ox.pure rfl rfl zpk ?_
    refine Ox.pure rfl rfl zmv ?_
    first | (refine Ox.skip rfl rfl ?_) | (refine Ox.pure rfl rfl zfa ?_)
    first | (refine Ox.skip rfl rfl ?_) | (refine Ox.val rfl rfl zrs ?_)
    first | (refine Ox.skip rfl rfl ?_) | (refine Ox.pure rfl rfl (rp_lenS rfl rfl rfl) ?_)
    first | (refine Ox.skip rfl rfl ?_) | (refine Ox.pure rfl rfl zbc ?_)
    refine Ox.pure rfl rfl zpk ?_
    refine Ox.pure rfl rfl zmv ?_
    first | (refine Ox.skip rfl rfl ?_) | (refine Ox.pure rfl rfl zfa ?_)
    first | (refine Ox.skip rfl rfl ?_) | (refine Ox.val rfl rfl zrs ?_)
    first | (refine Ox.skip rfl rfl ?_) | (refine Ox.pure rfl rfl (rp_lenS rfl rfl rfl) ?_)
    first | (refine Ox.skip rfl rfl ?_) | (refine Ox.pure rfl rfl zbc ?_)
    refine Ox.pure rfl rfl zpk ?_
    refine Ox.pure rfl rfl zmv ?_
    first | (refine Ox.skip rfl rfl ?_) | (refine Ox.pure rfl rfl zfa ?_)
    first | (refine Ox.skip rfl rfl ?_) | (refine Ox.val rfl rfl zrs ?_)
    first | (refine Ox.skip rfl rfl ?_) | (refine Ox.pure rfl rfl (rp_lenS rfl rfl rfl) ?_)
    first | (refine Ox.skip rfl rfl ?_) | (refine Ox.pure rfl rfl zbc ?_)
    refine Ox.pure rfl rfl zpk ?_
    refine Ox.pure rfl rfl zmv ?_
    first | (refine Ox.skip rfl rfl ?_) | (refine Ox.pure rfl rfl zfa ?_)
    first | (refine Ox.skip rfl rfl ?_) | (refine Ox.val rfl rfl zrs ?_)
    first | (refine Ox.skip rfl rfl ?_) | (refine Ox.pure rfl rfl (rp_lenS rfl rfl rfl) ?_)
    first | (refine Ox.skip rfl rfl ?_) | (refine Ox.pure rfl rfl zbc ?_)
    refine Ox.pure rfl rfl zpk ?_
    refine Ox.pure rfl rfl zmv ?_
    first | (refine Ox.skip rfl rfl ?_) | (refine Ox.pure rfl rfl zmv ?_)
    first | (refine Ox.skip rfl rfl ?_) | (refine Ox.pure rfl rfl zbc ?_)
    first | (refine Ox.skip rfl rfl ?_) | (refine Ox.pure rfl rfl zmv ?_)
    first | (refine Ox.skip rfl rfl ?_) | (refine Ox.pure rfl rfl zfa ?_)
    first | (refine Ox.skip rfl rfl ?_) | (refine Ox.val rfl rfl zrs ?_)
    first | (refine Ox.skip rfl rfl ?_) | (refine Ox.pure rfl rfl (rp_lenS rfl rfl rfl) ?_)
    first | (refine Ox.skip rfl rfl ?_) | (refine Ox.pure rfl rfl zbc ?_)
    first | (refine Ox.skip rfl rfl ?_) | (refine Ox.pure rfl rfl zpk ?_)
    refine Ox.pure rfl rfl zpk ?_
    refine Ox.pure rfl rfl zas ?_
    refine Ox.fin ?_
    refine zrt ?_
    exact endE_ret [_] ⟨rfl, trivial⟩ ⟨zxc, congrArg Value.bool (decide_eq_true (hdf.2 (by omega))).symm⟩
  · refine ztx ?_
    refine Ox.pure rfl rfl zfa ?_
    refine Ox.val rfl rfl zrs ?_
    refine Ox.pure rfl rfl (rp_lenS rfl rfl rfl) ?_
    refine Ox.pure rfl rfl zbc ?_
    refine Ox.pure rfl rfl zmv ?_
    first | (refine Ox.skip rfl rfl ?_) | (refine Ox.pure rfl rfl zmv ?_)
    first | (refine Ox.skip rfl rfl ?_) | (refine Ox.pure rfl rfl zbc ?_)
    refine Ox.pure rfl rfl zpk ?_
    refine Ox.pure rfl rfl zmv ?_
    first | (refine Ox.skip rfl rfl ?_) | (refine Ox.pure rfl rfl zfa ?_)
    first | (refine Ox.skip rfl rfl ?_) | (refine Ox.val rfl rfl zrs ?_)
    first | (refine Ox.skip rfl rfl ?_) | (refine Ox.pure rfl rfl (rp_lenS rfl rfl rfl) ?_)
    first | (refine Ox.skip rfl rfl ?_) | (refine Ox.pure rfl rfl zbc ?_)
    refine Ox.pure rfl rfl zpk ?_
    refine Ox.pure rfl rfl zmv ?_
    first | (refine Ox.skip rfl rfl ?_) | (refine Ox.pure rfl rfl zfa ?_)
    first | (refine Ox.skip rfl rfl ?_) | (refine Ox.val rfl rfl zrs ?_)
    first | (refine Ox.skip rfl rfl ?_) | (refine Ox.pure rfl rfl (rp_lenS rfl rfl rfl) ?_)
    first | (refine Ox.skip rfl rfl ?_) | (refine Ox.pure rfl rfl zbc ?_)
    refine Ox.pure rfl rfl zpk ?_
    refine Ox.pure rfl rfl zmv ?_
    first | (refine Ox.skip rfl rfl ?_) | (refine Ox.pure rfl rfl zfa ?_)
    first | (refine Ox.skip rfl rfl ?_) | (refine Ox.val rfl rfl zrs ?_)
    first | (refine Ox.skip rfl rfl ?_) | (refine Ox.pure rfl rfl (rp_lenS rfl rfl rfl) ?_)
    first | (refine Ox.skip rfl rfl ?_) | (refine Ox.pure rfl rfl zbc ?_)
    refine Ox.pure rfl rfl zpk ?_
    refine Ox.pure rfl rfl zmv ?_
    first | (refine Ox.skip rfl rfl ?_) | (refine Ox.pure rfl rfl zfa ?_)
    first | (refine Ox.skip rfl rfl ?_) | (refine Ox.val rfl rfl zrs ?_)
    first | (refine Ox.skip rfl rfl ?_) | (refine Ox.pure rfl rfl (rp_lenS rfl rfl rfl) ?_)
    first | (refine Ox.skip rfl rfl ?_) | (refine Ox.pure rfl rfl zbc ?_)
    refine Ox.pure rfl rfl zpk ?_
    refine Ox.pure rfl rfl zmv ?_
    first | (refine Ox.skip rfl rfl ?_) | (refine Ox.pure rfl rfl zmv ?_)
    first | (refine Ox.skip rfl rfl ?_) | (refine Ox.pure rfl rfl zbc ?_)
    first | (refine Ox.skip rfl rfl ?_) | (refine Ox.pure rfl rfl zmv ?_)
    first | (refine Ox.skip rfl rfl ?_) | (refine Ox.pure rfl rfl zfa ?_)
    first | (refine Ox.skip rfl rfl ?_) | (refine Ox.val rfl rfl zrs ?_)
    first | (refine Ox.skip rfl rfl ?_) | (refine Ox.pure rfl rfl (rp_lenS rfl rfl rfl) ?_)
    first | (refine Ox.skip rfl rfl ?_) | (refine Ox.pure rfl rfl zbc ?_)
    first | (refine Ox.skip rfl rfl ?_) | (refine Ox.pure rfl rfl zpk ?_)
    refine Ox.pure rfl rfl zpk ?_
    refine Ox.pure rfl rfl zas ?_
    refine Ox.fin ?_
    refine zrt ?_
    exact endE_ret [_] ⟨rfl, trivial⟩ ⟨zxc, congrArg Value.bool (decide_eq_false (fun h => by have := hdf.1 h; omega)).symm⟩

end Go.Proofs.Ytfgckcochilpkaa

/- Branches' walks: what the statements use; the chapter's examples hold. -/
set_option linter.unusedVariables false
set_option maxRecDepth 100000
set_option maxHeartbeats 4000000
set_option linter.unusedSimpArgs false
namespace Go.Proofs.Ytfgckcochilpkaa
open Go Go.Eng

/-! ## Small branchings -/
def SmallB (b : Br) : Prop := b.base.length ≤ 1000 ∧ (∀ x ∈ b.brs, x.length ≤ 1000) ∧ b.brs.length ≤ 1000 ∧ b.par.length ≤ 1000 ∧ b.fks.length ≤ 1000 ∧ b.done.length ≤ 1000
instance (b : Br) : Decidable (SmallB b) := by unfold SmallB; infer_instance
theorem small_of {s : Bs} {b : Br} (h : s.br = b) (hb : SmallB b) : Small s ∧ Few s := by
  subst h
  obtain ⟨h1, h2, h3, h4, h5, h6⟩ := hb
  rw [br_len] at h3
  refine ⟨⟨h1, fun i => ?_⟩, ⟨h3, h4, h5, h6⟩⟩
  unfold brB
  cases hx : s.br.brs[i]? with
  | none => simp
  | some x => exact h2 x (List.mem_of_getElem? hx)
theorem le_sum {l : List Nat} {x : Nat} (h : x ∈ l) : x ≤ l.sum := by
  induction l with
  | nil => cases h
  | cons y l ih =>
    rw [List.sum_cons]
    rcases List.mem_cons.1 h with rfl | h
    · omega
    · have := ih h; omega
theorem few_small {b : Br} (h : FewB b) : SmallB b := by
  obtain ⟨h1, h2, h3, h4, h5, h6, _⟩ := h
  refine ⟨by omega, fun x hx => ?_, by omega, by omega, by omega, by omega⟩
  have : x.length ≤ sumB b := le_sum (List.mem_map.2 ⟨x, hx, rfl⟩)
  omega
abbrev chg (s v : Int) : Cr := ⟨⟨1, s, 0⟩, v, 2, 9⟩
theorem lawChange (s v : Int) (w : World) : Calls Try.prog 32 #[.int .i64 s, .int .i64 v] w (Ret fun r w' => Ext [] w w' ∧ r = .agg (cc (chg s v)).toArray) := by
  refine calls_of_Sx (args := [.int .i64 s, .int .i64 v]) Try.func32 rfl rfl ?_
  refine ztx ?_
  refine Ox.act rfl rfl (acts_alloc rfl rfl) ?_
  rintro vb4 wb4 ⟨eb4, bb4, rfl, hbb4, hBb4⟩
  first | (have hCb4 : Cells wb4 ⟨bb4, 0, none⟩ [_, _, _, _, _, _] := hBb4.cells) | have hCb4 := Blk.cellsL hBb4
  have hlb4 := hBb4.lt
  have hzb4 := eb4.size
  refine Ox.fin ?_
  refine ztx ?_
  refine Ox.pure rfl rfl zmv ?_
  refine Ox.pure rfl rfl (rp_buildS (ps := [(0, .const _), (1, .tmp 5)]) rfl rfl rfl rfl rfl) ?_
  refine Ox.pure rfl rfl zmv ?_
  refine Ox.pure rfl rfl (rp_buildS (ps := [(0, .const _), (1, .const _)]) rfl rfl rfl rfl rfl) ?_
  refine Ox.pure rfl rfl (rp_buildS (ps := [(0, .tmp 6), (1, .tmp 7), (2, .tmp 8)]) rfl rfl rfl rfl rfl) ?_
  refine Ox.act rfl rfl (acts_store_all rfl rfl rfl (hBb4.ext (X := []) zxc (by simp)) rfl rfl rfl (by (first | assumption | exact List.all_eq_true.mp rfl | simp [Value.cells, Value.oneCell']))) ?_
  rintro vs5 ws5 ⟨rfl, qs5, hBs5⟩
  have es5 : Ext [] w ws5 := Ext.renew zxc qs5 (by omega)
  refine Ox.fin ?_
  refine zrt ?_
  exact endE_ret [.agg (cc (chg s v)).toArray] ⟨⟨⟨bb4, 0, none⟩, rfl, hBs5.cellsL.ldA rfl rfl⟩, trivial⟩ ⟨zxc, rfl⟩

def atB (b : Br) (no s : Int) : Int × Bool := ((atL (factsB b no).1 ⟨1, s, 0⟩ 5 16777216).1, (atL (factsB b no).1 ⟨1, s, 0⟩ 5 16777216).2 && decide ((factsB b no).2 = 0))
theorem lawAt (s : Bs) (hsm : Small s) (no k : Int) (w : World) (hin : BsIn s w) :
    Calls Try.prog 33 #[.agg (bvc s).toArray, .int .i64 no, .int .i64 k] w (Ret fun r w' => Ext [] w w' ∧ r = .tuple #[.int .i64 (atB s.br no k).1, .bool (atB s.br no k).2]) := by
  refine calls_of_Sx (args := [.agg (bvc s).toArray, .int .i64 no, .int .i64 k]) Try.func33 rfl rfl ?_
  have hv : atB s.br no k = ((atL (factsB s.br no).1 ⟨1, k, 0⟩ 5 16777216).1, (atL (factsB s.br no).1 ⟨1, k, 0⟩ 5 16777216).2 && decide ((factsB s.br no).2 = 0)) := rfl
  generalize hX : atL (factsB s.br no).1 ⟨1, k, 0⟩ 5 16777216 = X at *
  obtain ⟨n, ok⟩ := X
  cases ok with
  | false =>
    refine ztx ?_
    refine Ox.act rfl rfl (acts_box rfl rfl) ?_
    rintro vb3 wb3 ⟨eb3, bb3, rfl, hbb3, hBb3⟩
    first | (have hCb3 : Cells wb3 ⟨bb3, 0, none⟩ [_, _, _, _, _] := hBb3.cells) | have hCb3 := Blk.cellsL hBb3
    have hlb3 := hBb3.lt
    have hzb3 := eb3.size
    refine Ox.pure rfl rfl zas ?_
    refine Ox.pure rfl rfl zas ?_
    refine Ox.fin ?_
    refine ztx ?_
    refine Ox.val rfl rfl zra ?_
    refine Ox.pure rfl rfl zmv ?_
    refine Ox.act rfl rfl (acts_call rfl rfl rfl (facts_br s hsm no _ (hin.ext0 zxc))) ?_
    rintro v1 w1 ⟨e1, p1, A1, c1, rfl, hs1⟩
    have hz1 := e1.size
    refine Ox.pure rfl rfl zmv ?_
    refine Ox.pure rfl rfl (rp_extract rfl rfl rfl) ?_
    refine Ox.pure rfl rfl (rp_extract rfl rfl rfl) ?_
    refine Ox.pure rfl rfl zas ?_
    refine Ox.pure rfl rfl zas ?_
    refine Ox.fin ?_
    refine ztx ?_
    refine Ox.pure rfl rfl zmv ?_
    refine Ox.pure rfl rfl zmv ?_
    refine Ox.act rfl rfl (acts_call rfl rfl rfl (lawChange k 0 _)) ?_
    rintro v2 w2 ⟨e2, rfl⟩
    have hz2 := e2.size
    refine Ox.pure rfl rfl (rp_fieldA rfl rfl rfl rfl rfl) ?_
    refine Ox.act rfl rfl (acts_call rfl rfl rfl (at_at (factsB s.br no).1 ⟨1, k, 0⟩ 5 16777216 p1 A1 c1 _ (hs1.ext0 zxc))) ?_
    rintro v3 w3 ⟨e3, rfl⟩
    have hz3 := e3.size
    rw [hX]
    refine Ox.pure rfl rfl zmv ?_
    refine Ox.pure rfl rfl (rp_extract rfl rfl rfl) ?_
    refine Ox.pure rfl rfl (rp_extract rfl rfl rfl) ?_
    refine Ox.pure rfl rfl zas ?_
    refine Ox.pure rfl rfl zas ?_
    refine Ox.fin ?_
    refine ztx ?_
    refine Ox.pure rfl rfl zmv ?_
    refine Ox.pure rfl rfl zmv ?_
    refine Ox.pure rfl rfl zmv ?_
    first | (refine Ox.skip rfl rfl ?_) | (refine Ox.pure rfl rfl zmv ?_)
    first | (refine Ox.skip rfl rfl ?_) | (refine Ox.pure rfl rfl zbc ?_)
    refine Ox.pure rfl rfl zpk ?_
    refine Ox.pure rfl rfl zas ?_
    refine Ox.pure rfl rfl zas ?_
    refine Ox.fin ?_
    refine zrt ?_
    exact endE_ret [.int .i64 n, .bool false] ⟨rfl, rfl, trivial⟩ ⟨zxc, by rw [hv]; rfl⟩
  | true =>
    by_cases hz : (factsB s.br no).2 = 0
    · rw [decide_eq_true hz] at hv
      refine ztx ?_
      refine Ox.act rfl rfl (acts_box rfl rfl) ?_
      rintro vb3 wb3 ⟨eb3, bb3, rfl, hbb3, hBb3⟩
      first | (have hCb3 : Cells wb3 ⟨bb3, 0, none⟩ [_, _, _, _, _] := hBb3.cells) | have hCb3 := Blk.cellsL hBb3
      have hlb3 := hBb3.lt
      have hzb3 := eb3.size
      refine Ox.pure rfl rfl zas ?_
      refine Ox.pure rfl rfl zas ?_
      refine Ox.fin ?_
      refine ztx ?_
      refine Ox.val rfl rfl zra ?_
      refine Ox.pure rfl rfl zmv ?_
      refine Ox.act rfl rfl (acts_call rfl rfl rfl (facts_br s hsm no _ (hin.ext0 zxc))) ?_
      rintro v4 w4 ⟨e4, p1, A1, c1, rfl, hs1⟩
      have hz4 := e4.size
      refine Ox.pure rfl rfl zmv ?_
      refine Ox.pure rfl rfl (rp_extract rfl rfl rfl) ?_
      refine Ox.pure rfl rfl (rp_extract rfl rfl rfl) ?_
      refine Ox.pure rfl rfl zas ?_
      refine Ox.pure rfl rfl zas ?_
      refine Ox.fin ?_
      refine ztx ?_
      refine Ox.pure rfl rfl zmv ?_
      refine Ox.pure rfl rfl zmv ?_
      refine Ox.act rfl rfl (acts_call rfl rfl rfl (lawChange k 0 _)) ?_
      rintro v5 w5 ⟨e5, rfl⟩
      have hz5 := e5.size
      refine Ox.pure rfl rfl (rp_fieldA rfl rfl rfl rfl rfl) ?_
      refine Ox.act rfl rfl (acts_call rfl rfl rfl (at_at (factsB s.br no).1 ⟨1, k, 0⟩ 5 16777216 p1 A1 c1 _ (hs1.ext0 zxc))) ?_
      rintro v6 w6 ⟨e6, rfl⟩
      have hz6 := e6.size
      rw [hX]
      refine Ox.pure rfl rfl zmv ?_
      refine Ox.pure rfl rfl (rp_extract rfl rfl rfl) ?_
      refine Ox.pure rfl rfl (rp_extract rfl rfl rfl) ?_
      refine Ox.pure rfl rfl zas ?_
      refine Ox.pure rfl rfl zas ?_
      refine Ox.fin ?_
      refine ztx ?_
      refine Ox.pure rfl rfl zmv ?_
      refine Ox.pure rfl rfl zmv ?_
      refine Ox.pure rfl rfl zmv ?_
      first | (refine Ox.skip rfl rfl ?_) | (refine Ox.pure rfl rfl zmv ?_)
      first | (refine Ox.skip rfl rfl ?_) | (refine Ox.pure rfl rfl zbc ?_)
      refine Ox.pure rfl rfl zpk ?_
      refine Ox.pure rfl rfl zas ?_
      refine Ox.pure rfl rfl zas ?_
      refine Ox.fin ?_
      refine zrt ?_
      exact endE_ret [.int .i64 n, .bool true] ⟨rfl, rfl, trivial⟩ ⟨zxc, by rw [hv]; rfl⟩
    · rw [decide_eq_false hz] at hv
      refine ztx ?_
      refine Ox.act rfl rfl (acts_box rfl rfl) ?_
      rintro vb3 wb3 ⟨eb3, bb3, rfl, hbb3, hBb3⟩
      first | (have hCb3 : Cells wb3 ⟨bb3, 0, none⟩ [_, _, _, _, _] := hBb3.cells) | have hCb3 := Blk.cellsL hBb3
      have hlb3 := hBb3.lt
      have hzb3 := eb3.size
      refine Ox.pure rfl rfl zas ?_
      refine Ox.pure rfl rfl zas ?_
      refine Ox.fin ?_
      refine ztx ?_
      refine Ox.val rfl rfl zra ?_
      refine Ox.pure rfl rfl zmv ?_
      refine Ox.act rfl rfl (acts_call rfl rfl rfl (facts_br s hsm no _ (hin.ext0 zxc))) ?_
      rintro v7 w7 ⟨e7, p1, A1, c1, rfl, hs1⟩
      have hz7 := e7.size
      refine Ox.pure rfl rfl zmv ?_
      refine Ox.pure rfl rfl (rp_extract rfl rfl rfl) ?_
      refine Ox.pure rfl rfl (rp_extract rfl rfl rfl) ?_
      refine Ox.pure rfl rfl zas ?_
      refine Ox.pure rfl rfl zas ?_
      refine Ox.fin ?_
      refine ztx ?_
      refine Ox.pure rfl rfl zmv ?_
      refine Ox.pure rfl rfl zmv ?_
      refine Ox.act rfl rfl (acts_call rfl rfl rfl (lawChange k 0 _)) ?_
      rintro v8 w8 ⟨e8, rfl⟩
      have hz8 := e8.size
      refine Ox.pure rfl rfl (rp_fieldA rfl rfl rfl rfl rfl) ?_
      refine Ox.act rfl rfl (acts_call rfl rfl rfl (at_at (factsB s.br no).1 ⟨1, k, 0⟩ 5 16777216 p1 A1 c1 _ (hs1.ext0 zxc))) ?_
      rintro v9 w9 ⟨e9, rfl⟩
      have hz9 := e9.size
      rw [hX]
      refine Ox.pure rfl rfl zmv ?_
      refine Ox.pure rfl rfl (rp_extract rfl rfl rfl) ?_
      refine Ox.pure rfl rfl (rp_extract rfl rfl rfl) ?_
      refine Ox.pure rfl rfl zas ?_
      refine Ox.pure rfl rfl zas ?_
      refine Ox.fin ?_
      refine ztx ?_
      refine Ox.pure rfl rfl zmv ?_
      refine Ox.pure rfl rfl zmv ?_
      refine Ox.pure rfl rfl zmv ?_
      first | (refine Ox.skip rfl rfl ?_) | (refine Ox.pure rfl rfl zmv ?_)
      first | (refine Ox.skip rfl rfl ?_) | (refine Ox.pure rfl rfl zbc ?_)
      refine Ox.pure rfl rfl zpk ?_
      refine Ox.pure rfl rfl zas ?_
      refine Ox.pure rfl rfl zas ?_
      refine Ox.fin ?_
      refine zrt ?_
      exact endE_ret [.int .i64 n, .bool false] ⟨rfl, rfl, trivial⟩ ⟨zxc, by rw [hv]; rfl⟩

theorem alike_at (l m : List Fct) (k : Ky) (p q : Option Addr) (A B : Addr) (c d : Nat) (w : World) (hs : SlV fc w p A l c) (ht : SlV fc w q B m d) :
    Calls Try.prog 31 #[.slice p l.length c, .slice q m.length d, .agg (kc k).toArray] w (Ret fun r w' => Ext [] w w' ∧ r = .bool (decide (pointsL l k 0 1024 16777217 = pointsL m k 0 1024 16777217))) := by
  have hlp : ∀ l : List Fct, (pointsL l k 0 1024 16777217).length ≤ 1024 := fun l => by
    unfold pointsL
    exact Nat.le_trans (ptsN_le _ _ _) (by decide)
  have hl1 := hlp l
  have hl2 := hlp m
  refine calls_of_Sx (args := [.slice p l.length c, .slice q m.length d, .agg (kc k).toArray]) Try.func31 rfl rfl ?_
  refine ztx ?_
  refine Ox.act rfl rfl (acts_box rfl rfl) ?_
  rintro vb5 wb5 ⟨eb5, bb5, rfl, hbb5, hBb5⟩
  first | (have hCb5 : Cells wb5 ⟨bb5, 0, none⟩ [_, _, _] := hBb5.cells) | have hCb5 := Blk.cellsL hBb5
  have hlb5 := hBb5.lt
  have hzb5 := eb5.size
  refine Ox.pure rfl rfl zas ?_
  refine Ox.fin ?_
  (repeat refine Sx.seq ?_)
  refine Sx.walkR rfl (fun _ _ _ _ h => h) [0, 1, 3, 4, 2, 5, 6, 7] [0, 1, 3, 4, 7] (0) (by kernel_rfl) ?_
  intro hq w10 e10; have hz10 := e10.size
  refine Wx.pure hq rfl rfl rfl rfl zmv ?_
  refine Wx.val hq rfl rfl rfl rfl ([]) zra ?_
  refine Wx.pure hq rfl rfl rfl rfl zmv ?_
  refine Wx.val hq rfl rfl rfl rfl ([]) zra ?_
  refine Wx.actNew rfl rfl rfl rfl (acts_call rfl rfl rfl (points_at l k 0 1024 16777217 p A c _ (hs.ext0 zxc))) ?_
  rintro v11 w11 e11 hv2
  have hz11 := e11.size
  obtain ⟨p2, c2, A2, rfl, hs2, _⟩ := SlV.of_own hv2 (by omega)
  refine Wx.actNew rfl rfl rfl rfl (acts_call rfl rfl rfl (points_at m k 0 1024 16777217 q B d _ (ht.ext0 zxc))) ?_
  rintro v12 w12 e12 hv5
  have hz12 := e12.size
  obtain ⟨p5, c5, A5, rfl, hs5, _⟩ := SlV.of_own hv5 (by omega)
  refine Wx.actNew rfl rfl rfl rfl (acts_call rfl rfl rfl (ref_SamePoints (pointsL l k 0 1024 16777217) (pointsL m k 0 1024 16777217) p2 p5 A2 A5 c2 c5 _ (hs2.ext0 zxc) (hs5.ext0 zxc))) ?_
  rintro v13 w13 e13 rfl
  have hz13 := e13.size
  refine Wx.pure hq rfl rfl rfl rfl zas ?_
  refine Wx.fin ?_
  refine zrt ?_
  exact endE_ret [_] ⟨rfl, trivial⟩ ⟨zxc, rfl⟩

abbrev mvc (m : Mv) : List Value := [.int .u8 m.kind, .int .i64 m.no, .int .i64 m.c.key.k, .int .i64 m.c.key.s, .int .i64 m.c.key.o, .int .i64 m.c.val, .int .i64 m.c.lo, .int .i64 m.c.hi]
theorem mvc_len (m : Mv) : (mvc m).length = 8 := rfl
theorem do_at (s : Bs) (hsm : Small s) (hfw : Few s) (m : Mv) (w : World) (hin : BsIn s w) :
    Calls Try.prog 27 #[.agg (bvc s).toArray, .agg (mvc m).toArray] w (Ret fun r w' => Ext [] w w' ∧ ∃ s' : Bs, r = .agg (bvc s').toArray ∧ BsIn s' w' ∧ s'.br = doB s.br m ∧ ∀ g, g < w.heap.size → Off s g → Off s' g) := by
  refine calls_of_Sx (args := [.agg (bvc s).toArray, .agg (mvc m).toArray]) Try.func27 rfl rfl ?_
  by_cases h0 : m.kind = 0
  · have he : doB s.br m = if (forkB s.br m.no).2.2 ≠ 0 then s.br else (forkB s.br m.no).1 := if_pos h0
    by_cases hz : (forkB s.br m.no).2.2 = 0; rotate_left
    · rw [if_pos hz] at he
      refine ztx ?_
      refine Ox.act rfl rfl (acts_box rfl rfl) ?_
      rintro vb2 wb2 ⟨eb2, bb2, rfl, hbb2, hBb2⟩
      first | (have hCb2 : Cells wb2 ⟨bb2, 0, none⟩ [_, _, _, _, _] := hBb2.cells) | have hCb2 := Blk.cellsL hBb2
      have hlb2 := hBb2.lt
      have hzb2 := eb2.size
      refine Ox.act rfl rfl (acts_box rfl rfl) ?_
      rintro vb3 wb3 ⟨eb3, bb3, rfl, hbb3, hBb3⟩
      first | (have hCb3 : Cells wb3 ⟨bb3, 0, none⟩ [_, _, _, _, _, _, _, _] := hBb3.cells) | have hCb3 := Blk.cellsL hBb3
      have hlb3 := hBb3.lt
      have hzb3 := eb3.size
      refine Ox.act rfl rfl (acts_alloc rfl rfl) ?_
      rintro vb4 wb4 ⟨eb4, bb4, rfl, hbb4, hBb4⟩
      first | (have hCb4 : Cells wb4 ⟨bb4, 0, none⟩ [_, _, _, _, _] := hBb4.cells) | have hCb4 := Blk.cellsL hBb4
      have hlb4 := hBb4.lt
      have hzb4 := eb4.size
      refine Ox.fin ?_
      refine ztx ?_
      refine Ox.val rfl rfl zra ?_
      refine Ox.act rfl rfl (acts_alloc rfl rfl) ?_
      rintro vb5 wb5 ⟨eb5, bb5, rfl, hbb5, hBb5⟩
      first | (have hCb5 : Cells wb5 ⟨bb5, 0, none⟩ [_, _, _, _, _] := hBb5.cells) | have hCb5 := Blk.cellsL hBb5
      have hlb5 := hBb5.lt
      have hzb5 := eb5.size
      refine Ox.act rfl rfl (acts_store_all rfl rfl rfl hBb5 rfl rfl rfl (bvc_one s)) ?_
      rintro vs1 ws1 ⟨rfl, qs1, hBs1⟩
      have es1 : Ext [] wb4 ws1 := Ext.renew zxc qs1 (by omega)
      have hzs1 := es1.size
      refine Ox.pure rfl rfl zas ?_
      refine Ox.fin ?_
      refine ztx ?_
      refine Ox.pure rfl rfl zfa ?_
      refine Ox.val rfl rfl zrs ?_
      refine Ox.fin ?_
      refine zbl ?_
      refine ztx ?_
      refine Ox.pure rfl rfl zbc ?_
      refine Ox.pure rfl rfl zas ?_
      refine Ox.fin ?_
      refine zct ?_
      refine ztx ?_
      refine Ox.val rfl rfl zra ?_
      refine Ox.pure rfl rfl zfa ?_
      refine Ox.val rfl rfl zrs ?_
      refine Ox.act rfl rfl (acts_call rfl rfl rfl (fork_at s hsm hfw m.no _ (hin.ext0 zxc))) ?_
      rintro vu4 wu4 ⟨eu4, vv, rfl, ss, rfl, hi', hb', hz'⟩
      have hzu4 := eu4.size
      have hzu4 := eu4.size
      refine Ox.pure rfl rfl zmv ?_
      refine Ox.pure rfl rfl (rp_extract rfl rfl rfl) ?_
      refine Ox.pure rfl rfl (rp_extract rfl rfl rfl) ?_
      refine Ox.pure rfl rfl (rp_extract rfl rfl rfl) ?_
      refine Ox.act rfl rfl (acts_store_all rfl rfl rfl (hBs1.ext (X := []) zxc (by simp)) rfl rfl rfl (bvc_one ss)) ?_
      rintro vs2 ws2 ⟨rfl, qs2, hBs2⟩
      have es2 : Ext [] wb4 ws2 := Ext.renew zxc qs2 (by omega)
      have hzs2 := es2.size
      have hCs2 : Cells ws2 ⟨bb5, 0, none⟩ (bvc ss) := hBs2.cellsL
      refine Ox.pure rfl rfl zas ?_
      refine Ox.fin ?_
      refine ztx ?_
      refine Ox.pure rfl rfl zmv ?_
      refine Ox.pure rfl rfl zbc ?_
      refine Ox.fin ?_
      refine zct ?_
      refine ztx ?_
      refine Ox.val rfl rfl zra ?_
      refine Ox.act rfl rfl (acts_store_all rfl rfl rfl (hBb4.ext (X := []) zxc (by simp)) rfl rfl rfl (bvc_one s)) ?_
      rintro vs12 ws12 ⟨rfl, qs12, hBs12⟩
      have es12 : Ext [] w ws12 := Ext.renew zxc qs12 (by omega)
      refine Ox.fin ?_
      refine zrt ?_
      exact endE_ret [.agg (bvc s).toArray] ⟨⟨⟨bb4, 0, none⟩, rfl, hBs12.cellsL.ldA rfl rfl⟩, trivial⟩ ⟨zxc, by rw [he]; exact ⟨s, rfl, hin.ext0 zxc, rfl, fun _ _ h => h⟩⟩
    · rw [if_neg (fun h => h hz)] at he
      refine ztx ?_
      refine Ox.act rfl rfl (acts_box rfl rfl) ?_
      rintro vb2 wb2 ⟨eb2, bb2, rfl, hbb2, hBb2⟩
      first | (have hCb2 : Cells wb2 ⟨bb2, 0, none⟩ [_, _, _, _, _] := hBb2.cells) | have hCb2 := Blk.cellsL hBb2
      have hlb2 := hBb2.lt
      have hzb2 := eb2.size
      refine Ox.act rfl rfl (acts_box rfl rfl) ?_
      rintro vb3 wb3 ⟨eb3, bb3, rfl, hbb3, hBb3⟩
      first | (have hCb3 : Cells wb3 ⟨bb3, 0, none⟩ [_, _, _, _, _, _, _, _] := hBb3.cells) | have hCb3 := Blk.cellsL hBb3
      have hlb3 := hBb3.lt
      have hzb3 := eb3.size
      refine Ox.act rfl rfl (acts_alloc rfl rfl) ?_
      rintro vb4 wb4 ⟨eb4, bb4, rfl, hbb4, hBb4⟩
      first | (have hCb4 : Cells wb4 ⟨bb4, 0, none⟩ [_, _, _, _, _] := hBb4.cells) | have hCb4 := Blk.cellsL hBb4
      have hlb4 := hBb4.lt
      have hzb4 := eb4.size
      refine Ox.fin ?_
      refine ztx ?_
      refine Ox.val rfl rfl zra ?_
      refine Ox.act rfl rfl (acts_alloc rfl rfl) ?_
      rintro vb5 wb5 ⟨eb5, bb5, rfl, hbb5, hBb5⟩
      first | (have hCb5 : Cells wb5 ⟨bb5, 0, none⟩ [_, _, _, _, _] := hBb5.cells) | have hCb5 := Blk.cellsL hBb5
      have hlb5 := hBb5.lt
      have hzb5 := eb5.size
      refine Ox.act rfl rfl (acts_store_all rfl rfl rfl hBb5 rfl rfl rfl (bvc_one s)) ?_
      rintro vs1 ws1 ⟨rfl, qs1, hBs1⟩
      have es1 : Ext [] wb4 ws1 := Ext.renew zxc qs1 (by omega)
      have hzs1 := es1.size
      refine Ox.pure rfl rfl zas ?_
      refine Ox.fin ?_
      refine ztx ?_
      refine Ox.pure rfl rfl zfa ?_
      refine Ox.val rfl rfl zrs ?_
      refine Ox.fin ?_
      refine zbl ?_
      refine ztx ?_
      refine Ox.pure rfl rfl zbc ?_
      refine Ox.pure rfl rfl zas ?_
      refine Ox.fin ?_
      refine zct ?_
      refine ztx ?_
      refine Ox.val rfl rfl zra ?_
      refine Ox.pure rfl rfl zfa ?_
      refine Ox.val rfl rfl zrs ?_
      refine Ox.act rfl rfl (acts_call rfl rfl rfl (fork_at s hsm hfw m.no _ (hin.ext0 zxc))) ?_
      rintro vu4 wu4 ⟨eu4, vv, rfl, ss, rfl, hi', hb', hz'⟩
      have hzu4 := eu4.size
      have hzu4 := eu4.size
      refine Ox.pure rfl rfl zmv ?_
      refine Ox.pure rfl rfl (rp_extract rfl rfl rfl) ?_
      refine Ox.pure rfl rfl (rp_extract rfl rfl rfl) ?_
      refine Ox.pure rfl rfl (rp_extract rfl rfl rfl) ?_
      refine Ox.act rfl rfl (acts_store_all rfl rfl rfl (hBs1.ext (X := []) zxc (by simp)) rfl rfl rfl (bvc_one ss)) ?_
      rintro vs2 ws2 ⟨rfl, qs2, hBs2⟩
      have es2 : Ext [] wb4 ws2 := Ext.renew zxc qs2 (by omega)
      have hzs2 := es2.size
      have hCs2 : Cells ws2 ⟨bb5, 0, none⟩ (bvc ss) := hBs2.cellsL
      refine Ox.pure rfl rfl zas ?_
      refine Ox.fin ?_
      refine ztx ?_
      refine Ox.pure rfl rfl zmv ?_
      refine Ox.pure rfl rfl zbc ?_
      refine Ox.fin ?_
      refine zcf ?_
      refine zsk ?_
      refine ztx ?_
      refine Ox.val rfl rfl zra ?_
      refine Ox.act rfl rfl (acts_store_all rfl rfl rfl (hBb4.ext (X := []) zxc (by simp)) rfl rfl rfl (bvc_one ss)) ?_
      rintro vs13 ws13 ⟨rfl, qs13, hBs13⟩
      have es13 : Ext [] w ws13 := Ext.renew zxc qs13 (by omega)
      refine Ox.fin ?_
      refine zrt ?_
      exact endE_ret [.agg (bvc ss).toArray] ⟨⟨⟨bb4, 0, none⟩, rfl, hBs13.cellsL.ldA rfl rfl⟩, trivial⟩ ⟨zxc, by rw [he]; exact ⟨ss, rfl, (hi'.keep (hBs1.ext (X := []) zxc (by simp)) (fun h => by have := hz' h; have := hBs1.lt; have := hBb4.lt; omega) qs2).keep (show Blk ws2 bb4 27 (bvc Bs0) from hBb4.ext (X := []) zxc (by simp)) (fun h => by have := hz' h; have := hBs1.lt; have := hBb4.lt; omega) qs13, hb', fun g hg _ h => by have := hz' h; have := hBs1.lt; have := hBb4.lt; omega⟩⟩
  by_cases h1 : m.kind = 1
  · have he : doB s.br m = if (changeB s.br m.no m.c).2 ≠ 0 then s.br else (changeB s.br m.no m.c).1 := (if_neg h0).trans (if_pos h1)
    by_cases hz : (changeB s.br m.no m.c).2 = 0; rotate_left
    · rw [if_pos hz] at he
      refine ztx ?_
      refine Ox.act rfl rfl (acts_box rfl rfl) ?_
      rintro vb2 wb2 ⟨eb2, bb2, rfl, hbb2, hBb2⟩
      first | (have hCb2 : Cells wb2 ⟨bb2, 0, none⟩ [_, _, _, _, _] := hBb2.cells) | have hCb2 := Blk.cellsL hBb2
      have hlb2 := hBb2.lt
      have hzb2 := eb2.size
      refine Ox.act rfl rfl (acts_box rfl rfl) ?_
      rintro vb3 wb3 ⟨eb3, bb3, rfl, hbb3, hBb3⟩
      first | (have hCb3 : Cells wb3 ⟨bb3, 0, none⟩ [_, _, _, _, _, _, _, _] := hBb3.cells) | have hCb3 := Blk.cellsL hBb3
      have hlb3 := hBb3.lt
      have hzb3 := eb3.size
      refine Ox.act rfl rfl (acts_alloc rfl rfl) ?_
      rintro vb4 wb4 ⟨eb4, bb4, rfl, hbb4, hBb4⟩
      first | (have hCb4 : Cells wb4 ⟨bb4, 0, none⟩ [_, _, _, _, _] := hBb4.cells) | have hCb4 := Blk.cellsL hBb4
      have hlb4 := hBb4.lt
      have hzb4 := eb4.size
      refine Ox.fin ?_
      refine ztx ?_
      refine Ox.val rfl rfl zra ?_
      refine Ox.act rfl rfl (acts_alloc rfl rfl) ?_
      rintro vb5 wb5 ⟨eb5, bb5, rfl, hbb5, hBb5⟩
      first | (have hCb5 : Cells wb5 ⟨bb5, 0, none⟩ [_, _, _, _, _] := hBb5.cells) | have hCb5 := Blk.cellsL hBb5
      have hlb5 := hBb5.lt
      have hzb5 := eb5.size
      refine Ox.act rfl rfl (acts_store_all rfl rfl rfl hBb5 rfl rfl rfl (bvc_one s)) ?_
      rintro vs1 ws1 ⟨rfl, qs1, hBs1⟩
      have es1 : Ext [] wb4 ws1 := Ext.renew zxc qs1 (by omega)
      have hzs1 := es1.size
      refine Ox.pure rfl rfl zas ?_
      refine Ox.fin ?_
      refine ztx ?_
      refine Ox.pure rfl rfl zfa ?_
      refine Ox.val rfl rfl zrs ?_
      refine Ox.fin ?_
      refine zbl ?_
      refine ztx ?_
      refine Ox.pure rfl rfl zbc ?_
      refine Ox.pure rfl rfl zas ?_
      refine Ox.fin ?_
      refine zcf ?_
      refine ztx ?_
      refine Ox.pure rfl rfl zbc ?_
      refine Ox.pure rfl rfl zas ?_
      refine Ox.fin ?_
      refine zct ?_
      refine ztx ?_
      refine Ox.val rfl rfl zra ?_
      refine Ox.pure rfl rfl zfa ?_
      refine Ox.val rfl rfl zrs ?_
      refine Ox.pure rfl rfl zfa ?_
      refine Ox.val rfl rfl zra ?_
      refine Ox.act rfl rfl (acts_call rfl rfl rfl (change_br s hsm hfw m.no m.c _ (hin.ext0 zxc))) ?_
      rintro vu4 wu4 ⟨eu4, vv, rfl, ss, rfl, hi', hb', hz'⟩
      have hzu4 := eu4.size
      have hzu4 := eu4.size
      refine Ox.pure rfl rfl zmv ?_
      refine Ox.pure rfl rfl (rp_extract rfl rfl rfl) ?_
      refine Ox.pure rfl rfl (rp_extract rfl rfl rfl) ?_
      refine Ox.act rfl rfl (acts_store_all rfl rfl rfl (hBs1.ext (X := []) zxc (by simp)) rfl rfl rfl (bvc_one ss)) ?_
      rintro vs2 ws2 ⟨rfl, qs2, hBs2⟩
      have es2 : Ext [] wb4 ws2 := Ext.renew zxc qs2 (by omega)
      have hzs2 := es2.size
      have hCs2 : Cells ws2 ⟨bb5, 0, none⟩ (bvc ss) := hBs2.cellsL
      refine Ox.pure rfl rfl zas ?_
      refine Ox.fin ?_
      refine ztx ?_
      refine Ox.pure rfl rfl zmv ?_
      refine Ox.pure rfl rfl zbc ?_
      refine Ox.fin ?_
      refine zct ?_
      refine ztx ?_
      refine Ox.val rfl rfl zra ?_
      refine Ox.act rfl rfl (acts_store_all rfl rfl rfl (hBb4.ext (X := []) zxc (by simp)) rfl rfl rfl (bvc_one s)) ?_
      rintro vs12 ws12 ⟨rfl, qs12, hBs12⟩
      have es12 : Ext [] w ws12 := Ext.renew zxc qs12 (by omega)
      refine Ox.fin ?_
      refine zrt ?_
      exact endE_ret [.agg (bvc s).toArray] ⟨⟨⟨bb4, 0, none⟩, rfl, hBs12.cellsL.ldA rfl rfl⟩, trivial⟩ ⟨zxc, by rw [he]; exact ⟨s, rfl, hin.ext0 zxc, rfl, fun _ _ h => h⟩⟩
    · rw [if_neg (fun h => h hz)] at he
      refine ztx ?_
      refine Ox.act rfl rfl (acts_box rfl rfl) ?_
      rintro vb2 wb2 ⟨eb2, bb2, rfl, hbb2, hBb2⟩
      first | (have hCb2 : Cells wb2 ⟨bb2, 0, none⟩ [_, _, _, _, _] := hBb2.cells) | have hCb2 := Blk.cellsL hBb2
      have hlb2 := hBb2.lt
      have hzb2 := eb2.size
      refine Ox.act rfl rfl (acts_box rfl rfl) ?_
      rintro vb3 wb3 ⟨eb3, bb3, rfl, hbb3, hBb3⟩
      first | (have hCb3 : Cells wb3 ⟨bb3, 0, none⟩ [_, _, _, _, _, _, _, _] := hBb3.cells) | have hCb3 := Blk.cellsL hBb3
      have hlb3 := hBb3.lt
      have hzb3 := eb3.size
      refine Ox.act rfl rfl (acts_alloc rfl rfl) ?_
      rintro vb4 wb4 ⟨eb4, bb4, rfl, hbb4, hBb4⟩
      first | (have hCb4 : Cells wb4 ⟨bb4, 0, none⟩ [_, _, _, _, _] := hBb4.cells) | have hCb4 := Blk.cellsL hBb4
      have hlb4 := hBb4.lt
      have hzb4 := eb4.size
      refine Ox.fin ?_
      refine ztx ?_
      refine Ox.val rfl rfl zra ?_
      refine Ox.act rfl rfl (acts_alloc rfl rfl) ?_
      rintro vb5 wb5 ⟨eb5, bb5, rfl, hbb5, hBb5⟩
      first | (have hCb5 : Cells wb5 ⟨bb5, 0, none⟩ [_, _, _, _, _] := hBb5.cells) | have hCb5 := Blk.cellsL hBb5
      have hlb5 := hBb5.lt
      have hzb5 := eb5.size
      refine Ox.act rfl rfl (acts_store_all rfl rfl rfl hBb5 rfl rfl rfl (bvc_one s)) ?_
      rintro vs1 ws1 ⟨rfl, qs1, hBs1⟩
      have es1 : Ext [] wb4 ws1 := Ext.renew zxc qs1 (by omega)
      have hzs1 := es1.size
      refine Ox.pure rfl rfl zas ?_
      refine Ox.fin ?_
      refine ztx ?_
      refine Ox.pure rfl rfl zfa ?_
      refine Ox.val rfl rfl zrs ?_
      refine Ox.fin ?_
      refine zbl ?_
      refine ztx ?_
      refine Ox.pure rfl rfl zbc ?_
      refine Ox.pure rfl rfl zas ?_
      refine Ox.fin ?_
      refine zcf ?_
      refine ztx ?_
      refine Ox.pure rfl rfl zbc ?_
      refine Ox.pure rfl rfl zas ?_
      refine Ox.fin ?_
      refine zct ?_
      refine ztx ?_
      refine Ox.val rfl rfl zra ?_
      refine Ox.pure rfl rfl zfa ?_
      refine Ox.val rfl rfl zrs ?_
      refine Ox.pure rfl rfl zfa ?_
      refine Ox.val rfl rfl zra ?_
      refine Ox.act rfl rfl (acts_call rfl rfl rfl (change_br s hsm hfw m.no m.c _ (hin.ext0 zxc))) ?_
      rintro vu4 wu4 ⟨eu4, vv, rfl, ss, rfl, hi', hb', hz'⟩
      have hzu4 := eu4.size
      have hzu4 := eu4.size
      refine Ox.pure rfl rfl zmv ?_
      refine Ox.pure rfl rfl (rp_extract rfl rfl rfl) ?_
      refine Ox.pure rfl rfl (rp_extract rfl rfl rfl) ?_
      refine Ox.act rfl rfl (acts_store_all rfl rfl rfl (hBs1.ext (X := []) zxc (by simp)) rfl rfl rfl (bvc_one ss)) ?_
      rintro vs2 ws2 ⟨rfl, qs2, hBs2⟩
      have es2 : Ext [] wb4 ws2 := Ext.renew zxc qs2 (by omega)
      have hzs2 := es2.size
      have hCs2 : Cells ws2 ⟨bb5, 0, none⟩ (bvc ss) := hBs2.cellsL
      refine Ox.pure rfl rfl zas ?_
      refine Ox.fin ?_
      refine ztx ?_
      refine Ox.pure rfl rfl zmv ?_
      refine Ox.pure rfl rfl zbc ?_
      refine Ox.fin ?_
      refine zcf ?_
      refine zsk ?_
      refine ztx ?_
      refine Ox.val rfl rfl zra ?_
      refine Ox.act rfl rfl (acts_store_all rfl rfl rfl (hBb4.ext (X := []) zxc (by simp)) rfl rfl rfl (bvc_one ss)) ?_
      rintro vs13 ws13 ⟨rfl, qs13, hBs13⟩
      have es13 : Ext [] w ws13 := Ext.renew zxc qs13 (by omega)
      refine Ox.fin ?_
      refine zrt ?_
      exact endE_ret [.agg (bvc ss).toArray] ⟨⟨⟨bb4, 0, none⟩, rfl, hBs13.cellsL.ldA rfl rfl⟩, trivial⟩ ⟨zxc, by rw [he]; exact ⟨ss, rfl, (hi'.keep (hBs1.ext (X := []) zxc (by simp)) (fun h => by have := hz' h; have := hBs1.lt; have := hBb4.lt; omega) qs2).keep (show Blk ws2 bb4 27 (bvc Bs0) from hBb4.ext (X := []) zxc (by simp)) (fun h => by have := hz' h; have := hBs1.lt; have := hBb4.lt; omega) qs13, hb', fun g hg _ h => by have := hz' h; have := hBs1.lt; have := hBb4.lt; omega⟩⟩
  by_cases h2 : m.kind = 2
  · have he : doB s.br m = if (mergeB s.br m.no).2.2 ≠ 0 then s.br else (mergeB s.br m.no).1 := (if_neg h0).trans ((if_neg h1).trans (if_pos h2))
    by_cases hz : (mergeB s.br m.no).2.2 = 0; rotate_left
    · rw [if_pos hz] at he
      refine ztx ?_
      refine Ox.act rfl rfl (acts_box rfl rfl) ?_
      rintro vb2 wb2 ⟨eb2, bb2, rfl, hbb2, hBb2⟩
      first | (have hCb2 : Cells wb2 ⟨bb2, 0, none⟩ [_, _, _, _, _] := hBb2.cells) | have hCb2 := Blk.cellsL hBb2
      have hlb2 := hBb2.lt
      have hzb2 := eb2.size
      refine Ox.act rfl rfl (acts_box rfl rfl) ?_
      rintro vb3 wb3 ⟨eb3, bb3, rfl, hbb3, hBb3⟩
      first | (have hCb3 : Cells wb3 ⟨bb3, 0, none⟩ [_, _, _, _, _, _, _, _] := hBb3.cells) | have hCb3 := Blk.cellsL hBb3
      have hlb3 := hBb3.lt
      have hzb3 := eb3.size
      refine Ox.act rfl rfl (acts_alloc rfl rfl) ?_
      rintro vb4 wb4 ⟨eb4, bb4, rfl, hbb4, hBb4⟩
      first | (have hCb4 : Cells wb4 ⟨bb4, 0, none⟩ [_, _, _, _, _] := hBb4.cells) | have hCb4 := Blk.cellsL hBb4
      have hlb4 := hBb4.lt
      have hzb4 := eb4.size
      refine Ox.fin ?_
      refine ztx ?_
      refine Ox.val rfl rfl zra ?_
      refine Ox.act rfl rfl (acts_alloc rfl rfl) ?_
      rintro vb5 wb5 ⟨eb5, bb5, rfl, hbb5, hBb5⟩
      first | (have hCb5 : Cells wb5 ⟨bb5, 0, none⟩ [_, _, _, _, _] := hBb5.cells) | have hCb5 := Blk.cellsL hBb5
      have hlb5 := hBb5.lt
      have hzb5 := eb5.size
      refine Ox.act rfl rfl (acts_store_all rfl rfl rfl hBb5 rfl rfl rfl (bvc_one s)) ?_
      rintro vs1 ws1 ⟨rfl, qs1, hBs1⟩
      have es1 : Ext [] wb4 ws1 := Ext.renew zxc qs1 (by omega)
      have hzs1 := es1.size
      refine Ox.pure rfl rfl zas ?_
      refine Ox.fin ?_
      refine ztx ?_
      refine Ox.pure rfl rfl zfa ?_
      refine Ox.val rfl rfl zrs ?_
      refine Ox.fin ?_
      refine zbl ?_
      refine ztx ?_
      refine Ox.pure rfl rfl zbc ?_
      refine Ox.pure rfl rfl zas ?_
      refine Ox.fin ?_
      refine zcf ?_
      refine ztx ?_
      refine Ox.pure rfl rfl zbc ?_
      refine Ox.pure rfl rfl zas ?_
      refine Ox.fin ?_
      refine zcf ?_
      refine ztx ?_
      refine Ox.pure rfl rfl zbc ?_
      refine Ox.pure rfl rfl zas ?_
      refine Ox.fin ?_
      refine zct ?_
      refine ztx ?_
      refine Ox.val rfl rfl zra ?_
      refine Ox.pure rfl rfl zfa ?_
      refine Ox.val rfl rfl zrs ?_
      refine Ox.act rfl rfl (acts_call rfl rfl rfl (merge_br s hsm hfw m.no _ (hin.ext0 zxc))) ?_
      rintro vu4 wu4 ⟨eu4, vv, pp, AA, cc', rfl, ⟨ss, rfl, hi', hb', hz'⟩, hk'⟩
      have hzu4 := eu4.size
      have hzu4 := eu4.size
      refine Ox.pure rfl rfl zmv ?_
      refine Ox.pure rfl rfl (rp_extract rfl rfl rfl) ?_
      refine Ox.pure rfl rfl (rp_extract rfl rfl rfl) ?_
      refine Ox.pure rfl rfl (rp_extract rfl rfl rfl) ?_
      refine Ox.act rfl rfl (acts_store_all rfl rfl rfl (hBs1.ext (X := []) zxc (by simp)) rfl rfl rfl (bvc_one ss)) ?_
      rintro vs2 ws2 ⟨rfl, qs2, hBs2⟩
      have es2 : Ext [] wb4 ws2 := Ext.renew zxc qs2 (by omega)
      have hzs2 := es2.size
      have hCs2 : Cells ws2 ⟨bb5, 0, none⟩ (bvc ss) := hBs2.cellsL
      refine Ox.pure rfl rfl zas ?_
      refine Ox.fin ?_
      refine ztx ?_
      refine Ox.pure rfl rfl zmv ?_
      refine Ox.pure rfl rfl zbc ?_
      refine Ox.fin ?_
      refine zct ?_
      refine ztx ?_
      refine Ox.val rfl rfl zra ?_
      refine Ox.act rfl rfl (acts_store_all rfl rfl rfl (hBb4.ext (X := []) zxc (by simp)) rfl rfl rfl (bvc_one s)) ?_
      rintro vs12 ws12 ⟨rfl, qs12, hBs12⟩
      have es12 : Ext [] w ws12 := Ext.renew zxc qs12 (by omega)
      refine Ox.fin ?_
      refine zrt ?_
      exact endE_ret [.agg (bvc s).toArray] ⟨⟨⟨bb4, 0, none⟩, rfl, hBs12.cellsL.ldA rfl rfl⟩, trivial⟩ ⟨zxc, by rw [he]; exact ⟨s, rfl, hin.ext0 zxc, rfl, fun _ _ h => h⟩⟩
    · rw [if_neg (fun h => h hz)] at he
      refine ztx ?_
      refine Ox.act rfl rfl (acts_box rfl rfl) ?_
      rintro vb2 wb2 ⟨eb2, bb2, rfl, hbb2, hBb2⟩
      first | (have hCb2 : Cells wb2 ⟨bb2, 0, none⟩ [_, _, _, _, _] := hBb2.cells) | have hCb2 := Blk.cellsL hBb2
      have hlb2 := hBb2.lt
      have hzb2 := eb2.size
      refine Ox.act rfl rfl (acts_box rfl rfl) ?_
      rintro vb3 wb3 ⟨eb3, bb3, rfl, hbb3, hBb3⟩
      first | (have hCb3 : Cells wb3 ⟨bb3, 0, none⟩ [_, _, _, _, _, _, _, _] := hBb3.cells) | have hCb3 := Blk.cellsL hBb3
      have hlb3 := hBb3.lt
      have hzb3 := eb3.size
      refine Ox.act rfl rfl (acts_alloc rfl rfl) ?_
      rintro vb4 wb4 ⟨eb4, bb4, rfl, hbb4, hBb4⟩
      first | (have hCb4 : Cells wb4 ⟨bb4, 0, none⟩ [_, _, _, _, _] := hBb4.cells) | have hCb4 := Blk.cellsL hBb4
      have hlb4 := hBb4.lt
      have hzb4 := eb4.size
      refine Ox.fin ?_
      refine ztx ?_
      refine Ox.val rfl rfl zra ?_
      refine Ox.act rfl rfl (acts_alloc rfl rfl) ?_
      rintro vb5 wb5 ⟨eb5, bb5, rfl, hbb5, hBb5⟩
      first | (have hCb5 : Cells wb5 ⟨bb5, 0, none⟩ [_, _, _, _, _] := hBb5.cells) | have hCb5 := Blk.cellsL hBb5
      have hlb5 := hBb5.lt
      have hzb5 := eb5.size
      refine Ox.act rfl rfl (acts_store_all rfl rfl rfl hBb5 rfl rfl rfl (bvc_one s)) ?_
      rintro vs1 ws1 ⟨rfl, qs1, hBs1⟩
      have es1 : Ext [] wb4 ws1 := Ext.renew zxc qs1 (by omega)
      have hzs1 := es1.size
      refine Ox.pure rfl rfl zas ?_
      refine Ox.fin ?_
      refine ztx ?_
      refine Ox.pure rfl rfl zfa ?_
      refine Ox.val rfl rfl zrs ?_
      refine Ox.fin ?_
      refine zbl ?_
      refine ztx ?_
      refine Ox.pure rfl rfl zbc ?_
      refine Ox.pure rfl rfl zas ?_
      refine Ox.fin ?_
      refine zcf ?_
      refine ztx ?_
      refine Ox.pure rfl rfl zbc ?_
      refine Ox.pure rfl rfl zas ?_
      refine Ox.fin ?_
      refine zcf ?_
      refine ztx ?_
      refine Ox.pure rfl rfl zbc ?_
      refine Ox.pure rfl rfl zas ?_
      refine Ox.fin ?_
      refine zct ?_
      refine ztx ?_
      refine Ox.val rfl rfl zra ?_
      refine Ox.pure rfl rfl zfa ?_
      refine Ox.val rfl rfl zrs ?_
      refine Ox.act rfl rfl (acts_call rfl rfl rfl (merge_br s hsm hfw m.no _ (hin.ext0 zxc))) ?_
      rintro vu4 wu4 ⟨eu4, vv, pp, AA, cc', rfl, ⟨ss, rfl, hi', hb', hz'⟩, hk'⟩
      have hzu4 := eu4.size
      have hzu4 := eu4.size
      refine Ox.pure rfl rfl zmv ?_
      refine Ox.pure rfl rfl (rp_extract rfl rfl rfl) ?_
      refine Ox.pure rfl rfl (rp_extract rfl rfl rfl) ?_
      refine Ox.pure rfl rfl (rp_extract rfl rfl rfl) ?_
      refine Ox.act rfl rfl (acts_store_all rfl rfl rfl (hBs1.ext (X := []) zxc (by simp)) rfl rfl rfl (bvc_one ss)) ?_
      rintro vs2 ws2 ⟨rfl, qs2, hBs2⟩
      have es2 : Ext [] wb4 ws2 := Ext.renew zxc qs2 (by omega)
      have hzs2 := es2.size
      have hCs2 : Cells ws2 ⟨bb5, 0, none⟩ (bvc ss) := hBs2.cellsL
      refine Ox.pure rfl rfl zas ?_
      refine Ox.fin ?_
      refine ztx ?_
      refine Ox.pure rfl rfl zmv ?_
      refine Ox.pure rfl rfl zbc ?_
      refine Ox.fin ?_
      refine zcf ?_
      refine zsk ?_
      refine ztx ?_
      refine Ox.val rfl rfl zra ?_
      refine Ox.act rfl rfl (acts_store_all rfl rfl rfl (hBb4.ext (X := []) zxc (by simp)) rfl rfl rfl (bvc_one ss)) ?_
      rintro vs13 ws13 ⟨rfl, qs13, hBs13⟩
      have es13 : Ext [] w ws13 := Ext.renew zxc qs13 (by omega)
      refine Ox.fin ?_
      refine zrt ?_
      exact endE_ret [.agg (bvc ss).toArray] ⟨⟨⟨bb4, 0, none⟩, rfl, hBs13.cellsL.ldA rfl rfl⟩, trivial⟩ ⟨zxc, by rw [he]; exact ⟨ss, rfl, (hi'.keep (hBs1.ext (X := []) zxc (by simp)) (fun h => by have := hz' h; have := hBs1.lt; have := hBb4.lt; omega) qs2).keep (show Blk ws2 bb4 27 (bvc Bs0) from hBb4.ext (X := []) zxc (by simp)) (fun h => by have := hz' h; have := hBs1.lt; have := hBb4.lt; omega) qs13, hb', fun g hg _ h => by have := hz' h; have := hBs1.lt; have := hBb4.lt; omega⟩⟩
  by_cases h3 : m.kind = 3
  · have he : doB s.br m = if (dropB s.br m.no).2 ≠ 0 then s.br else (dropB s.br m.no).1 := (if_neg h0).trans ((if_neg h1).trans ((if_neg h2).trans (if_pos h3)))
    by_cases hz : (dropB s.br m.no).2 = 0; rotate_left
    · rw [if_pos hz] at he
      refine ztx ?_
      refine Ox.act rfl rfl (acts_box rfl rfl) ?_
      rintro vb2 wb2 ⟨eb2, bb2, rfl, hbb2, hBb2⟩
      first | (have hCb2 : Cells wb2 ⟨bb2, 0, none⟩ [_, _, _, _, _] := hBb2.cells) | have hCb2 := Blk.cellsL hBb2
      have hlb2 := hBb2.lt
      have hzb2 := eb2.size
      refine Ox.act rfl rfl (acts_box rfl rfl) ?_
      rintro vb3 wb3 ⟨eb3, bb3, rfl, hbb3, hBb3⟩
      first | (have hCb3 : Cells wb3 ⟨bb3, 0, none⟩ [_, _, _, _, _, _, _, _] := hBb3.cells) | have hCb3 := Blk.cellsL hBb3
      have hlb3 := hBb3.lt
      have hzb3 := eb3.size
      refine Ox.act rfl rfl (acts_alloc rfl rfl) ?_
      rintro vb4 wb4 ⟨eb4, bb4, rfl, hbb4, hBb4⟩
      first | (have hCb4 : Cells wb4 ⟨bb4, 0, none⟩ [_, _, _, _, _] := hBb4.cells) | have hCb4 := Blk.cellsL hBb4
      have hlb4 := hBb4.lt
      have hzb4 := eb4.size
      refine Ox.fin ?_
      refine ztx ?_
      refine Ox.val rfl rfl zra ?_
      refine Ox.act rfl rfl (acts_alloc rfl rfl) ?_
      rintro vb5 wb5 ⟨eb5, bb5, rfl, hbb5, hBb5⟩
      first | (have hCb5 : Cells wb5 ⟨bb5, 0, none⟩ [_, _, _, _, _] := hBb5.cells) | have hCb5 := Blk.cellsL hBb5
      have hlb5 := hBb5.lt
      have hzb5 := eb5.size
      refine Ox.act rfl rfl (acts_store_all rfl rfl rfl hBb5 rfl rfl rfl (bvc_one s)) ?_
      rintro vs1 ws1 ⟨rfl, qs1, hBs1⟩
      have es1 : Ext [] wb4 ws1 := Ext.renew zxc qs1 (by omega)
      have hzs1 := es1.size
      refine Ox.pure rfl rfl zas ?_
      refine Ox.fin ?_
      refine ztx ?_
      refine Ox.pure rfl rfl zfa ?_
      refine Ox.val rfl rfl zrs ?_
      refine Ox.fin ?_
      refine zbl ?_
      refine ztx ?_
      refine Ox.pure rfl rfl zbc ?_
      refine Ox.pure rfl rfl zas ?_
      refine Ox.fin ?_
      refine zcf ?_
      refine ztx ?_
      refine Ox.pure rfl rfl zbc ?_
      refine Ox.pure rfl rfl zas ?_
      refine Ox.fin ?_
      refine zcf ?_
      refine ztx ?_
      refine Ox.pure rfl rfl zbc ?_
      refine Ox.pure rfl rfl zas ?_
      refine Ox.fin ?_
      refine zcf ?_
      refine ztx ?_
      refine Ox.pure rfl rfl zbc ?_
      refine Ox.pure rfl rfl zas ?_
      refine Ox.fin ?_
      refine zct ?_
      refine ztx ?_
      refine Ox.val rfl rfl zra ?_
      refine Ox.pure rfl rfl zfa ?_
      refine Ox.val rfl rfl zrs ?_
      refine Ox.act rfl rfl (acts_call rfl rfl rfl (drop_at s hsm hfw m.no _ (hin.ext0 zxc))) ?_
      rintro vu4 wu4 ⟨eu4, vv, rfl, ss, rfl, hi', hb', hz'⟩
      have hzu4 := eu4.size
      have hzu4 := eu4.size
      refine Ox.pure rfl rfl zmv ?_
      refine Ox.pure rfl rfl (rp_extract rfl rfl rfl) ?_
      refine Ox.pure rfl rfl (rp_extract rfl rfl rfl) ?_
      refine Ox.act rfl rfl (acts_store_all rfl rfl rfl (hBs1.ext (X := []) zxc (by simp)) rfl rfl rfl (bvc_one ss)) ?_
      rintro vs2 ws2 ⟨rfl, qs2, hBs2⟩
      have es2 : Ext [] wb4 ws2 := Ext.renew zxc qs2 (by omega)
      have hzs2 := es2.size
      have hCs2 : Cells ws2 ⟨bb5, 0, none⟩ (bvc ss) := hBs2.cellsL
      refine Ox.pure rfl rfl zas ?_
      refine Ox.fin ?_
      refine ztx ?_
      refine Ox.pure rfl rfl zmv ?_
      refine Ox.pure rfl rfl zbc ?_
      refine Ox.fin ?_
      refine zct ?_
      refine ztx ?_
      refine Ox.val rfl rfl zra ?_
      refine Ox.act rfl rfl (acts_store_all rfl rfl rfl (hBb4.ext (X := []) zxc (by simp)) rfl rfl rfl (bvc_one s)) ?_
      rintro vs12 ws12 ⟨rfl, qs12, hBs12⟩
      have es12 : Ext [] w ws12 := Ext.renew zxc qs12 (by omega)
      refine Ox.fin ?_
      refine zrt ?_
      exact endE_ret [.agg (bvc s).toArray] ⟨⟨⟨bb4, 0, none⟩, rfl, hBs12.cellsL.ldA rfl rfl⟩, trivial⟩ ⟨zxc, by rw [he]; exact ⟨s, rfl, hin.ext0 zxc, rfl, fun _ _ h => h⟩⟩
    · rw [if_neg (fun h => h hz)] at he
      refine ztx ?_
      refine Ox.act rfl rfl (acts_box rfl rfl) ?_
      rintro vb2 wb2 ⟨eb2, bb2, rfl, hbb2, hBb2⟩
      first | (have hCb2 : Cells wb2 ⟨bb2, 0, none⟩ [_, _, _, _, _] := hBb2.cells) | have hCb2 := Blk.cellsL hBb2
      have hlb2 := hBb2.lt
      have hzb2 := eb2.size
      refine Ox.act rfl rfl (acts_box rfl rfl) ?_
      rintro vb3 wb3 ⟨eb3, bb3, rfl, hbb3, hBb3⟩
      first | (have hCb3 : Cells wb3 ⟨bb3, 0, none⟩ [_, _, _, _, _, _, _, _] := hBb3.cells) | have hCb3 := Blk.cellsL hBb3
      have hlb3 := hBb3.lt
      have hzb3 := eb3.size
      refine Ox.act rfl rfl (acts_alloc rfl rfl) ?_
      rintro vb4 wb4 ⟨eb4, bb4, rfl, hbb4, hBb4⟩
      first | (have hCb4 : Cells wb4 ⟨bb4, 0, none⟩ [_, _, _, _, _] := hBb4.cells) | have hCb4 := Blk.cellsL hBb4
      have hlb4 := hBb4.lt
      have hzb4 := eb4.size
      refine Ox.fin ?_
      refine ztx ?_
      refine Ox.val rfl rfl zra ?_
      refine Ox.act rfl rfl (acts_alloc rfl rfl) ?_
      rintro vb5 wb5 ⟨eb5, bb5, rfl, hbb5, hBb5⟩
      first | (have hCb5 : Cells wb5 ⟨bb5, 0, none⟩ [_, _, _, _, _] := hBb5.cells) | have hCb5 := Blk.cellsL hBb5
      have hlb5 := hBb5.lt
      have hzb5 := eb5.size
      refine Ox.act rfl rfl (acts_store_all rfl rfl rfl hBb5 rfl rfl rfl (bvc_one s)) ?_
      rintro vs1 ws1 ⟨rfl, qs1, hBs1⟩
      have es1 : Ext [] wb4 ws1 := Ext.renew zxc qs1 (by omega)
      have hzs1 := es1.size
      refine Ox.pure rfl rfl zas ?_
      refine Ox.fin ?_
      refine ztx ?_
      refine Ox.pure rfl rfl zfa ?_
      refine Ox.val rfl rfl zrs ?_
      refine Ox.fin ?_
      refine zbl ?_
      refine ztx ?_
      refine Ox.pure rfl rfl zbc ?_
      refine Ox.pure rfl rfl zas ?_
      refine Ox.fin ?_
      refine zcf ?_
      refine ztx ?_
      refine Ox.pure rfl rfl zbc ?_
      refine Ox.pure rfl rfl zas ?_
      refine Ox.fin ?_
      refine zcf ?_
      refine ztx ?_
      refine Ox.pure rfl rfl zbc ?_
      refine Ox.pure rfl rfl zas ?_
      refine Ox.fin ?_
      refine zcf ?_
      refine ztx ?_
      refine Ox.pure rfl rfl zbc ?_
      refine Ox.pure rfl rfl zas ?_
      refine Ox.fin ?_
      refine zct ?_
      refine ztx ?_
      refine Ox.val rfl rfl zra ?_
      refine Ox.pure rfl rfl zfa ?_
      refine Ox.val rfl rfl zrs ?_
      refine Ox.act rfl rfl (acts_call rfl rfl rfl (drop_at s hsm hfw m.no _ (hin.ext0 zxc))) ?_
      rintro vu4 wu4 ⟨eu4, vv, rfl, ss, rfl, hi', hb', hz'⟩
      have hzu4 := eu4.size
      have hzu4 := eu4.size
      refine Ox.pure rfl rfl zmv ?_
      refine Ox.pure rfl rfl (rp_extract rfl rfl rfl) ?_
      refine Ox.pure rfl rfl (rp_extract rfl rfl rfl) ?_
      refine Ox.act rfl rfl (acts_store_all rfl rfl rfl (hBs1.ext (X := []) zxc (by simp)) rfl rfl rfl (bvc_one ss)) ?_
      rintro vs2 ws2 ⟨rfl, qs2, hBs2⟩
      have es2 : Ext [] wb4 ws2 := Ext.renew zxc qs2 (by omega)
      have hzs2 := es2.size
      have hCs2 : Cells ws2 ⟨bb5, 0, none⟩ (bvc ss) := hBs2.cellsL
      refine Ox.pure rfl rfl zas ?_
      refine Ox.fin ?_
      refine ztx ?_
      refine Ox.pure rfl rfl zmv ?_
      refine Ox.pure rfl rfl zbc ?_
      refine Ox.fin ?_
      refine zcf ?_
      refine zsk ?_
      refine ztx ?_
      refine Ox.val rfl rfl zra ?_
      refine Ox.act rfl rfl (acts_store_all rfl rfl rfl (hBb4.ext (X := []) zxc (by simp)) rfl rfl rfl (bvc_one ss)) ?_
      rintro vs13 ws13 ⟨rfl, qs13, hBs13⟩
      have es13 : Ext [] w ws13 := Ext.renew zxc qs13 (by omega)
      refine Ox.fin ?_
      refine zrt ?_
      exact endE_ret [.agg (bvc ss).toArray] ⟨⟨⟨bb4, 0, none⟩, rfl, hBs13.cellsL.ldA rfl rfl⟩, trivial⟩ ⟨zxc, by rw [he]; exact ⟨ss, rfl, (hi'.keep (hBs1.ext (X := []) zxc (by simp)) (fun h => by have := hz' h; have := hBs1.lt; have := hBb4.lt; omega) qs2).keep (show Blk ws2 bb4 27 (bvc Bs0) from hBb4.ext (X := []) zxc (by simp)) (fun h => by have := hz' h; have := hBs1.lt; have := hBb4.lt; omega) qs13, hb', fun g hg _ h => by have := hz' h; have := hBs1.lt; have := hBb4.lt; omega⟩⟩
  have he : doB s.br m = s.br := (if_neg h0).trans ((if_neg h1).trans ((if_neg h2).trans (if_neg h3)))
  refine ztx ?_
  refine Ox.act rfl rfl (acts_box rfl rfl) ?_
  rintro vb2 wb2 ⟨eb2, bb2, rfl, hbb2, hBb2⟩
  first | (have hCb2 : Cells wb2 ⟨bb2, 0, none⟩ [_, _, _, _, _] := hBb2.cells) | have hCb2 := Blk.cellsL hBb2
  have hlb2 := hBb2.lt
  have hzb2 := eb2.size
  refine Ox.act rfl rfl (acts_box rfl rfl) ?_
  rintro vb3 wb3 ⟨eb3, bb3, rfl, hbb3, hBb3⟩
  first | (have hCb3 : Cells wb3 ⟨bb3, 0, none⟩ [_, _, _, _, _, _, _, _] := hBb3.cells) | have hCb3 := Blk.cellsL hBb3
  have hlb3 := hBb3.lt
  have hzb3 := eb3.size
  refine Ox.act rfl rfl (acts_alloc rfl rfl) ?_
  rintro vb4 wb4 ⟨eb4, bb4, rfl, hbb4, hBb4⟩
  first | (have hCb4 : Cells wb4 ⟨bb4, 0, none⟩ [_, _, _, _, _] := hBb4.cells) | have hCb4 := Blk.cellsL hBb4
  have hlb4 := hBb4.lt
  have hzb4 := eb4.size
  refine Ox.fin ?_
  refine ztx ?_
  refine Ox.val rfl rfl zra ?_
  refine Ox.act rfl rfl (acts_alloc rfl rfl) ?_
  rintro vb5 wb5 ⟨eb5, bb5, rfl, hbb5, hBb5⟩
  first | (have hCb5 : Cells wb5 ⟨bb5, 0, none⟩ [_, _, _, _, _] := hBb5.cells) | have hCb5 := Blk.cellsL hBb5
  have hlb5 := hBb5.lt
  have hzb5 := eb5.size
  refine Ox.act rfl rfl (acts_store_all rfl rfl rfl hBb5 rfl rfl rfl (bvc_one s)) ?_
  rintro vs1 ws1 ⟨rfl, qs1, hBs1⟩
  have es1 : Ext [] wb4 ws1 := Ext.renew zxc qs1 (by omega)
  have hzs1 := es1.size
  refine Ox.pure rfl rfl zas ?_
  refine Ox.fin ?_
  refine ztx ?_
  refine Ox.pure rfl rfl zfa ?_
  refine Ox.val rfl rfl zrs ?_
  refine Ox.fin ?_
  refine zbl ?_
  refine ztx ?_
  refine Ox.pure rfl rfl zbc ?_
  refine Ox.pure rfl rfl zas ?_
  refine Ox.fin ?_
  refine zcf ?_
  refine ztx ?_
  refine Ox.pure rfl rfl zbc ?_
  refine Ox.pure rfl rfl zas ?_
  refine Ox.fin ?_
  refine zcf ?_
  refine ztx ?_
  refine Ox.pure rfl rfl zbc ?_
  refine Ox.pure rfl rfl zas ?_
  refine Ox.fin ?_
  refine zcf ?_
  refine ztx ?_
  refine Ox.pure rfl rfl zbc ?_
  refine Ox.pure rfl rfl zas ?_
  refine Ox.fin ?_
  refine zcf ?_
  refine zsk ?_
  refine ztx ?_
  refine Ox.pure rfl rfl zmv ?_
  refine Ox.pure rfl rfl zbc ?_
  refine Ox.fin ?_
  refine zct ?_
  refine ztx ?_
  refine Ox.val rfl rfl zra ?_
  refine Ox.act rfl rfl (acts_store_all rfl rfl rfl (hBb4.ext (X := []) zxc (by simp)) rfl rfl rfl (bvc_one s)) ?_
  rintro vs12 ws12 ⟨rfl, qs12, hBs12⟩
  have es12 : Ext [] w ws12 := Ext.renew zxc qs12 (by omega)
  refine Ox.fin ?_
  refine zrt ?_
  exact endE_ret [.agg (bvc s).toArray] ⟨⟨⟨bb4, 0, none⟩, rfl, hBs12.cellsL.ldA rfl rfl⟩, trivial⟩ ⟨zxc, by rw [he]; exact ⟨s, rfl, hin.ext0 zxc, rfl, fun _ _ h => h⟩⟩

end Go.Proofs.Ytfgckcochilpkaa
