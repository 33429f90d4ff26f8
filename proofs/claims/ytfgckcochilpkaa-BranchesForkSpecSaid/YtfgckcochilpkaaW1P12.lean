/- Texts of one proof, put together: BranS, BranT. -/
import Derived.Test.YtfgckcochilpkaaRows
import Derived.Test.YtfgckcochilpkaaW1P11
/- Branches' walks: the reference's validity, new branchings, their facts. -/
set_option linter.unusedVariables false
set_option maxRecDepth 100000
set_option maxHeartbeats 4000000
set_option linter.unusedSimpArgs false
namespace Go.Proofs.Ytfgckcochilpkaa
open Go Go.Eng

theorem refOf_no (s : Bs) (hf : Formed s.br) (hck : checkL s.base = 0) (hsm : Small s) (no : Int) (h1 : -1 ≤ no) (h2 : no < (s.bls.length : Int)) (w : World) (hin : BsIn s w) :
    Calls Try.prog 46 #[.agg (bvc s).toArray, .int .i64 no, .int .i64 (lenB s.br no : Int)] w (Ret fun r w' => Ext [] w w' ∧ RRec w' r (ofB s.br no)) :=
  refWith_no s hf hck hsm no (lenB s.br no) h1 h2 (Nat.le_refl _) w hin
theorem refFormed_at (s : Bs) (w : World) (hin : BsIn s w) :
    Calls Try.prog 63 #[.agg (bvc s).toArray] w (Ret fun r w' => Ext [] w w' ∧ r = .bool (decide (Formed s.br))) := by
  have hpp := hin.par.ptr
  have hpr := hin.par.row
  have hpf := hin.par.few
  have hkp := hin.fks.ptr
  have hkr := hin.fks.row
  have hkf := hin.fks.few
  have hbf := hin.bls.few
  have hdf := hin.done.few
  have hbl := br_len s
  refine calls_of_Sx (args := [.agg (bvc s).toArray]) Try.func63 rfl rfl ?_
  by_cases hch1 : s.bls.length ≤ 64; rotate_left
  ·   have hno : ¬ Formed s.br := by
        rintro ⟨a1, a2, a3, a4, _⟩
        rw [hbl] at a1 a2 a3 a4
        first | exact absurd a1 (by assumption) | exact absurd a2 (by assumption) | exact absurd a3 (by assumption) | exact absurd a4 (by assumption)
      refine ztx ?_
      refine Ox.act rfl rfl (acts_box rfl rfl) ?_
      rintro vb1 wb1 ⟨eb1, bb1, rfl, hbb1, hBb1⟩
      first | (have hCb1 : Cells wb1 ⟨bb1, 0, none⟩ [_, _, _, _, _] := hBb1.cells) | have hCb1 := Blk.cellsL hBb1
      have hlb1 := hBb1.lt
      have hzb1 := eb1.size
      refine Ox.pure rfl rfl zas ?_
      refine Ox.fin ?_
      refine ztx ?_
      refine Ox.pure rfl rfl zfa ?_
      refine Ox.val rfl rfl zrs ?_
      refine Ox.pure rfl rfl (rp_lenS rfl rfl rfl) ?_
      refine Ox.pure rfl rfl zas ?_
      refine Ox.fin ?_
      refine ztx ?_
      refine Ox.pure rfl rfl zmv ?_
      refine Ox.pure rfl rfl zbc ?_
      refine Ox.pure rfl rfl zmv ?_
      first | (refine Ox.skip rfl rfl ?_) | (refine Ox.pure rfl rfl zfa ?_)
      first | (refine Ox.skip rfl rfl ?_) | (refine Ox.val rfl rfl zrs ?_)
      first | (refine Ox.skip rfl rfl ?_) | (refine Ox.pure rfl rfl (rp_lenS rfl rfl rfl) ?_)
      first | (refine Ox.skip rfl rfl ?_) | (refine Ox.pure rfl rfl zmv ?_)
      first | (refine Ox.skip rfl rfl ?_) | (refine Ox.pure rfl rfl zbc ?_)
      refine Ox.pure rfl rfl zpk ?_
      refine Ox.pure rfl rfl zmv ?_
      first | (refine Ox.skip rfl rfl ?_) | (refine Ox.pure rfl rfl zfa ?_)
      first | (refine Ox.skip rfl rfl ?_) | (refine Ox.val rfl rfl zrs ?_)
      first | (refine Ox.skip rfl rfl ?_) | (refine Ox.pure rfl rfl (rp_lenS rfl rfl rfl) ?_)
      first | (refine Ox.skip rfl rfl ?_) | (refine Ox.pure rfl rfl zmv ?_)
      first | (refine Ox.skip rfl rfl ?_) | (refine Ox.pure rfl rfl zbc ?_)
      refine Ox.pure rfl rfl zpk ?_
      refine Ox.pure rfl rfl zmv ?_
      first | (refine Ox.skip rfl rfl ?_) | (refine Ox.pure rfl rfl zfa ?_)
      first | (refine Ox.skip rfl rfl ?_) | (refine Ox.val rfl rfl zrs ?_)
      first | (refine Ox.skip rfl rfl ?_) | (refine Ox.pure rfl rfl (rp_lenS rfl rfl rfl) ?_)
      first | (refine Ox.skip rfl rfl ?_) | (refine Ox.pure rfl rfl zmv ?_)
      first | (refine Ox.skip rfl rfl ?_) | (refine Ox.pure rfl rfl zbc ?_)
      refine Ox.pure rfl rfl zpk ?_
      refine Ox.fin ?_
      refine zct ?_
      refine ztx ?_
      refine Ox.pure rfl rfl zas ?_
      refine Ox.fin ?_
      refine zrt ?_
      exact endE_ret [_] ⟨rfl, trivial⟩ ⟨zxc, congrArg Value.bool (decide_eq_false hno).symm⟩
  by_cases hch2 : s.par.length = s.bls.length; rotate_left
  ·   have hno : ¬ Formed s.br := by
        rintro ⟨a1, a2, a3, a4, _⟩
        rw [hbl] at a1 a2 a3 a4
        first | exact absurd a1 (by assumption) | exact absurd a2 (by assumption) | exact absurd a3 (by assumption) | exact absurd a4 (by assumption)
      refine ztx ?_
      refine Ox.act rfl rfl (acts_box rfl rfl) ?_
      rintro vb1 wb1 ⟨eb1, bb1, rfl, hbb1, hBb1⟩
      first | (have hCb1 : Cells wb1 ⟨bb1, 0, none⟩ [_, _, _, _, _] := hBb1.cells) | have hCb1 := Blk.cellsL hBb1
      have hlb1 := hBb1.lt
      have hzb1 := eb1.size
      refine Ox.pure rfl rfl zas ?_
      refine Ox.fin ?_
      refine ztx ?_
      refine Ox.pure rfl rfl zfa ?_
      refine Ox.val rfl rfl zrs ?_
      refine Ox.pure rfl rfl (rp_lenS rfl rfl rfl) ?_
      refine Ox.pure rfl rfl zas ?_
      refine Ox.fin ?_
      refine ztx ?_
      refine Ox.pure rfl rfl zmv ?_
      refine Ox.pure rfl rfl zbc ?_
      refine Ox.pure rfl rfl zmv ?_
      first | (refine Ox.skip rfl rfl ?_) | (refine Ox.pure rfl rfl zfa ?_)
      first | (refine Ox.skip rfl rfl ?_) | (refine Ox.val rfl rfl zrs ?_)
      first | (refine Ox.skip rfl rfl ?_) | (refine Ox.pure rfl rfl (rp_lenS rfl rfl rfl) ?_)
      first | (refine Ox.skip rfl rfl ?_) | (refine Ox.pure rfl rfl zmv ?_)
      first | (refine Ox.skip rfl rfl ?_) | (refine Ox.pure rfl rfl zbc ?_)
      refine Ox.pure rfl rfl zpk ?_
      refine Ox.pure rfl rfl zmv ?_
      first | (refine Ox.skip rfl rfl ?_) | (refine Ox.pure rfl rfl zfa ?_)
      first | (refine Ox.skip rfl rfl ?_) | (refine Ox.val rfl rfl zrs ?_)
      first | (refine Ox.skip rfl rfl ?_) | (refine Ox.pure rfl rfl (rp_lenS rfl rfl rfl) ?_)
      first | (refine Ox.skip rfl rfl ?_) | (refine Ox.pure rfl rfl zmv ?_)
      first | (refine Ox.skip rfl rfl ?_) | (refine Ox.pure rfl rfl zbc ?_)
      refine Ox.pure rfl rfl zpk ?_
      refine Ox.pure rfl rfl zmv ?_
      first | (refine Ox.skip rfl rfl ?_) | (refine Ox.pure rfl rfl zfa ?_)
      first | (refine Ox.skip rfl rfl ?_) | (refine Ox.val rfl rfl zrs ?_)
      first | (refine Ox.skip rfl rfl ?_) | (refine Ox.pure rfl rfl (rp_lenS rfl rfl rfl) ?_)
      first | (refine Ox.skip rfl rfl ?_) | (refine Ox.pure rfl rfl zmv ?_)
      first | (refine Ox.skip rfl rfl ?_) | (refine Ox.pure rfl rfl zbc ?_)
      refine Ox.pure rfl rfl zpk ?_
      refine Ox.fin ?_
      refine zct ?_
      refine ztx ?_
      refine Ox.pure rfl rfl zas ?_
      refine Ox.fin ?_
      refine zrt ?_
      exact endE_ret [_] ⟨rfl, trivial⟩ ⟨zxc, congrArg Value.bool (decide_eq_false hno).symm⟩
  by_cases hch3 : s.fks.length = s.bls.length; rotate_left
  ·   have hno : ¬ Formed s.br := by
        rintro ⟨a1, a2, a3, a4, _⟩
        rw [hbl] at a1 a2 a3 a4
        first | exact absurd a1 (by assumption) | exact absurd a2 (by assumption) | exact absurd a3 (by assumption) | exact absurd a4 (by assumption)
      refine ztx ?_
      refine Ox.act rfl rfl (acts_box rfl rfl) ?_
      rintro vb1 wb1 ⟨eb1, bb1, rfl, hbb1, hBb1⟩
      first | (have hCb1 : Cells wb1 ⟨bb1, 0, none⟩ [_, _, _, _, _] := hBb1.cells) | have hCb1 := Blk.cellsL hBb1
      have hlb1 := hBb1.lt
      have hzb1 := eb1.size
      refine Ox.pure rfl rfl zas ?_
      refine Ox.fin ?_
      refine ztx ?_
      refine Ox.pure rfl rfl zfa ?_
      refine Ox.val rfl rfl zrs ?_
      refine Ox.pure rfl rfl (rp_lenS rfl rfl rfl) ?_
      refine Ox.pure rfl rfl zas ?_
      refine Ox.fin ?_
      refine ztx ?_
      refine Ox.pure rfl rfl zmv ?_
      refine Ox.pure rfl rfl zbc ?_
      refine Ox.pure rfl rfl zmv ?_
      first | (refine Ox.skip rfl rfl ?_) | (refine Ox.pure rfl rfl zfa ?_)
      first | (refine Ox.skip rfl rfl ?_) | (refine Ox.val rfl rfl zrs ?_)
      first | (refine Ox.skip rfl rfl ?_) | (refine Ox.pure rfl rfl (rp_lenS rfl rfl rfl) ?_)
      first | (refine Ox.skip rfl rfl ?_) | (refine Ox.pure rfl rfl zmv ?_)
      first | (refine Ox.skip rfl rfl ?_) | (refine Ox.pure rfl rfl zbc ?_)
      refine Ox.pure rfl rfl zpk ?_
      refine Ox.pure rfl rfl zmv ?_
      first | (refine Ox.skip rfl rfl ?_) | (refine Ox.pure rfl rfl zfa ?_)
      first | (refine Ox.skip rfl rfl ?_) | (refine Ox.val rfl rfl zrs ?_)
      first | (refine Ox.skip rfl rfl ?_) | (refine Ox.pure rfl rfl (rp_lenS rfl rfl rfl) ?_)
      first | (refine Ox.skip rfl rfl ?_) | (refine Ox.pure rfl rfl zmv ?_)
      first | (refine Ox.skip rfl rfl ?_) | (refine Ox.pure rfl rfl zbc ?_)
      refine Ox.pure rfl rfl zpk ?_
      refine Ox.pure rfl rfl zmv ?_
      first | (refine Ox.skip rfl rfl ?_) | (refine Ox.pure rfl rfl zfa ?_)
      first | (refine Ox.skip rfl rfl ?_) | (refine Ox.val rfl rfl zrs ?_)
      first | (refine Ox.skip rfl rfl ?_) | (refine Ox.pure rfl rfl (rp_lenS rfl rfl rfl) ?_)
      first | (refine Ox.skip rfl rfl ?_) | (refine Ox.pure rfl rfl zmv ?_)
      first | (refine Ox.skip rfl rfl ?_) | (refine Ox.pure rfl rfl zbc ?_)
      refine Ox.pure rfl rfl zpk ?_
      refine Ox.fin ?_
      refine zct ?_
      refine ztx ?_
      refine Ox.pure rfl rfl zas ?_
      refine Ox.fin ?_
      refine zrt ?_
      exact endE_ret [_] ⟨rfl, trivial⟩ ⟨zxc, congrArg Value.bool (decide_eq_false hno).symm⟩
  by_cases hch4 : s.done.length = s.bls.length; rotate_left
  ·   have hno : ¬ Formed s.br := by
        rintro ⟨a1, a2, a3, a4, _⟩
        rw [hbl] at a1 a2 a3 a4
        first | exact absurd a1 (by assumption) | exact absurd a2 (by assumption) | exact absurd a3 (by assumption) | exact absurd a4 (by assumption)
      refine ztx ?_
      refine Ox.act rfl rfl (acts_box rfl rfl) ?_
      rintro vb1 wb1 ⟨eb1, bb1, rfl, hbb1, hBb1⟩
      first | (have hCb1 : Cells wb1 ⟨bb1, 0, none⟩ [_, _, _, _, _] := hBb1.cells) | have hCb1 := Blk.cellsL hBb1
      have hlb1 := hBb1.lt
      have hzb1 := eb1.size
      refine Ox.pure rfl rfl zas ?_
      refine Ox.fin ?_
      refine ztx ?_
      refine Ox.pure rfl rfl zfa ?_
      refine Ox.val rfl rfl zrs ?_
      refine Ox.pure rfl rfl (rp_lenS rfl rfl rfl) ?_
      refine Ox.pure rfl rfl zas ?_
      refine Ox.fin ?_
      refine ztx ?_
      refine Ox.pure rfl rfl zmv ?_
      refine Ox.pure rfl rfl zbc ?_
      refine Ox.pure rfl rfl zmv ?_
      first | (refine Ox.skip rfl rfl ?_) | (refine Ox.pure rfl rfl zfa ?_)
      first | (refine Ox.skip rfl rfl ?_) | (refine Ox.val rfl rfl zrs ?_)
      first | (refine Ox.skip rfl rfl ?_) | (refine Ox.pure rfl rfl (rp_lenS rfl rfl rfl) ?_)
      first | (refine Ox.skip rfl rfl ?_) | (refine Ox.pure rfl rfl zmv ?_)
      first | (refine Ox.skip rfl rfl ?_) | (refine Ox.pure rfl rfl zbc ?_)
      refine Ox.pure rfl rfl zpk ?_
      refine Ox.pure rfl rfl zmv ?_
      first | (refine Ox.skip rfl rfl ?_) | (refine Ox.pure rfl rfl zfa ?_)
      first | (refine Ox.skip rfl rfl ?_) | (refine Ox.val rfl rfl zrs ?_)
      first | (refine Ox.skip rfl rfl ?_) | (refine Ox.pure rfl rfl (rp_lenS rfl rfl rfl) ?_)
      first | (refine Ox.skip rfl rfl ?_) | (refine Ox.pure rfl rfl zmv ?_)
      first | (refine Ox.skip rfl rfl ?_) | (refine Ox.pure rfl rfl zbc ?_)
      refine Ox.pure rfl rfl zpk ?_
      refine Ox.pure rfl rfl zmv ?_
      first | (refine Ox.skip rfl rfl ?_) | (refine Ox.pure rfl rfl zfa ?_)
      first | (refine Ox.skip rfl rfl ?_) | (refine Ox.val rfl rfl zrs ?_)
      first | (refine Ox.skip rfl rfl ?_) | (refine Ox.pure rfl rfl (rp_lenS rfl rfl rfl) ?_)
      first | (refine Ox.skip rfl rfl ?_) | (refine Ox.pure rfl rfl zmv ?_)
      first | (refine Ox.skip rfl rfl ?_) | (refine Ox.pure rfl rfl zbc ?_)
      refine Ox.pure rfl rfl zpk ?_
      refine Ox.fin ?_
      refine zct ?_
      refine ztx ?_
      refine Ox.pure rfl rfl zas ?_
      refine Ox.fin ?_
      refine zrt ?_
      exact endE_ret [_] ⟨rfl, trivial⟩ ⟨zxc, congrArg Value.bool (decide_eq_false hno).symm⟩
  refine ztx ?_
  refine Ox.act rfl rfl (acts_box rfl rfl) ?_
  rintro vb1 wb1 ⟨eb1, bb1, rfl, hbb1, hBb1⟩
  first | (have hCb1 : Cells wb1 ⟨bb1, 0, none⟩ [_, _, _, _, _] := hBb1.cells) | have hCb1 := Blk.cellsL hBb1
  have hlb1 := hBb1.lt
  have hzb1 := eb1.size
  refine Ox.pure rfl rfl zas ?_
  refine Ox.fin ?_
  refine ztx ?_
  refine Ox.pure rfl rfl zfa ?_
  refine Ox.val rfl rfl zrs ?_
  refine Ox.pure rfl rfl (rp_lenS rfl rfl rfl) ?_
  refine Ox.pure rfl rfl zas ?_
  refine Ox.fin ?_
  refine ztx ?_
  refine Ox.pure rfl rfl zmv ?_
  refine Ox.pure rfl rfl zbc ?_
  refine Ox.pure rfl rfl zmv ?_
  first | (refine Ox.skip rfl rfl ?_) | (refine Ox.pure rfl rfl zfa ?_)
  first | (refine Ox.skip rfl rfl ?_) | (refine Ox.val rfl rfl zrs ?_)
  first | (refine Ox.skip rfl rfl ?_) | (refine Ox.pure rfl rfl (rp_lenS rfl rfl rfl) ?_)
  first | (refine Ox.skip rfl rfl ?_) | (refine Ox.pure rfl rfl zmv ?_)
  first | (refine Ox.skip rfl rfl ?_) | (refine Ox.pure rfl rfl zbc ?_)
  refine Ox.pure rfl rfl zpk ?_
  refine Ox.pure rfl rfl zmv ?_
  first | (refine Ox.skip rfl rfl ?_) | (refine Ox.pure rfl rfl zfa ?_)
  first | (refine Ox.skip rfl rfl ?_) | (refine Ox.val rfl rfl zrs ?_)
  first | (refine Ox.skip rfl rfl ?_) | (refine Ox.pure rfl rfl (rp_lenS rfl rfl rfl) ?_)
  first | (refine Ox.skip rfl rfl ?_) | (refine Ox.pure rfl rfl zmv ?_)
  first | (refine Ox.skip rfl rfl ?_) | (refine Ox.pure rfl rfl zbc ?_)
  refine Ox.pure rfl rfl zpk ?_
  refine Ox.pure rfl rfl zmv ?_
  first | (refine Ox.skip rfl rfl ?_) | (refine Ox.pure rfl rfl zfa ?_)
  first | (refine Ox.skip rfl rfl ?_) | (refine Ox.val rfl rfl zrs ?_)
  first | (refine Ox.skip rfl rfl ?_) | (refine Ox.pure rfl rfl (rp_lenS rfl rfl rfl) ?_)
  first | (refine Ox.skip rfl rfl ?_) | (refine Ox.pure rfl rfl zmv ?_)
  first | (refine Ox.skip rfl rfl ?_) | (refine Ox.pure rfl rfl zbc ?_)
  refine Ox.pure rfl rfl zpk ?_
  refine Ox.fin ?_
  refine zcf ?_
  refine zsk ?_
  refine ztx ?_
  refine Ox.pure rfl rfl zas ?_
  refine Ox.fin ?_
  refine zbl ?_
  refine Sx.loop (ι := Nat) (fun i E wr => E = [(1, .pointer (some ⟨bb1, 0, none⟩)), (3, .int .i64 (s.bls.length : Int)), (4, .int .i64 (i : Int))] ∧ i ≤ s.bls.length ∧ Ext [] wb1 wr ∧ ∀ j, j < i → (-1 ≤ parB s.br j ∧ parB s.br j < (j : Int)) ∧ 0 ≤ fkB s.br j ∧ fkB s.br j ≤ (lenB s.br (parB s.br j) : Int)) (fun i => s.bls.length - i) 0
    (sub_cons rfl (sub_cons rfl (sub_cons rfl sub_nil))) ⟨rfl, Nat.zero_le _, zxc, fun j h => absurd h (Nat.not_lt_zero _)⟩ ?_
  rintro i E wr ⟨rfl, hi, er, hall⟩
  have hz := er.size
  by_cases hlt : i < s.bls.length
  · have hip : i < s.par.length := by omega
    have hik : i < s.fks.length := by omega
    have hLp : ∀ u, Ext [] wr u → Ld Try.prog u 3 (s.A2.add (i * 1 + 0)) (.int .i64 (parB s.br i)) := fun u hu => by
      rw [parB_eq hip]; exact ld_field ic_len (hpr.ext0 zxc) hip 0 rfl (by decide) rfl
    have hLk : ∀ u, Ext [] wr u → Ld Try.prog u 3 (s.A3.add (i * 1 + 0)) (.int .i64 (fkB s.br i)) := fun u hu => by
      rw [fkB_eq hik]; exact ld_field ic_len (hkr.ext0 zxc) hik 0 rfl (by decide) rfl
    by_cases hch1 : -1 ≤ parB s.br i; rotate_left
    ·     have hno : ¬ Formed s.br := by
            rintro ⟨_, _, _, _, a5⟩
            obtain ⟨⟨x1, x2⟩, x3, x4⟩ := a5 i (by omega)
            first | exact absurd x1 (by assumption) | exact absurd x2 (by assumption) | exact absurd x3 (by assumption) | exact absurd x4 (by assumption)
          refine ztx ?_
          refine Ox.pure rfl rfl zmv ?_
          refine Ox.pure rfl rfl zmv ?_
          refine Ox.pure rfl rfl zbc ?_
          refine Ox.fin ?_
          refine zct ?_
          refine zsk ?_
          refine zbl ?_
          (repeat refine Sx.seq ?_)
          refine Sx.walkR rfl (fun _ _ _ _ h => h) [0, 1, 2, 3, 4, 5, 6, 7, 8, 9, 10, 11, 12, 13, 14, 15, 16, 17, 18, 19, 20, 21, 22, 23, 24, 25, 26, 27, 28, 29, 30, 31, 32, 33, 34, 35, 36, 37] [0, 1, 2, 3, 4, 5, 6, 7, 8, 9, 10, 11, 12, 13, 14, 15, 16, 17, 18, 19, 20, 21, 22, 23, 24, 25, 26, 27, 28, 29, 30, 31, 32, 33, 34, 36, 37] (0) (by kernel_rfl) ?_
          intro hq w1 e1; have hz1 := e1.size
          refine Wx.pure hq rfl rfl rfl rfl zfa ?_
          refine Wx.val hq rfl rfl rfl rfl ([]) zrs ?_
          refine Wx.pure hq rfl rfl rfl rfl zmv ?_
          refine Wx.pure hq rfl rfl rfl rfl (rp_indexAddr i rfl rfl rfl rfl rfl hpp rfl hip) ?_
          refine Wx.val hq rfl rfl rfl rfl ([]) (rv_load rfl rfl (fun u hu => hLp u zxc)) ?_
          refine Wx.pure hq rfl rfl rfl rfl zbc ?_
          refine Wx.pure hq rfl rfl rfl rfl zmv ?_
          first | (refine Wx.skip hq rfl rfl rfl rfl ?_) | (refine Wx.pure hq rfl rfl rfl rfl zfa ?_)
          first | (refine Wx.skip hq rfl rfl rfl rfl ?_) | (refine Wx.val hq rfl rfl rfl rfl ([]) zrs ?_)
          first | (refine Wx.skip hq rfl rfl rfl rfl ?_) | (refine Wx.pure hq rfl rfl rfl rfl zmv ?_)
          first | (refine Wx.skip hq rfl rfl rfl rfl ?_) | (refine Wx.pure hq rfl rfl rfl rfl (rp_indexAddr i rfl rfl rfl rfl rfl hpp rfl hip) ?_)
          first | (refine Wx.skip hq rfl rfl rfl rfl ?_) | (refine Wx.val hq rfl rfl rfl rfl ([]) (rv_load rfl rfl (fun u hu => hLp u zxc)) ?_)
          first | (refine Wx.skip hq rfl rfl rfl rfl ?_) | (refine Wx.pure hq rfl rfl rfl rfl zmv ?_)
          first | (refine Wx.skip hq rfl rfl rfl rfl ?_) | (refine Wx.pure hq rfl rfl rfl rfl zbc ?_)
          refine Wx.pure hq rfl rfl rfl rfl zpk ?_
          refine Wx.pure hq rfl rfl rfl rfl zmv ?_
          first | (refine Wx.skip hq rfl rfl rfl rfl ?_) | (refine Wx.pure hq rfl rfl rfl rfl zfa ?_)
          first | (refine Wx.skip hq rfl rfl rfl rfl ?_) | (refine Wx.val hq rfl rfl rfl rfl ([]) zrs ?_)
          first | (refine Wx.skip hq rfl rfl rfl rfl ?_) | (refine Wx.pure hq rfl rfl rfl rfl zmv ?_)
          first | (refine Wx.skip hq rfl rfl rfl rfl ?_) | (refine Wx.pure hq rfl rfl rfl rfl (rp_indexAddr i rfl rfl rfl rfl rfl hkp rfl hik) ?_)
          first | (refine Wx.skip hq rfl rfl rfl rfl ?_) | (refine Wx.val hq rfl rfl rfl rfl ([]) (rv_load rfl rfl (fun u hu => hLk u zxc)) ?_)
          first | (refine Wx.skip hq rfl rfl rfl rfl ?_) | (refine Wx.pure hq rfl rfl rfl rfl zbc ?_)
          refine Wx.pure hq rfl rfl rfl rfl zpk ?_
          refine Wx.pure hq rfl rfl rfl rfl zmv ?_
          first | (refine Wx.skip hq rfl rfl rfl rfl ?_) | (refine Wx.pure hq rfl rfl rfl rfl zfa ?_)
          first | (refine Wx.skip hq rfl rfl rfl rfl ?_) | (refine Wx.val hq rfl rfl rfl rfl ([]) zrs ?_)
          first | (refine Wx.skip hq rfl rfl rfl rfl ?_) | (refine Wx.pure hq rfl rfl rfl rfl zmv ?_)
          first | (refine Wx.skip hq rfl rfl rfl rfl ?_) | (refine Wx.pure hq rfl rfl rfl rfl (rp_indexAddr i rfl rfl rfl rfl rfl hkp rfl hik) ?_)
          first | (refine Wx.skip hq rfl rfl rfl rfl ?_) | (refine Wx.val hq rfl rfl rfl rfl ([]) (rv_load rfl rfl (fun u hu => hLk u zxc)) ?_)
          first | (refine Wx.skip hq rfl rfl rfl rfl ?_) | (refine Wx.val hq rfl rfl rfl rfl ([]) zra ?_)
          first | (refine Wx.skip hq rfl rfl rfl rfl ?_) | (refine Wx.pure hq rfl rfl rfl rfl zfa ?_)
          first | (refine Wx.skip hq rfl rfl rfl rfl ?_) | (refine Wx.val hq rfl rfl rfl rfl ([]) zrs ?_)
          first | (refine Wx.skip hq rfl rfl rfl rfl ?_) | (refine Wx.pure hq rfl rfl rfl rfl zmv ?_)
          first | (refine Wx.skip hq rfl rfl rfl rfl ?_) | (refine Wx.pure hq rfl rfl rfl rfl (rp_indexAddr i rfl rfl rfl rfl rfl hpp rfl hip) ?_)
          first | (refine Wx.skip hq rfl rfl rfl rfl ?_) | (refine Wx.val hq rfl rfl rfl rfl ([]) (rv_load rfl rfl (fun u hu => hLp u zxc)) ?_)
          first | (refine Wx.actSkip rfl rfl rfl rfl ?_) | (refine Wx.actNew rfl rfl rfl rfl (acts_call rfl rfl rfl (length_at_r s (parB s.br i) _ (hin.ext0 zxc) (by omega))) ?_; rintro v2 w2 e2 rfl; have hz2 := e2.size)
          first | (refine Wx.skip hq rfl rfl rfl rfl ?_) | (refine Wx.pure hq rfl rfl rfl rfl zbc ?_)
          refine Wx.pure hq rfl rfl rfl rfl zpk ?_
          refine Wx.fin ?_
          refine zct ?_
          refine ztx ?_
          refine Ox.pure rfl rfl zas ?_
          refine Ox.fin ?_
          refine zrt ?_
          exact endE_ret [_] ⟨rfl, trivial⟩ ⟨zxc, congrArg Value.bool (decide_eq_false hno).symm⟩
    by_cases hch2 : parB s.br i < (i : Int); rotate_left
    ·     have hno : ¬ Formed s.br := by
            rintro ⟨_, _, _, _, a5⟩
            obtain ⟨⟨x1, x2⟩, x3, x4⟩ := a5 i (by omega)
            first | exact absurd x1 (by assumption) | exact absurd x2 (by assumption) | exact absurd x3 (by assumption) | exact absurd x4 (by assumption)
          refine ztx ?_
          refine Ox.pure rfl rfl zmv ?_
          refine Ox.pure rfl rfl zmv ?_
          refine Ox.pure rfl rfl zbc ?_
          refine Ox.fin ?_
          refine zct ?_
          refine zsk ?_
          refine zbl ?_
          (repeat refine Sx.seq ?_)
          refine Sx.walkR rfl (fun _ _ _ _ h => h) [0, 1, 2, 3, 4, 5, 6, 7, 8, 9, 10, 11, 12, 13, 14, 15, 16, 17, 18, 19, 20, 21, 22, 23, 24, 25, 26, 27, 28, 29, 30, 31, 32, 33, 34, 35, 36, 37] [0, 1, 2, 3, 4, 5, 6, 7, 8, 9, 10, 11, 12, 13, 14, 15, 16, 17, 18, 19, 20, 21, 22, 23, 24, 25, 26, 27, 28, 29, 30, 31, 32, 33, 34, 36, 37] (0) (by kernel_rfl) ?_
          intro hq w3 e3; have hz3 := e3.size
          refine Wx.pure hq rfl rfl rfl rfl zfa ?_
          refine Wx.val hq rfl rfl rfl rfl ([]) zrs ?_
          refine Wx.pure hq rfl rfl rfl rfl zmv ?_
          refine Wx.pure hq rfl rfl rfl rfl (rp_indexAddr i rfl rfl rfl rfl rfl hpp rfl hip) ?_
          refine Wx.val hq rfl rfl rfl rfl ([]) (rv_load rfl rfl (fun u hu => hLp u zxc)) ?_
          refine Wx.pure hq rfl rfl rfl rfl zbc ?_
          refine Wx.pure hq rfl rfl rfl rfl zmv ?_
          first | (refine Wx.skip hq rfl rfl rfl rfl ?_) | (refine Wx.pure hq rfl rfl rfl rfl zfa ?_)
          first | (refine Wx.skip hq rfl rfl rfl rfl ?_) | (refine Wx.val hq rfl rfl rfl rfl ([]) zrs ?_)
          first | (refine Wx.skip hq rfl rfl rfl rfl ?_) | (refine Wx.pure hq rfl rfl rfl rfl zmv ?_)
          first | (refine Wx.skip hq rfl rfl rfl rfl ?_) | (refine Wx.pure hq rfl rfl rfl rfl (rp_indexAddr i rfl rfl rfl rfl rfl hpp rfl hip) ?_)
          first | (refine Wx.skip hq rfl rfl rfl rfl ?_) | (refine Wx.val hq rfl rfl rfl rfl ([]) (rv_load rfl rfl (fun u hu => hLp u zxc)) ?_)
          first | (refine Wx.skip hq rfl rfl rfl rfl ?_) | (refine Wx.pure hq rfl rfl rfl rfl zmv ?_)
          first | (refine Wx.skip hq rfl rfl rfl rfl ?_) | (refine Wx.pure hq rfl rfl rfl rfl zbc ?_)
          refine Wx.pure hq rfl rfl rfl rfl zpk ?_
          refine Wx.pure hq rfl rfl rfl rfl zmv ?_
          first | (refine Wx.skip hq rfl rfl rfl rfl ?_) | (refine Wx.pure hq rfl rfl rfl rfl zfa ?_)
          first | (refine Wx.skip hq rfl rfl rfl rfl ?_) | (refine Wx.val hq rfl rfl rfl rfl ([]) zrs ?_)
          first | (refine Wx.skip hq rfl rfl rfl rfl ?_) | (refine Wx.pure hq rfl rfl rfl rfl zmv ?_)
          first | (refine Wx.skip hq rfl rfl rfl rfl ?_) | (refine Wx.pure hq rfl rfl rfl rfl (rp_indexAddr i rfl rfl rfl rfl rfl hkp rfl hik) ?_)
          first | (refine Wx.skip hq rfl rfl rfl rfl ?_) | (refine Wx.val hq rfl rfl rfl rfl ([]) (rv_load rfl rfl (fun u hu => hLk u zxc)) ?_)
          first | (refine Wx.skip hq rfl rfl rfl rfl ?_) | (refine Wx.pure hq rfl rfl rfl rfl zbc ?_)
          refine Wx.pure hq rfl rfl rfl rfl zpk ?_
          refine Wx.pure hq rfl rfl rfl rfl zmv ?_
          first | (refine Wx.skip hq rfl rfl rfl rfl ?_) | (refine Wx.pure hq rfl rfl rfl rfl zfa ?_)
          first | (refine Wx.skip hq rfl rfl rfl rfl ?_) | (refine Wx.val hq rfl rfl rfl rfl ([]) zrs ?_)
          first | (refine Wx.skip hq rfl rfl rfl rfl ?_) | (refine Wx.pure hq rfl rfl rfl rfl zmv ?_)
          first | (refine Wx.skip hq rfl rfl rfl rfl ?_) | (refine Wx.pure hq rfl rfl rfl rfl (rp_indexAddr i rfl rfl rfl rfl rfl hkp rfl hik) ?_)
          first | (refine Wx.skip hq rfl rfl rfl rfl ?_) | (refine Wx.val hq rfl rfl rfl rfl ([]) (rv_load rfl rfl (fun u hu => hLk u zxc)) ?_)
          first | (refine Wx.skip hq rfl rfl rfl rfl ?_) | (refine Wx.val hq rfl rfl rfl rfl ([]) zra ?_)
          first | (refine Wx.skip hq rfl rfl rfl rfl ?_) | (refine Wx.pure hq rfl rfl rfl rfl zfa ?_)
          first | (refine Wx.skip hq rfl rfl rfl rfl ?_) | (refine Wx.val hq rfl rfl rfl rfl ([]) zrs ?_)
          first | (refine Wx.skip hq rfl rfl rfl rfl ?_) | (refine Wx.pure hq rfl rfl rfl rfl zmv ?_)
          first | (refine Wx.skip hq rfl rfl rfl rfl ?_) | (refine Wx.pure hq rfl rfl rfl rfl (rp_indexAddr i rfl rfl rfl rfl rfl hpp rfl hip) ?_)
          first | (refine Wx.skip hq rfl rfl rfl rfl ?_) | (refine Wx.val hq rfl rfl rfl rfl ([]) (rv_load rfl rfl (fun u hu => hLp u zxc)) ?_)
          first | (refine Wx.actSkip rfl rfl rfl rfl ?_) | (refine Wx.actNew rfl rfl rfl rfl (acts_call rfl rfl rfl (length_at_r s (parB s.br i) _ (hin.ext0 zxc) (by omega))) ?_; rintro v4 w4 e4 rfl; have hz4 := e4.size)
          first | (refine Wx.skip hq rfl rfl rfl rfl ?_) | (refine Wx.pure hq rfl rfl rfl rfl zbc ?_)
          refine Wx.pure hq rfl rfl rfl rfl zpk ?_
          refine Wx.fin ?_
          refine zct ?_
          refine ztx ?_
          refine Ox.pure rfl rfl zas ?_
          refine Ox.fin ?_
          refine zrt ?_
          exact endE_ret [_] ⟨rfl, trivial⟩ ⟨zxc, congrArg Value.bool (decide_eq_false hno).symm⟩
    by_cases hch3 : 0 ≤ fkB s.br i; rotate_left
    ·     have hno : ¬ Formed s.br := by
            rintro ⟨_, _, _, _, a5⟩
            obtain ⟨⟨x1, x2⟩, x3, x4⟩ := a5 i (by omega)
            first | exact absurd x1 (by assumption) | exact absurd x2 (by assumption) | exact absurd x3 (by assumption) | exact absurd x4 (by assumption)
          refine ztx ?_
          refine Ox.pure rfl rfl zmv ?_
          refine Ox.pure rfl rfl zmv ?_
          refine Ox.pure rfl rfl zbc ?_
          refine Ox.fin ?_
          refine zct ?_
          refine zsk ?_
          refine zbl ?_
          (repeat refine Sx.seq ?_)
          refine Sx.walkR rfl (fun _ _ _ _ h => h) [0, 1, 2, 3, 4, 5, 6, 7, 8, 9, 10, 11, 12, 13, 14, 15, 16, 17, 18, 19, 20, 21, 22, 23, 24, 25, 26, 27, 28, 29, 30, 31, 32, 33, 34, 35, 36, 37] [0, 1, 2, 3, 4, 5, 6, 7, 8, 9, 10, 11, 12, 13, 14, 15, 16, 17, 18, 19, 20, 21, 22, 23, 24, 25, 26, 27, 28, 29, 30, 31, 32, 33, 34, 36, 37] (0) (by kernel_rfl) ?_
          intro hq w5 e5; have hz5 := e5.size
          refine Wx.pure hq rfl rfl rfl rfl zfa ?_
          refine Wx.val hq rfl rfl rfl rfl ([]) zrs ?_
          refine Wx.pure hq rfl rfl rfl rfl zmv ?_
          refine Wx.pure hq rfl rfl rfl rfl (rp_indexAddr i rfl rfl rfl rfl rfl hpp rfl hip) ?_
          refine Wx.val hq rfl rfl rfl rfl ([]) (rv_load rfl rfl (fun u hu => hLp u zxc)) ?_
          refine Wx.pure hq rfl rfl rfl rfl zbc ?_
          refine Wx.pure hq rfl rfl rfl rfl zmv ?_
          first | (refine Wx.skip hq rfl rfl rfl rfl ?_) | (refine Wx.pure hq rfl rfl rfl rfl zfa ?_)
          first | (refine Wx.skip hq rfl rfl rfl rfl ?_) | (refine Wx.val hq rfl rfl rfl rfl ([]) zrs ?_)
          first | (refine Wx.skip hq rfl rfl rfl rfl ?_) | (refine Wx.pure hq rfl rfl rfl rfl zmv ?_)
          first | (refine Wx.skip hq rfl rfl rfl rfl ?_) | (refine Wx.pure hq rfl rfl rfl rfl (rp_indexAddr i rfl rfl rfl rfl rfl hpp rfl hip) ?_)
          first | (refine Wx.skip hq rfl rfl rfl rfl ?_) | (refine Wx.val hq rfl rfl rfl rfl ([]) (rv_load rfl rfl (fun u hu => hLp u zxc)) ?_)
          first | (refine Wx.skip hq rfl rfl rfl rfl ?_) | (refine Wx.pure hq rfl rfl rfl rfl zmv ?_)
          first | (refine Wx.skip hq rfl rfl rfl rfl ?_) | (refine Wx.pure hq rfl rfl rfl rfl zbc ?_)
          refine Wx.pure hq rfl rfl rfl rfl zpk ?_
          refine Wx.pure hq rfl rfl rfl rfl zmv ?_
          first | (refine Wx.skip hq rfl rfl rfl rfl ?_) | (refine Wx.pure hq rfl rfl rfl rfl zfa ?_)
          first | (refine Wx.skip hq rfl rfl rfl rfl ?_) | (refine Wx.val hq rfl rfl rfl rfl ([]) zrs ?_)
          first | (refine Wx.skip hq rfl rfl rfl rfl ?_) | (refine Wx.pure hq rfl rfl rfl rfl zmv ?_)
          first | (refine Wx.skip hq rfl rfl rfl rfl ?_) | (refine Wx.pure hq rfl rfl rfl rfl (rp_indexAddr i rfl rfl rfl rfl rfl hkp rfl hik) ?_)
          first | (refine Wx.skip hq rfl rfl rfl rfl ?_) | (refine Wx.val hq rfl rfl rfl rfl ([]) (rv_load rfl rfl (fun u hu => hLk u zxc)) ?_)
          first | (refine Wx.skip hq rfl rfl rfl rfl ?_) | (refine Wx.pure hq rfl rfl rfl rfl zbc ?_)
          refine Wx.pure hq rfl rfl rfl rfl zpk ?_
          refine Wx.pure hq rfl rfl rfl rfl zmv ?_
          first | (refine Wx.skip hq rfl rfl rfl rfl ?_) | (refine Wx.pure hq rfl rfl rfl rfl zfa ?_)
          first | (refine Wx.skip hq rfl rfl rfl rfl ?_) | (refine Wx.val hq rfl rfl rfl rfl ([]) zrs ?_)
          first | (refine Wx.skip hq rfl rfl rfl rfl ?_) | (refine Wx.pure hq rfl rfl rfl rfl zmv ?_)
          first | (refine Wx.skip hq rfl rfl rfl rfl ?_) | (refine Wx.pure hq rfl rfl rfl rfl (rp_indexAddr i rfl rfl rfl rfl rfl hkp rfl hik) ?_)
          first | (refine Wx.skip hq rfl rfl rfl rfl ?_) | (refine Wx.val hq rfl rfl rfl rfl ([]) (rv_load rfl rfl (fun u hu => hLk u zxc)) ?_)
          first | (refine Wx.skip hq rfl rfl rfl rfl ?_) | (refine Wx.val hq rfl rfl rfl rfl ([]) zra ?_)
          first | (refine Wx.skip hq rfl rfl rfl rfl ?_) | (refine Wx.pure hq rfl rfl rfl rfl zfa ?_)
          first | (refine Wx.skip hq rfl rfl rfl rfl ?_) | (refine Wx.val hq rfl rfl rfl rfl ([]) zrs ?_)
          first | (refine Wx.skip hq rfl rfl rfl rfl ?_) | (refine Wx.pure hq rfl rfl rfl rfl zmv ?_)
          first | (refine Wx.skip hq rfl rfl rfl rfl ?_) | (refine Wx.pure hq rfl rfl rfl rfl (rp_indexAddr i rfl rfl rfl rfl rfl hpp rfl hip) ?_)
          first | (refine Wx.skip hq rfl rfl rfl rfl ?_) | (refine Wx.val hq rfl rfl rfl rfl ([]) (rv_load rfl rfl (fun u hu => hLp u zxc)) ?_)
          first | (refine Wx.actSkip rfl rfl rfl rfl ?_) | (refine Wx.actNew rfl rfl rfl rfl (acts_call rfl rfl rfl (length_at_r s (parB s.br i) _ (hin.ext0 zxc) (by omega))) ?_; rintro v6 w6 e6 rfl; have hz6 := e6.size)
          first | (refine Wx.skip hq rfl rfl rfl rfl ?_) | (refine Wx.pure hq rfl rfl rfl rfl zbc ?_)
          refine Wx.pure hq rfl rfl rfl rfl zpk ?_
          refine Wx.fin ?_
          refine zct ?_
          refine ztx ?_
          refine Ox.pure rfl rfl zas ?_
          refine Ox.fin ?_
          refine zrt ?_
          exact endE_ret [_] ⟨rfl, trivial⟩ ⟨zxc, congrArg Value.bool (decide_eq_false hno).symm⟩
    by_cases hch4 : fkB s.br i ≤ (lenB s.br (parB s.br i) : Int); rotate_left
    ·     have hno : ¬ Formed s.br := by
            rintro ⟨_, _, _, _, a5⟩
            obtain ⟨⟨x1, x2⟩, x3, x4⟩ := a5 i (by omega)
            first | exact absurd x1 (by assumption) | exact absurd x2 (by assumption) | exact absurd x3 (by assumption) | exact absurd x4 (by assumption)
          refine ztx ?_
          refine Ox.pure rfl rfl zmv ?_
          refine Ox.pure rfl rfl zmv ?_
          refine Ox.pure rfl rfl zbc ?_
          refine Ox.fin ?_
          refine zct ?_
          refine zsk ?_
          refine zbl ?_
          (repeat refine Sx.seq ?_)
          refine Sx.walkR rfl (fun _ _ _ _ h => h) [0, 1, 2, 3, 4, 5, 6, 7, 8, 9, 10, 11, 12, 13, 14, 15, 16, 17, 18, 19, 20, 21, 22, 23, 24, 25, 26, 27, 28, 29, 30, 31, 32, 33, 34, 35, 36, 37] [0, 1, 2, 3, 4, 5, 6, 7, 8, 9, 10, 11, 12, 13, 14, 15, 16, 17, 18, 19, 20, 21, 22, 23, 24, 25, 26, 27, 28, 29, 30, 31, 32, 33, 34, 36, 37] (0) (by kernel_rfl) ?_
          intro hq w7 e7; have hz7 := e7.size
          refine Wx.pure hq rfl rfl rfl rfl zfa ?_
          refine Wx.val hq rfl rfl rfl rfl ([]) zrs ?_
          refine Wx.pure hq rfl rfl rfl rfl zmv ?_
          refine Wx.pure hq rfl rfl rfl rfl (rp_indexAddr i rfl rfl rfl rfl rfl hpp rfl hip) ?_
          refine Wx.val hq rfl rfl rfl rfl ([]) (rv_load rfl rfl (fun u hu => hLp u zxc)) ?_
          refine Wx.pure hq rfl rfl rfl rfl zbc ?_
          refine Wx.pure hq rfl rfl rfl rfl zmv ?_
          first | (refine Wx.skip hq rfl rfl rfl rfl ?_) | (refine Wx.pure hq rfl rfl rfl rfl zfa ?_)
          first | (refine Wx.skip hq rfl rfl rfl rfl ?_) | (refine Wx.val hq rfl rfl rfl rfl ([]) zrs ?_)
          first | (refine Wx.skip hq rfl rfl rfl rfl ?_) | (refine Wx.pure hq rfl rfl rfl rfl zmv ?_)
          first | (refine Wx.skip hq rfl rfl rfl rfl ?_) | (refine Wx.pure hq rfl rfl rfl rfl (rp_indexAddr i rfl rfl rfl rfl rfl hpp rfl hip) ?_)
          first | (refine Wx.skip hq rfl rfl rfl rfl ?_) | (refine Wx.val hq rfl rfl rfl rfl ([]) (rv_load rfl rfl (fun u hu => hLp u zxc)) ?_)
          first | (refine Wx.skip hq rfl rfl rfl rfl ?_) | (refine Wx.pure hq rfl rfl rfl rfl zmv ?_)
          first | (refine Wx.skip hq rfl rfl rfl rfl ?_) | (refine Wx.pure hq rfl rfl rfl rfl zbc ?_)
          refine Wx.pure hq rfl rfl rfl rfl zpk ?_
          refine Wx.pure hq rfl rfl rfl rfl zmv ?_
          first | (refine Wx.skip hq rfl rfl rfl rfl ?_) | (refine Wx.pure hq rfl rfl rfl rfl zfa ?_)
          first | (refine Wx.skip hq rfl rfl rfl rfl ?_) | (refine Wx.val hq rfl rfl rfl rfl ([]) zrs ?_)
          first | (refine Wx.skip hq rfl rfl rfl rfl ?_) | (refine Wx.pure hq rfl rfl rfl rfl zmv ?_)
          first | (refine Wx.skip hq rfl rfl rfl rfl ?_) | (refine Wx.pure hq rfl rfl rfl rfl (rp_indexAddr i rfl rfl rfl rfl rfl hkp rfl hik) ?_)
          first | (refine Wx.skip hq rfl rfl rfl rfl ?_) | (refine Wx.val hq rfl rfl rfl rfl ([]) (rv_load rfl rfl (fun u hu => hLk u zxc)) ?_)
          first | (refine Wx.skip hq rfl rfl rfl rfl ?_) | (refine Wx.pure hq rfl rfl rfl rfl zbc ?_)
          refine Wx.pure hq rfl rfl rfl rfl zpk ?_
          refine Wx.pure hq rfl rfl rfl rfl zmv ?_
          first | (refine Wx.skip hq rfl rfl rfl rfl ?_) | (refine Wx.pure hq rfl rfl rfl rfl zfa ?_)
          first | (refine Wx.skip hq rfl rfl rfl rfl ?_) | (refine Wx.val hq rfl rfl rfl rfl ([]) zrs ?_)
          first | (refine Wx.skip hq rfl rfl rfl rfl ?_) | (refine Wx.pure hq rfl rfl rfl rfl zmv ?_)
          first | (refine Wx.skip hq rfl rfl rfl rfl ?_) | (refine Wx.pure hq rfl rfl rfl rfl (rp_indexAddr i rfl rfl rfl rfl rfl hkp rfl hik) ?_)
          first | (refine Wx.skip hq rfl rfl rfl rfl ?_) | (refine Wx.val hq rfl rfl rfl rfl ([]) (rv_load rfl rfl (fun u hu => hLk u zxc)) ?_)
          first | (refine Wx.skip hq rfl rfl rfl rfl ?_) | (refine Wx.val hq rfl rfl rfl rfl ([]) zra ?_)
          first | (refine Wx.skip hq rfl rfl rfl rfl ?_) | (refine Wx.pure hq rfl rfl rfl rfl zfa ?_)
          first | (refine Wx.skip hq rfl rfl rfl rfl ?_) | (refine Wx.val hq rfl rfl rfl rfl ([]) zrs ?_)
          first | (refine Wx.skip hq rfl rfl rfl rfl ?_) | (refine Wx.pure hq rfl rfl rfl rfl zmv ?_)
          first | (refine Wx.skip hq rfl rfl rfl rfl ?_) | (refine Wx.pure hq rfl rfl rfl rfl (rp_indexAddr i rfl rfl rfl rfl rfl hpp rfl hip) ?_)
          first | (refine Wx.skip hq rfl rfl rfl rfl ?_) | (refine Wx.val hq rfl rfl rfl rfl ([]) (rv_load rfl rfl (fun u hu => hLp u zxc)) ?_)
          first | (refine Wx.actSkip rfl rfl rfl rfl ?_) | (refine Wx.actNew rfl rfl rfl rfl (acts_call rfl rfl rfl (length_at_r s (parB s.br i) _ (hin.ext0 zxc) (by omega))) ?_; rintro v8 w8 e8 rfl; have hz8 := e8.size)
          first | (refine Wx.skip hq rfl rfl rfl rfl ?_) | (refine Wx.pure hq rfl rfl rfl rfl zbc ?_)
          refine Wx.pure hq rfl rfl rfl rfl zpk ?_
          refine Wx.fin ?_
          refine zct ?_
          refine ztx ?_
          refine Ox.pure rfl rfl zas ?_
          refine Ox.fin ?_
          refine zrt ?_
          exact endE_ret [_] ⟨rfl, trivial⟩ ⟨zxc, congrArg Value.bool (decide_eq_false hno).symm⟩
    refine ztx ?_
    refine Ox.pure rfl rfl zmv ?_
    refine Ox.pure rfl rfl zmv ?_
    refine Ox.pure rfl rfl zbc ?_
    refine Ox.fin ?_
    refine zct ?_
    refine zsk ?_
    refine zbl ?_
    (repeat refine Sx.seq ?_)
    refine Sx.walkR rfl (fun _ _ _ _ h => h) [0, 1, 2, 3, 4, 5, 6, 7, 8, 9, 10, 11, 12, 13, 14, 15, 16, 17, 18, 19, 20, 21, 22, 23, 24, 25, 26, 27, 28, 29, 30, 31, 32, 33, 34, 35, 36, 37] [0, 1, 2, 3, 4, 5, 6, 7, 8, 9, 10, 11, 12, 13, 14, 15, 16, 17, 18, 19, 20, 21, 22, 23, 24, 25, 26, 27, 28, 29, 30, 31, 32, 33, 34, 36, 37] (0) (by kernel_rfl) ?_
    intro hq w9 e9; have hz9 := e9.size
    refine Wx.pure hq rfl rfl rfl rfl zfa ?_
    refine Wx.val hq rfl rfl rfl rfl ([]) zrs ?_
    refine Wx.pure hq rfl rfl rfl rfl zmv ?_
    refine Wx.pure hq rfl rfl rfl rfl (rp_indexAddr i rfl rfl rfl rfl rfl hpp rfl hip) ?_
    refine Wx.val hq rfl rfl rfl rfl ([]) (rv_load rfl rfl (fun u hu => hLp u zxc)) ?_
    refine Wx.pure hq rfl rfl rfl rfl zbc ?_
    refine Wx.pure hq rfl rfl rfl rfl zmv ?_
    first | (refine Wx.skip hq rfl rfl rfl rfl ?_) | (refine Wx.pure hq rfl rfl rfl rfl zfa ?_)
    first | (refine Wx.skip hq rfl rfl rfl rfl ?_) | (refine Wx.val hq rfl rfl rfl rfl ([]) zrs ?_)
    first | (refine Wx.skip hq rfl rfl rfl rfl ?_) | (refine Wx.pure hq rfl rfl rfl rfl zmv ?_)
    first | (refine Wx.skip hq rfl rfl rfl rfl ?_) | (refine Wx.pure hq rfl rfl rfl rfl (rp_indexAddr i rfl rfl rfl rfl rfl hpp rfl hip) ?_)
    first | (refine Wx.skip hq rfl rfl rfl rfl ?_) | (refine Wx.val hq rfl rfl rfl rfl ([]) (rv_load rfl rfl (fun u hu => hLp u zxc)) ?_)
    first | (refine Wx.skip hq rfl rfl rfl rfl ?_) | (refine Wx.pure hq rfl rfl rfl rfl zmv ?_)
    first | (refine Wx.skip hq rfl rfl rfl rfl ?_) | (refine Wx.pure hq rfl rfl rfl rfl zbc ?_)
    refine Wx.pure hq rfl rfl rfl rfl zpk ?_
    refine Wx.pure hq rfl rfl rfl rfl zmv ?_
    first | (refine Wx.skip hq rfl rfl rfl rfl ?_) | (refine Wx.pure hq rfl rfl rfl rfl zfa ?_)
    first | (refine Wx.skip hq rfl rfl rfl rfl ?_) | (refine Wx.val hq rfl rfl rfl rfl ([]) zrs ?_)
    first | (refine Wx.skip hq rfl rfl rfl rfl ?_) | (refine Wx.pure hq rfl rfl rfl rfl zmv ?_)
    first | (refine Wx.skip hq rfl rfl rfl rfl ?_) | (refine Wx.pure hq rfl rfl rfl rfl (rp_indexAddr i rfl rfl rfl rfl rfl hkp rfl hik) ?_)
    first | (refine Wx.skip hq rfl rfl rfl rfl ?_) | (refine Wx.val hq rfl rfl rfl rfl ([]) (rv_load rfl rfl (fun u hu => hLk u zxc)) ?_)
    first | (refine Wx.skip hq rfl rfl rfl rfl ?_) | (refine Wx.pure hq rfl rfl rfl rfl zbc ?_)
    refine Wx.pure hq rfl rfl rfl rfl zpk ?_
    refine Wx.pure hq rfl rfl rfl rfl zmv ?_
    first | (refine Wx.skip hq rfl rfl rfl rfl ?_) | (refine Wx.pure hq rfl rfl rfl rfl zfa ?_)
    first | (refine Wx.skip hq rfl rfl rfl rfl ?_) | (refine Wx.val hq rfl rfl rfl rfl ([]) zrs ?_)
    first | (refine Wx.skip hq rfl rfl rfl rfl ?_) | (refine Wx.pure hq rfl rfl rfl rfl zmv ?_)
    first | (refine Wx.skip hq rfl rfl rfl rfl ?_) | (refine Wx.pure hq rfl rfl rfl rfl (rp_indexAddr i rfl rfl rfl rfl rfl hkp rfl hik) ?_)
    first | (refine Wx.skip hq rfl rfl rfl rfl ?_) | (refine Wx.val hq rfl rfl rfl rfl ([]) (rv_load rfl rfl (fun u hu => hLk u zxc)) ?_)
    first | (refine Wx.skip hq rfl rfl rfl rfl ?_) | (refine Wx.val hq rfl rfl rfl rfl ([]) zra ?_)
    first | (refine Wx.skip hq rfl rfl rfl rfl ?_) | (refine Wx.pure hq rfl rfl rfl rfl zfa ?_)
    first | (refine Wx.skip hq rfl rfl rfl rfl ?_) | (refine Wx.val hq rfl rfl rfl rfl ([]) zrs ?_)
    first | (refine Wx.skip hq rfl rfl rfl rfl ?_) | (refine Wx.pure hq rfl rfl rfl rfl zmv ?_)
    first | (refine Wx.skip hq rfl rfl rfl rfl ?_) | (refine Wx.pure hq rfl rfl rfl rfl (rp_indexAddr i rfl rfl rfl rfl rfl hpp rfl hip) ?_)
    first | (refine Wx.skip hq rfl rfl rfl rfl ?_) | (refine Wx.val hq rfl rfl rfl rfl ([]) (rv_load rfl rfl (fun u hu => hLp u zxc)) ?_)
    first | (refine Wx.actSkip rfl rfl rfl rfl ?_) | (refine Wx.actNew rfl rfl rfl rfl (acts_call rfl rfl rfl (length_at_r s (parB s.br i) _ (hin.ext0 zxc) (by omega))) ?_; rintro v10 w10 e10 rfl; have hz10 := e10.size)
    first | (refine Wx.skip hq rfl rfl rfl rfl ?_) | (refine Wx.pure hq rfl rfl rfl rfl zbc ?_)
    refine Wx.pure hq rfl rfl rfl rfl zpk ?_
    refine Wx.fin ?_
    refine zcf ?_
    refine zsk ?_
    refine ztx ?_
    refine Ox.pure rfl rfl zmv ?_
    refine Ox.pure rfl rfl zba ?_
    refine Ox.pure rfl rfl zas ?_
    refine Ox.fin ?_
    exact ⟨i + 1, _, sub_cons rfl (sub_cons rfl (sub_cons rfl sub_nil)), ⟨rfl, hlt, zxc, fun j hj => by
      rcases Nat.lt_or_ge j i with h | h
      · exact hall j h
      · obtain rfl : j = i := by omega
        exact ⟨⟨by assumption, by assumption⟩, by assumption, by assumption⟩⟩, by omega⟩
  obtain rfl : i = s.bls.length := by omega
  have hf : Formed s.br := ⟨by omega, by show s.par.length = _; omega, by show s.fks.length = _; omega, by show s.done.length = _; omega, fun j hj => hall j (by omega)⟩
  refine ztx ?_
  refine Ox.pure rfl rfl zmv ?_
  refine Ox.pure rfl rfl zmv ?_
  refine Ox.pure rfl rfl zbc ?_
  refine Ox.fin ?_
  refine zcf ?_
  refine zex ?_
  refine ztx ?_
  refine Ox.pure rfl rfl zas ?_
  refine Ox.fin ?_
  refine zrt ?_
  exact endE_ret [_] ⟨rfl, trivial⟩ ⟨zxc, congrArg Value.bool (decide_eq_true hf).symm⟩

theorem refValid_br (s : Bs) (hsm : Small s) (w : World) (hin : BsIn s w) :
    Calls Try.prog 39 #[.agg (bvc s).toArray] w (Ret fun r w' => Ext [] w w' ∧ r = .bool (decide (ValidB s.br))) := by
  have hbf := hin.bls.few
  have hbp := hin.bls.ptr
  have hbr := hin.bls.row
  have hbl := br_len s
  refine calls_of_Sx (args := [.agg (bvc s).toArray]) Try.func39 rfl rfl ?_
  by_cases hf : Formed s.br; rotate_left
  · refine ztx ?_
    refine Ox.act rfl rfl (acts_box rfl rfl) ?_
    rintro vb1 wb1 ⟨eb1, bb1, rfl, hbb1, hBb1⟩
    first | (have hCb1 : Cells wb1 ⟨bb1, 0, none⟩ [_, _, _, _, _] := hBb1.cells) | have hCb1 := Blk.cellsL hBb1
    have hlb1 := hBb1.lt
    have hzb1 := eb1.size
    refine Ox.pure rfl rfl zas ?_
    refine Ox.fin ?_
    refine ztx ?_
    refine Ox.val rfl rfl zra ?_
    refine Ox.act rfl rfl (acts_call rfl rfl rfl (refFormed_at s _ (hin.ext0 zxc))) ?_
    rintro v11 w11 ⟨e11, rfl⟩
    have hz11 := e11.size
    first | rw [decide_eq_true hf] | rw [decide_eq_false hf]
    refine Ox.pure rfl rfl (rp_not rfl rfl) ?_
    refine Ox.pure rfl rfl zmv ?_
    first | (refine Ox.skip rfl rfl ?_) | (refine Ox.pure rfl rfl zfa ?_)
    first | (refine Ox.skip rfl rfl ?_) | (refine Ox.val rfl rfl zrs ?_)
    first | (refine Ox.skip rfl rfl ?_) | (refine Ox.act rfl rfl (acts_call rfl rfl rfl (ref_Check s.base s.p0 s.A0 s.c0 _ (hin.base.ext0 zxc))) ?_; rintro v12 w12 ⟨e12, rfl⟩; have hz12 := e12.size)
    first | (refine Ox.skip rfl rfl ?_) | (refine Ox.pure rfl rfl zbc ?_)
    refine Ox.pure rfl rfl zpk ?_
    refine Ox.fin ?_
    refine zct ?_
    refine ztx ?_
    refine Ox.pure rfl rfl zas ?_
    refine Ox.fin ?_
    refine zrt ?_
    exact endE_ret [_] ⟨rfl, trivial⟩ ⟨zxc, congrArg Value.bool (decide_eq_false (fun h => hf h.1)).symm⟩
  by_cases hck : checkL s.base = 0; rotate_left
  · refine ztx ?_
    refine Ox.act rfl rfl (acts_box rfl rfl) ?_
    rintro vb1 wb1 ⟨eb1, bb1, rfl, hbb1, hBb1⟩
    first | (have hCb1 : Cells wb1 ⟨bb1, 0, none⟩ [_, _, _, _, _] := hBb1.cells) | have hCb1 := Blk.cellsL hBb1
    have hlb1 := hBb1.lt
    have hzb1 := eb1.size
    refine Ox.pure rfl rfl zas ?_
    refine Ox.fin ?_
    refine ztx ?_
    refine Ox.val rfl rfl zra ?_
    refine Ox.act rfl rfl (acts_call rfl rfl rfl (refFormed_at s _ (hin.ext0 zxc))) ?_
    rintro v13 w13 ⟨e13, rfl⟩
    have hz13 := e13.size
    first | rw [decide_eq_true hf] | rw [decide_eq_false hf]
    refine Ox.pure rfl rfl (rp_not rfl rfl) ?_
    refine Ox.pure rfl rfl zmv ?_
    first | (refine Ox.skip rfl rfl ?_) | (refine Ox.pure rfl rfl zfa ?_)
    first | (refine Ox.skip rfl rfl ?_) | (refine Ox.val rfl rfl zrs ?_)
    first | (refine Ox.skip rfl rfl ?_) | (refine Ox.act rfl rfl (acts_call rfl rfl rfl (ref_Check s.base s.p0 s.A0 s.c0 _ (hin.base.ext0 zxc))) ?_; rintro v14 w14 ⟨e14, rfl⟩; have hz14 := e14.size)
    first | (refine Ox.skip rfl rfl ?_) | (refine Ox.pure rfl rfl zbc ?_)
    refine Ox.pure rfl rfl zpk ?_
    refine Ox.fin ?_
    refine zct ?_
    refine ztx ?_
    refine Ox.pure rfl rfl zas ?_
    refine Ox.fin ?_
    refine zrt ?_
    exact endE_ret [_] ⟨rfl, trivial⟩ ⟨zxc, congrArg Value.bool (decide_eq_false (fun h => hck h.2.1)).symm⟩
  refine ztx ?_
  refine Ox.act rfl rfl (acts_box rfl rfl) ?_
  rintro vb1 wb1 ⟨eb1, bb1, rfl, hbb1, hBb1⟩
  first | (have hCb1 : Cells wb1 ⟨bb1, 0, none⟩ [_, _, _, _, _] := hBb1.cells) | have hCb1 := Blk.cellsL hBb1
  have hlb1 := hBb1.lt
  have hzb1 := eb1.size
  refine Ox.pure rfl rfl zas ?_
  refine Ox.fin ?_
  refine ztx ?_
  refine Ox.val rfl rfl zra ?_
  refine Ox.act rfl rfl (acts_call rfl rfl rfl (refFormed_at s _ (hin.ext0 zxc))) ?_
  rintro v15 w15 ⟨e15, rfl⟩
  have hz15 := e15.size
  first | rw [decide_eq_true hf] | rw [decide_eq_false hf]
  refine Ox.pure rfl rfl (rp_not rfl rfl) ?_
  refine Ox.pure rfl rfl zmv ?_
  first | (refine Ox.skip rfl rfl ?_) | (refine Ox.pure rfl rfl zfa ?_)
  first | (refine Ox.skip rfl rfl ?_) | (refine Ox.val rfl rfl zrs ?_)
  first | (refine Ox.skip rfl rfl ?_) | (refine Ox.act rfl rfl (acts_call rfl rfl rfl (ref_Check s.base s.p0 s.A0 s.c0 _ (hin.base.ext0 zxc))) ?_; rintro v16 w16 ⟨e16, rfl⟩; have hz16 := e16.size)
  first | (refine Ox.skip rfl rfl ?_) | (refine Ox.pure rfl rfl zbc ?_)
  refine Ox.pure rfl rfl zpk ?_
  refine Ox.fin ?_
  refine zcf ?_
  refine zsk ?_
  refine ztx ?_
  refine Ox.pure rfl rfl zas ?_
  refine Ox.fin ?_
  refine zbl ?_
  refine Sx.loop (ι := Nat) (fun i E wk => E = [(1, .pointer (some ⟨bb1, 0, none⟩)), (3, .int .i64 (i : Int))] ∧ i ≤ s.bls.length ∧ Ext [] wb1 wk ∧ ∀ j : Nat, j < i → (ofB s.br (j : Int)).2 = 0) (fun i => s.bls.length - i) 0
    (sub_cons rfl (sub_cons rfl sub_nil)) ⟨rfl, Nat.zero_le _, zxc, fun j h => absurd h (Nat.not_lt_zero _)⟩ ?_
  rintro i E wk ⟨rfl, hi2, ek, hof⟩
  have hzk := ek.size
  by_cases hlt : i < s.bls.length
  · have hle : lenB s.br (i : Int) = s.bls[i].l.length := by unfold lenB; rw [if_neg (by omega)]; show (brB s.br i).length = _; rw [brB_eq hlt]
    have hw : ∀ u, Ext [] w u → Calls Try.prog 46 #[.agg (bvc s).toArray, .int .i64 (i : Int), .int .i64 (s.bls[i].l.length : Int)] u (Ret fun r w' => Ext [] u w' ∧ RRec w' r (ofB s.br (i : Int))) := fun u hu => by
      rw [← hle]; exact refOf_no s hf hck hsm (i : Int) (by omega) (by omega) u (hin.ext0 hu)
    by_cases hz5 : (ofB s.br (i : Int)).2 = 0
    · refine ztx ?_
      refine Ox.pure rfl rfl zmv ?_
      refine Ox.pure rfl rfl zfa ?_
      refine Ox.val rfl rfl zrs ?_
      refine Ox.pure rfl rfl (rp_lenS rfl rfl rfl) ?_
      refine Ox.pure rfl rfl zbc ?_
      refine Ox.fin ?_
      refine zct ?_
      refine zsk ?_
      refine zbl ?_
      (repeat refine Sx.seq ?_)
      refine Sx.walkR rfl (fun _ _ _ _ h => h) [0, 1, 2, 3, 4, 5, 6, 7, 8, 9, 10, 11, 12, 13] [0, 1, 2, 3, 4, 5, 6, 7, 9, 10, 11, 12, 13] (0) (by kernel_rfl) ?_
      intro hq w17 e17; have hz17 := e17.size
      refine Wx.val hq rfl rfl rfl rfl ([]) zra ?_
      refine Wx.pure hq rfl rfl rfl rfl zmv ?_
      refine Wx.pure hq rfl rfl rfl rfl zfa ?_
      refine Wx.val hq rfl rfl rfl rfl ([]) zrs ?_
      refine Wx.pure hq rfl rfl rfl rfl zmv ?_
      refine Wx.pure hq rfl rfl rfl rfl (rp_indexAddr i rfl rfl rfl rfl rfl hbp rfl hlt) ?_
      refine Wx.val hq rfl rfl rfl rfl ([]) (rv_load rfl rfl (fun u hu => ld_field blc_len (hbr.ext0 zxc) hlt 0 rfl (by decide) rfl)) ?_
      refine Wx.pure hq rfl rfl rfl rfl (rp_lenS rfl rfl rfl) ?_
      refine Wx.actNew rfl rfl rfl rfl (acts_call rfl rfl rfl (hw _ zxc)) ?_
      rintro v18 w18 e18 ⟨p5, A5, c5, rfl, hs5⟩
      have hz18 := e18.size
      refine Wx.pure hq rfl rfl rfl rfl zmv ?_
      refine Wx.pure hq rfl rfl rfl rfl (rp_extract rfl rfl rfl) ?_
      refine Wx.pure hq rfl rfl rfl rfl (rp_extract rfl rfl rfl) ?_
      refine Wx.pure hq rfl rfl rfl rfl zas ?_
      refine Wx.pure hq rfl rfl rfl rfl zas ?_
      refine Wx.fin ?_
      refine ztx ?_
      refine Ox.pure rfl rfl zmv ?_
      refine Ox.pure rfl rfl zbc ?_
      refine Ox.fin ?_
      refine zcf ?_
      refine zsk ?_
      refine ztx ?_
      refine Ox.pure rfl rfl zmv ?_
      refine Ox.pure rfl rfl zba ?_
      refine Ox.pure rfl rfl zas ?_
      refine Ox.fin ?_
      exact ⟨i + 1, _, sub_cons rfl (sub_cons rfl sub_nil), ⟨rfl, hlt, zxc, fun j hj => by
        rcases Nat.lt_or_ge j i with h | h
        · exact hof j h
        · obtain rfl : j = i := by omega
          exact hz5⟩, by omega⟩
    · refine ztx ?_
      refine Ox.pure rfl rfl zmv ?_
      refine Ox.pure rfl rfl zfa ?_
      refine Ox.val rfl rfl zrs ?_
      refine Ox.pure rfl rfl (rp_lenS rfl rfl rfl) ?_
      refine Ox.pure rfl rfl zbc ?_
      refine Ox.fin ?_
      refine zct ?_
      refine zsk ?_
      refine zbl ?_
      (repeat refine Sx.seq ?_)
      refine Sx.walkR rfl (fun _ _ _ _ h => h) [0, 1, 2, 3, 4, 5, 6, 7, 8, 9, 10, 11, 12, 13] [0, 1, 2, 3, 4, 5, 6, 7, 9, 10, 11, 12, 13] (0) (by kernel_rfl) ?_
      intro hq w19 e19; have hz19 := e19.size
      refine Wx.val hq rfl rfl rfl rfl ([]) zra ?_
      refine Wx.pure hq rfl rfl rfl rfl zmv ?_
      refine Wx.pure hq rfl rfl rfl rfl zfa ?_
      refine Wx.val hq rfl rfl rfl rfl ([]) zrs ?_
      refine Wx.pure hq rfl rfl rfl rfl zmv ?_
      refine Wx.pure hq rfl rfl rfl rfl (rp_indexAddr i rfl rfl rfl rfl rfl hbp rfl hlt) ?_
      refine Wx.val hq rfl rfl rfl rfl ([]) (rv_load rfl rfl (fun u hu => ld_field blc_len (hbr.ext0 zxc) hlt 0 rfl (by decide) rfl)) ?_
      refine Wx.pure hq rfl rfl rfl rfl (rp_lenS rfl rfl rfl) ?_
      refine Wx.actNew rfl rfl rfl rfl (acts_call rfl rfl rfl (hw _ zxc)) ?_
      rintro v20 w20 e20 ⟨p5, A5, c5, rfl, hs5⟩
      have hz20 := e20.size
      refine Wx.pure hq rfl rfl rfl rfl zmv ?_
      refine Wx.pure hq rfl rfl rfl rfl (rp_extract rfl rfl rfl) ?_
      refine Wx.pure hq rfl rfl rfl rfl (rp_extract rfl rfl rfl) ?_
      refine Wx.pure hq rfl rfl rfl rfl zas ?_
      refine Wx.pure hq rfl rfl rfl rfl zas ?_
      refine Wx.fin ?_
      refine ztx ?_
      refine Ox.pure rfl rfl zmv ?_
      refine Ox.pure rfl rfl zbc ?_
      refine Ox.fin ?_
      refine zct ?_
      refine ztx ?_
      refine Ox.pure rfl rfl zas ?_
      refine Ox.fin ?_
      refine zrt ?_
      exact endE_ret [_] ⟨rfl, trivial⟩ ⟨zxc, congrArg Value.bool (decide_eq_false (fun h => hz5 (h.2.2 i (by omega)))).symm⟩
  · refine ztx ?_
    refine Ox.pure rfl rfl zmv ?_
    refine Ox.pure rfl rfl zfa ?_
    refine Ox.val rfl rfl zrs ?_
    refine Ox.pure rfl rfl (rp_lenS rfl rfl rfl) ?_
    refine Ox.pure rfl rfl zbc ?_
    refine Ox.fin ?_
    refine zcf ?_
    refine zex ?_
    refine ztx ?_
    refine Ox.pure rfl rfl zas ?_
    refine Ox.fin ?_
    refine zrt ?_
    exact endE_ret [_] ⟨rfl, trivial⟩ ⟨zxc, congrArg Value.bool (decide_eq_true (⟨hf, hck, fun j hj => hof j (by omega)⟩ : ValidB s.br)).symm⟩

theorem refNew_at (l : List Fct) (p : Option Addr) (A : Addr) (c : Nat) (w : World) (hs : SlV fc w p A l c) :
    Calls Try.prog 13 #[.slice p l.length c] w (Ret fun r w' => Ext [] w w' ∧ ∃ v, r = .tuple #[v, .int .i64 (newB l).2] ∧ RBr w.heap.size w' v (newB l).1) := by
  refine calls_of_Sx (args := [.slice p l.length c]) Try.func13 rfl rfl ?_
  by_cases h0 : checkL l = 0
  · have he : newB l = (⟨l, [], [], [], []⟩, 0) := if_neg (fun h => h h0)
    refine ztx ?_
    refine Ox.act rfl rfl (acts_alloc rfl rfl) ?_
    rintro vb2 wb2 ⟨eb2, bb2, rfl, hbb2, hBb2⟩
    first | (have hCb2 : Cells wb2 ⟨bb2, 0, none⟩ [_, _, _, _, _] := hBb2.cells) | have hCb2 := Blk.cellsL hBb2
    have hlb2 := hBb2.lt
    have hzb2 := eb2.size
    refine Ox.pure rfl rfl zas ?_
    refine Ox.fin ?_
    refine ztx ?_
    refine Ox.pure rfl rfl zmv ?_
    refine Ox.act rfl rfl (acts_call rfl rfl rfl (ref_Check l p A c _ (hs.ext0 zxc))) ?_
    rintro v21 w21 ⟨e21, rfl⟩
    have hz21 := e21.size
    refine Ox.pure rfl rfl zas ?_
    refine Ox.fin ?_
    refine ztx ?_
    refine Ox.pure rfl rfl zmv ?_
    refine Ox.pure rfl rfl zbc ?_
    refine Ox.fin ?_
    refine zcf ?_
    refine zsk ?_
    refine ztx ?_
    refine Ox.pure rfl rfl zmv ?_
    refine Ox.pure rfl rfl (rp_buildS (ps := [(0, .tmp 11)]) rfl rfl rfl rfl rfl) ?_
    refine Ox.act rfl rfl (acts_store_all rfl rfl rfl (hBb2.ext (X := []) zxc (by simp)) rfl rfl rfl (by (first | assumption | exact List.all_eq_true.mp rfl | simp [Value.cells, Value.oneCell']))) ?_
    rintro vs4 ws4 ⟨rfl, qs4, hBs4⟩
    have es4 : Ext [] w ws4 := Ext.renew zxc qs4 (by omega)
    refine Ox.pure rfl rfl zas ?_
    refine Ox.fin ?_
    refine zrt ?_
    exact endE_ret [.agg #[.slice p l.length c, .slice none 0 0, .slice none 0 0, .slice none 0 0, .slice none 0 0], .int .i64 0] ⟨⟨⟨bb2, 0, none⟩, rfl, hBs4.cellsL.ldA rfl rfl⟩, rfl, trivial⟩ ⟨zxc, _, by rw [he]; rfl, by rw [he]; exact ⟨⟨l, p, A, c, [], none, ⟨0, 0, none⟩, 0, [], none, ⟨0, 0, none⟩, 0, [], none, ⟨0, 0, none⟩, 0, [], none, ⟨0, 0, none⟩, 0⟩, rfl, ⟨hs.ext0 zxc, SlV.nil _ _, fun x h => (by cases h), SlV.nil _ _, SlV.nil _ _, SlV.nil _ _⟩, rfl, fun h => absurd h (by simp)⟩⟩
  · have he : newB l = (Br0, checkL l) := if_pos h0
    refine ztx ?_
    refine Ox.act rfl rfl (acts_alloc rfl rfl) ?_
    rintro vb2 wb2 ⟨eb2, bb2, rfl, hbb2, hBb2⟩
    first | (have hCb2 : Cells wb2 ⟨bb2, 0, none⟩ [_, _, _, _, _] := hBb2.cells) | have hCb2 := Blk.cellsL hBb2
    have hlb2 := hBb2.lt
    have hzb2 := eb2.size
    refine Ox.pure rfl rfl zas ?_
    refine Ox.fin ?_
    refine ztx ?_
    refine Ox.pure rfl rfl zmv ?_
    refine Ox.act rfl rfl (acts_call rfl rfl rfl (ref_Check l p A c _ (hs.ext0 zxc))) ?_
    rintro v22 w22 ⟨e22, rfl⟩
    have hz22 := e22.size
    refine Ox.pure rfl rfl zas ?_
    refine Ox.fin ?_
    refine ztx ?_
    refine Ox.pure rfl rfl zmv ?_
    refine Ox.pure rfl rfl zbc ?_
    refine Ox.fin ?_
    refine zct ?_
    refine ztx ?_
    refine Ox.pure rfl rfl (rp_buildS (ps := []) rfl rfl rfl rfl rfl) ?_
    refine Ox.pure rfl rfl zmv ?_
    refine Ox.act rfl rfl (acts_store_all rfl rfl rfl (hBb2.ext (X := []) zxc (by simp)) rfl rfl rfl (bvc_one Bs0)) ?_
    rintro vs3 ws3 ⟨rfl, qs3, hBs3⟩
    have es3 : Ext [] w ws3 := Ext.renew zxc qs3 (by omega)
    refine Ox.pure rfl rfl zas ?_
    refine Ox.fin ?_
    refine zrt ?_
    exact endE_ret [.agg (bvc Bs0).toArray, .int .i64 (checkL l)] ⟨⟨⟨bb2, 0, none⟩, rfl, hBs3.cellsL.ldA rfl rfl⟩, rfl, trivial⟩ ⟨zxc, _, by rw [he]; rfl, by rw [he]; exact RBr.zero _ _⟩

theorem refFacts_br (s : Bs) (hsm : Small s) (no : Int) (w : World) (hin : BsIn s w) :
    Calls Try.prog 20 #[.agg (bvc s).toArray, .int .i64 no] w (Ret fun r w' => Ext [] w w' ∧ RRec w' r (factsB s.br no)) := by
  have hbl := br_len s
  have hbf := hin.bls.few
  refine calls_of_Sx (args := [.agg (bvc s).toArray, .int .i64 no]) Try.func20 rfl rfl ?_
  by_cases hv : ValidB s.br; rotate_left
  · have he : factsB s.br no = ([], 540) := if_pos hv
    refine ztx ?_
    refine Ox.act rfl rfl (acts_box rfl rfl) ?_
    rintro vb2 wb2 ⟨eb2, bb2, rfl, hbb2, hBb2⟩
    first | (have hCb2 : Cells wb2 ⟨bb2, 0, none⟩ [_, _, _, _, _] := hBb2.cells) | have hCb2 := Blk.cellsL hBb2
    have hlb2 := hBb2.lt
    have hzb2 := eb2.size
    refine Ox.pure rfl rfl zas ?_
    refine Ox.pure rfl rfl zas ?_
    refine Ox.fin ?_
    refine ztx ?_
    refine Ox.val rfl rfl zra ?_
    refine Ox.act rfl rfl (acts_call rfl rfl rfl (refValid_br s hsm _ (hin.ext0 zxc))) ?_
    rintro v23 w23 ⟨e23, rfl⟩
    have hz23 := e23.size
    first | rw [decide_eq_true hv] | rw [decide_eq_false hv]
    refine Ox.pure rfl rfl (rp_not rfl rfl) ?_
    refine Ox.fin ?_
    refine zct ?_
    refine ztx ?_
    refine Ox.pure rfl rfl zas ?_
    refine Ox.pure rfl rfl zas ?_
    refine Ox.fin ?_
    refine zrt ?_
    exact endE_ret [.slice none 0 0, .int .i64 540] ⟨rfl, rfl, trivial⟩ ⟨zxc, by rw [he]; exact ⟨none, ⟨0, 0, none⟩, 0, rfl, SlV.nil _ _⟩⟩
  by_cases hch1 : -1 ≤ no; rotate_left
  ·   have he : factsB s.br no = ([], 1) := (if_neg (fun h => h hv)).trans (if_pos (by omega))
      refine ztx ?_
      refine Ox.act rfl rfl (acts_box rfl rfl) ?_
      rintro vb2 wb2 ⟨eb2, bb2, rfl, hbb2, hBb2⟩
      first | (have hCb2 : Cells wb2 ⟨bb2, 0, none⟩ [_, _, _, _, _] := hBb2.cells) | have hCb2 := Blk.cellsL hBb2
      have hlb2 := hBb2.lt
      have hzb2 := eb2.size
      refine Ox.pure rfl rfl zas ?_
      refine Ox.pure rfl rfl zas ?_
      refine Ox.fin ?_
      refine ztx ?_
      refine Ox.val rfl rfl zra ?_
      refine Ox.act rfl rfl (acts_call rfl rfl rfl (refValid_br s hsm _ (hin.ext0 zxc))) ?_
      rintro v24 w24 ⟨e24, rfl⟩
      have hz24 := e24.size
      first | rw [decide_eq_true hv] | rw [decide_eq_false hv]
      refine Ox.pure rfl rfl (rp_not rfl rfl) ?_
      refine Ox.fin ?_
      refine zcf ?_
      refine zsk ?_
      refine ztx ?_
      refine Ox.pure rfl rfl zmv ?_
      refine Ox.pure rfl rfl zbc ?_
      refine Ox.pure rfl rfl zmv ?_
      first | (refine Ox.skip rfl rfl ?_) | (refine Ox.pure rfl rfl zmv ?_)
      first | (refine Ox.skip rfl rfl ?_) | (refine Ox.pure rfl rfl zfa ?_)
      first | (refine Ox.skip rfl rfl ?_) | (refine Ox.val rfl rfl zrs ?_)
      first | (refine Ox.skip rfl rfl ?_) | (refine Ox.pure rfl rfl (rp_lenS rfl rfl rfl) ?_)
      first | (refine Ox.skip rfl rfl ?_) | (refine Ox.pure rfl rfl zbc ?_)
      refine Ox.pure rfl rfl zpk ?_
      refine Ox.fin ?_
      refine zct ?_
      refine ztx ?_
      refine Ox.pure rfl rfl zas ?_
      refine Ox.pure rfl rfl zas ?_
      refine Ox.fin ?_
      refine zrt ?_
      exact endE_ret [.slice none 0 0, .int .i64 1] ⟨rfl, rfl, trivial⟩ ⟨zxc, by rw [he]; exact ⟨none, ⟨0, 0, none⟩, 0, rfl, SlV.nil _ _⟩⟩
  by_cases hch2 : no < (s.bls.length : Int); rotate_left
  ·   have he : factsB s.br no = ([], 1) := (if_neg (fun h => h hv)).trans (if_pos (by omega))
      refine ztx ?_
      refine Ox.act rfl rfl (acts_box rfl rfl) ?_
      rintro vb2 wb2 ⟨eb2, bb2, rfl, hbb2, hBb2⟩
      first | (have hCb2 : Cells wb2 ⟨bb2, 0, none⟩ [_, _, _, _, _] := hBb2.cells) | have hCb2 := Blk.cellsL hBb2
      have hlb2 := hBb2.lt
      have hzb2 := eb2.size
      refine Ox.pure rfl rfl zas ?_
      refine Ox.pure rfl rfl zas ?_
      refine Ox.fin ?_
      refine ztx ?_
      refine Ox.val rfl rfl zra ?_
      refine Ox.act rfl rfl (acts_call rfl rfl rfl (refValid_br s hsm _ (hin.ext0 zxc))) ?_
      rintro v25 w25 ⟨e25, rfl⟩
      have hz25 := e25.size
      first | rw [decide_eq_true hv] | rw [decide_eq_false hv]
      refine Ox.pure rfl rfl (rp_not rfl rfl) ?_
      refine Ox.fin ?_
      refine zcf ?_
      refine zsk ?_
      refine ztx ?_
      refine Ox.pure rfl rfl zmv ?_
      refine Ox.pure rfl rfl zbc ?_
      refine Ox.pure rfl rfl zmv ?_
      first | (refine Ox.skip rfl rfl ?_) | (refine Ox.pure rfl rfl zmv ?_)
      first | (refine Ox.skip rfl rfl ?_) | (refine Ox.pure rfl rfl zfa ?_)
      first | (refine Ox.skip rfl rfl ?_) | (refine Ox.val rfl rfl zrs ?_)
      first | (refine Ox.skip rfl rfl ?_) | (refine Ox.pure rfl rfl (rp_lenS rfl rfl rfl) ?_)
      first | (refine Ox.skip rfl rfl ?_) | (refine Ox.pure rfl rfl zbc ?_)
      refine Ox.pure rfl rfl zpk ?_
      refine Ox.fin ?_
      refine zct ?_
      refine ztx ?_
      refine Ox.pure rfl rfl zas ?_
      refine Ox.pure rfl rfl zas ?_
      refine Ox.fin ?_
      refine zrt ?_
      exact endE_ret [.slice none 0 0, .int .i64 1] ⟨rfl, rfl, trivial⟩ ⟨zxc, by rw [he]; exact ⟨none, ⟨0, 0, none⟩, 0, rfl, SlV.nil _ _⟩⟩
  have he : factsB s.br no = ofB s.br no := (if_neg (fun h => h hv)).trans (if_neg (by omega))
  refine ztx ?_
  refine Ox.act rfl rfl (acts_box rfl rfl) ?_
  rintro vb2 wb2 ⟨eb2, bb2, rfl, hbb2, hBb2⟩
  first | (have hCb2 : Cells wb2 ⟨bb2, 0, none⟩ [_, _, _, _, _] := hBb2.cells) | have hCb2 := Blk.cellsL hBb2
  have hlb2 := hBb2.lt
  have hzb2 := eb2.size
  refine Ox.pure rfl rfl zas ?_
  refine Ox.pure rfl rfl zas ?_
  refine Ox.fin ?_
  refine ztx ?_
  refine Ox.val rfl rfl zra ?_
  refine Ox.act rfl rfl (acts_call rfl rfl rfl (refValid_br s hsm _ (hin.ext0 zxc))) ?_
  rintro v26 w26 ⟨e26, rfl⟩
  have hz26 := e26.size
  first | rw [decide_eq_true hv] | rw [decide_eq_false hv]
  refine Ox.pure rfl rfl (rp_not rfl rfl) ?_
  refine Ox.fin ?_
  refine zcf ?_
  refine zsk ?_
  refine ztx ?_
  refine Ox.pure rfl rfl zmv ?_
  refine Ox.pure rfl rfl zbc ?_
  refine Ox.pure rfl rfl zmv ?_
  first | (refine Ox.skip rfl rfl ?_) | (refine Ox.pure rfl rfl zmv ?_)
  first | (refine Ox.skip rfl rfl ?_) | (refine Ox.pure rfl rfl zfa ?_)
  first | (refine Ox.skip rfl rfl ?_) | (refine Ox.val rfl rfl zrs ?_)
  first | (refine Ox.skip rfl rfl ?_) | (refine Ox.pure rfl rfl (rp_lenS rfl rfl rfl) ?_)
  first | (refine Ox.skip rfl rfl ?_) | (refine Ox.pure rfl rfl zbc ?_)
  refine Ox.pure rfl rfl zpk ?_
  refine Ox.fin ?_
  refine zcf ?_
  refine zsk ?_
  (repeat refine Sx.seq ?_)
  refine Sx.walkR rfl (fun _ _ _ _ h => h) [0, 1, 2, 3, 4, 5, 6, 7, 8, 9] [0, 1, 2, 3, 6, 7, 8, 9] (0) (by kernel_rfl) ?_
  intro hq w27 e27; have hz27 := e27.size
  refine Wx.val hq rfl rfl rfl rfl ([]) zra ?_
  refine Wx.pure hq rfl rfl rfl rfl zmv ?_
  refine Wx.val hq rfl rfl rfl rfl ([]) zra ?_
  refine Wx.pure hq rfl rfl rfl rfl zmv ?_
  refine Wx.actNew rfl rfl rfl rfl (acts_call rfl rfl rfl (length_at_r s no _ (hin.ext0 zxc) (by assumption))) ?_
  rintro v28 w28 e28 rfl
  have hz28 := e28.size
  refine Wx.actNew rfl rfl rfl rfl (acts_call rfl rfl rfl (refOf_no s hv.1 hv.2.1 hsm no (by assumption) (by assumption) _ (hin.ext0 zxc))) ?_
  rintro v29 w29 e29 ⟨p5, A5, c5, rfl, hs5⟩
  have hz29 := e29.size
  refine Wx.pure hq rfl rfl rfl rfl (rp_extract rfl rfl rfl) ?_
  refine Wx.pure hq rfl rfl rfl rfl (rp_extract rfl rfl rfl) ?_
  refine Wx.pure hq rfl rfl rfl rfl zas ?_
  refine Wx.pure hq rfl rfl rfl rfl zas ?_
  refine Wx.fin ?_
  refine zrt ?_
  exact endE_ret [.slice p5 (ofB s.br no).1.length c5, .int .i64 (ofB s.br no).2] ⟨rfl, rfl, trivial⟩ ⟨zxc, by rw [he]; exact ⟨p5, A5, c5, rfl, hs5.ext0 zxc⟩⟩

end Go.Proofs.Ytfgckcochilpkaa

/- Branches' walks: the reference's Drop, Fork, Change. -/
set_option linter.unusedVariables false
set_option maxRecDepth 100000
set_option maxHeartbeats 4000000
set_option linter.unusedSimpArgs false
namespace Go.Proofs.Ytfgckcochilpkaa
open Go Go.Eng

theorem BsOwn.ext0 {base : Nat} {s : Bs} {w w' : World} (h : BsOwn base s w) (he : Ext [] w w') : BsOwn base s w' :=
  ⟨h.in_.ext0 he, own_keep0 h.obls he, own_keep0 h.opar he, own_keep0 h.ofks he, own_keep0 h.odone he, h.apart⟩
/-- Another variable is written. -/
theorem OB.other {b b' base : Nat} {s : Bs} {w w' : World} {cs : List Value} (h : OB b base s w) (hB : Blk w b' 27 cs) (hq : Ext [b'] w w') (hne : b ≠ b') : OB b base s w' :=
  ⟨h.blk.ext hq (by simpa using hne), own_keep h.o1 hq (own_ne h.o1 hB (by decide)), own_keep h.o2 hq (own_ne h.o2 hB (by decide)), own_keep h.o3 hq (own_ne h.o3 hB (by decide)), own_keep h.o4 hq (own_ne h.o4 hB (by decide)), h.apart⟩
theorem refDrop_at (s : Bs) (hsm : Small s) (hfw : Few s) (no : Int) (w : World) (hin : BsIn s w) :
    Calls Try.prog 25 #[.agg (bvc s).toArray, .int .i64 no] w (Ret fun r w' => Ext [] w w' ∧ ∃ v, r = .tuple #[v, .int .i64 (dropB s.br no).2] ∧ RBr w.heap.size w' v (dropB s.br no).1) := by
  have hbl := br_len s
  refine calls_of_Sx (args := [.agg (bvc s).toArray, .int .i64 no]) Try.func25 rfl rfl ?_
  by_cases hv : ValidB s.br; rotate_left
  · have he : dropB s.br no = (Br0, 540) := if_pos hv
    refine ztx ?_
    refine Ox.act rfl rfl (acts_box rfl rfl) ?_
    rintro vb2 wb2 ⟨eb2, bb2, rfl, hbb2, hBb2⟩
    first | (have hCb2 : Cells wb2 ⟨bb2, 0, none⟩ [_, _, _, _, _] := hBb2.cells) | have hCb2 := Blk.cellsL hBb2
    have hlb2 := hBb2.lt
    have hzb2 := eb2.size
    refine Ox.act rfl rfl (acts_alloc rfl rfl) ?_
    rintro vb4 wb4 ⟨eb4, bb4, rfl, hbb4, hBb4⟩
    first | (have hCb4 : Cells wb4 ⟨bb4, 0, none⟩ [_, _, _, _, _] := hBb4.cells) | have hCb4 := Blk.cellsL hBb4
    have hlb4 := hBb4.lt
    have hzb4 := eb4.size
    refine Ox.pure rfl rfl zas ?_
    refine Ox.fin ?_
    refine ztx ?_
    refine Ox.val rfl rfl zra ?_
    refine Ox.act rfl rfl (acts_call rfl rfl rfl (refValid_br s hsm _ (hin.ext0 zxc))) ?_
    rintro v1 w1 ⟨e1, rfl⟩
    have hz1 := e1.size
    first | rw [decide_eq_true hv] | rw [decide_eq_false hv]
    refine Ox.pure rfl rfl (rp_not rfl rfl) ?_
    refine Ox.fin ?_
    refine zct ?_
    refine ztx ?_
    refine Ox.pure rfl rfl (rp_buildS (ps := []) rfl rfl rfl rfl rfl) ?_
    refine Ox.act rfl rfl (acts_store_all rfl rfl rfl (hBb4.ext (X := []) zxc (by simp)) rfl rfl rfl (bvc_one Bs0)) ?_
    rintro vs2 ws2 ⟨rfl, qs2, hBs2⟩
    have es2 : Ext [] w ws2 := Ext.renew zxc qs2 (by omega)
    refine Ox.pure rfl rfl zas ?_
    refine Ox.fin ?_
    refine zrt ?_
    exact endE_ret [.agg (bvc Bs0).toArray, .int .i64 540] ⟨⟨⟨bb4, 0, none⟩, rfl, hBs2.cellsL.ldA rfl rfl⟩, rfl, trivial⟩ ⟨zxc, _, by rw [he]; rfl, by rw [he]; exact RBr.zero _ _⟩
  have hdl : s.done.length = s.bls.length := by have : s.done.length = s.br.brs.length := hv.1.2.2.2.1; omega
  by_cases ho : OpenB s.br no; rotate_left
  · have he : dropB s.br no = (Br0, 1) := (if_neg (fun h => h hv)).trans (if_pos ho)
    refine ztx ?_
    refine Ox.act rfl rfl (acts_box rfl rfl) ?_
    rintro vb2 wb2 ⟨eb2, bb2, rfl, hbb2, hBb2⟩
    first | (have hCb2 : Cells wb2 ⟨bb2, 0, none⟩ [_, _, _, _, _] := hBb2.cells) | have hCb2 := Blk.cellsL hBb2
    have hlb2 := hBb2.lt
    have hzb2 := eb2.size
    refine Ox.act rfl rfl (acts_alloc rfl rfl) ?_
    rintro vb4 wb4 ⟨eb4, bb4, rfl, hbb4, hBb4⟩
    first | (have hCb4 : Cells wb4 ⟨bb4, 0, none⟩ [_, _, _, _, _] := hBb4.cells) | have hCb4 := Blk.cellsL hBb4
    have hlb4 := hBb4.lt
    have hzb4 := eb4.size
    refine Ox.pure rfl rfl zas ?_
    refine Ox.fin ?_
    refine ztx ?_
    refine Ox.val rfl rfl zra ?_
    refine Ox.act rfl rfl (acts_call rfl rfl rfl (refValid_br s hsm _ (hin.ext0 zxc))) ?_
    rintro v2 w2 ⟨e2, rfl⟩
    have hz2 := e2.size
    first | rw [decide_eq_true hv] | rw [decide_eq_false hv]
    refine Ox.pure rfl rfl (rp_not rfl rfl) ?_
    refine Ox.fin ?_
    refine zcf ?_
    refine zsk ?_
    refine ztx ?_
    refine Ox.val rfl rfl zra ?_
    refine Ox.pure rfl rfl zmv ?_
    refine Ox.act rfl rfl (acts_call rfl rfl rfl (open_at_r s no _ (hin.ext0 zxc) hdl)) ?_
    rintro v3 w3 ⟨e3, rfl⟩
    have hz3 := e3.size
    first | rw [decide_eq_true ho] | rw [decide_eq_false ho]
    refine Ox.pure rfl rfl (rp_not rfl rfl) ?_
    refine Ox.fin ?_
    refine zct ?_
    refine ztx ?_
    refine Ox.pure rfl rfl (rp_buildS (ps := []) rfl rfl rfl rfl rfl) ?_
    refine Ox.act rfl rfl (acts_store_all rfl rfl rfl (hBb4.ext (X := []) zxc (by simp)) rfl rfl rfl (bvc_one Bs0)) ?_
    rintro vs4 ws4 ⟨rfl, qs4, hBs4⟩
    have es4 : Ext [] w ws4 := Ext.renew zxc qs4 (by omega)
    refine Ox.pure rfl rfl zas ?_
    refine Ox.fin ?_
    refine zrt ?_
    exact endE_ret [.agg (bvc Bs0).toArray, .int .i64 1] ⟨⟨⟨bb4, 0, none⟩, rfl, hBs4.cellsL.ldA rfl rfl⟩, rfl, trivial⟩ ⟨zxc, _, by rw [he]; rfl, by rw [he]; exact RBr.zero _ _⟩
  have he : dropB s.br no = (⟨s.br.base, s.br.brs, s.br.par, s.br.fks, s.br.done.set no.toNat true⟩, 0) := (if_neg (fun h => h hv)).trans (if_neg (fun h => h ho))
  obtain ⟨o1, o2, _⟩ := id ho
  refine ztx ?_
  refine Ox.act rfl rfl (acts_box rfl rfl) ?_
  rintro vb2 wb2 ⟨eb2, bb2, rfl, hbb2, hBb2⟩
  first | (have hCb2 : Cells wb2 ⟨bb2, 0, none⟩ [_, _, _, _, _] := hBb2.cells) | have hCb2 := Blk.cellsL hBb2
  have hlb2 := hBb2.lt
  have hzb2 := eb2.size
  refine Ox.act rfl rfl (acts_alloc rfl rfl) ?_
  rintro vb4 wb4 ⟨eb4, bb4, rfl, hbb4, hBb4⟩
  first | (have hCb4 : Cells wb4 ⟨bb4, 0, none⟩ [_, _, _, _, _] := hBb4.cells) | have hCb4 := Blk.cellsL hBb4
  have hlb4 := hBb4.lt
  have hzb4 := eb4.size
  refine Ox.pure rfl rfl zas ?_
  refine Ox.fin ?_
  refine ztx ?_
  refine Ox.val rfl rfl zra ?_
  refine Ox.act rfl rfl (acts_call rfl rfl rfl (refValid_br s hsm _ (hin.ext0 zxc))) ?_
  rintro v4 w4 ⟨e4, rfl⟩
  have hz4 := e4.size
  first | rw [decide_eq_true hv] | rw [decide_eq_false hv]
  refine Ox.pure rfl rfl (rp_not rfl rfl) ?_
  refine Ox.fin ?_
  refine zcf ?_
  refine zsk ?_
  refine ztx ?_
  refine Ox.val rfl rfl zra ?_
  refine Ox.pure rfl rfl zmv ?_
  refine Ox.act rfl rfl (acts_call rfl rfl rfl (open_at_r s no _ (hin.ext0 zxc) hdl)) ?_
  rintro v5 w5 ⟨e5, rfl⟩
  have hz5 := e5.size
  first | rw [decide_eq_true ho] | rw [decide_eq_false ho]
  refine Ox.pure rfl rfl (rp_not rfl rfl) ?_
  refine Ox.fin ?_
  refine zcf ?_
  refine zsk ?_
  refine ztx ?_
  refine Ox.val rfl rfl zra ?_
  refine Ox.act rfl rfl (acts_call rfl rfl rfl (refCopied_at s hfw _ (hin.ext0 zxc))) ?_
  rintro vu5 wu5 ⟨eu5, s', rfl, hbr', hbls, htr, hO⟩
  have hzu5 := eu5.size
  have hzu5 := eu5.size
  refine Ox.act rfl rfl (acts_alloc rfl rfl) ?_
  rintro vb6 wb6 ⟨eb6, bb6, rfl, hbb6, hBb6⟩
  first | (have hCb6 : Cells wb6 ⟨bb6, 0, none⟩ [_, _, _, _, _] := hBb6.cells) | have hCb6 := Blk.cellsL hBb6
  have hlb6 := hBb6.lt
  have hzb6 := eb6.size
  refine Ox.act rfl rfl (acts_store_all rfl rfl rfl hBb6 rfl rfl rfl (bvc_one s')) ?_
  rintro vs5 ws5 ⟨rfl, qs5, hBs5⟩
  have es5 : Ext [] wb4 ws5 := (show Ext [] wb4 wu5 from zxc).trans (Ext.renew eb6 qs5 hbb6)
  have hzs5 := es5.size
  have hys5 := qs5.size
  have hxs5 := eb6.size
  have hO5 := OB.put (hO.ext0 eb6) hBb6 qs5 hBs5
  have hCs5 := hO5.cells
  have hd' : s'.done = s.done := congrArg Br.done hbr'
  have hp' : s'.par = s.par := congrArg Br.par hbr'
  have hf' : s'.fks = s.fks := congrArg Br.fks hbr'
  have hw1 : s'.bls.length ≤ 1000 := by rw [hbls]; exact hfw.bls
  have hw2 : s'.par.length ≤ 1000 := by rw [hp']; exact hfw.par
  have hw3 : s'.fks.length ≤ 1000 := by rw [hf']; exact hfw.fks
  have hw4 : s'.done.length ≤ 1000 := by rw [hd']; exact hfw.done
  have hid : no.toNat < s'.done.length := by rw [hd']; omega
  have hdt := hO.in_.done.ptr
  refine Ox.fin ?_
  refine ztx ?_
  refine Ox.pure rfl rfl zfa ?_
  refine Ox.val rfl rfl zrs ?_
  refine Ox.pure rfl rfl zmv ?_
  refine Ox.pure rfl rfl (rp_indexAddr no.toNat rfl rfl rfl rfl rfl hdt (by omega) hid) ?_
  refine Ox.act rfl rfl (acts_store_own (enc := boc) boc_len true rfl rfl rfl rfl rfl hO5.o4 hdt hid (boc_one true)) ?_
  rintro vs6 ws6 ⟨rfl, qs6, hos6⟩
  have hO6 := OB.set4 hO5 qs6 hos6
  have es6 : Ext [] wb4 ws6 := OB.step (v := Value.slice s'.p4 s'.done.length s'.c4) es5 qs6 hO5.o4 (by omega)
  have hzs6 := es6.size
  have hCs6 := hO6.cells
  refine Ox.fin ?_
  refine ztx ?_
  refine Ox.val rfl rfl zra ?_
  refine Ox.act rfl rfl (acts_store_all rfl rfl rfl (hBb4.ext (X := []) zxc (by simp)) rfl rfl rfl (bvc_one _)) ?_
  rintro vsz wsz ⟨rfl, qsz, hBsz⟩
  have esz : Ext [] w wsz := Ext.renew zxc qsz (by omega)
  have hOz := hO6.other (hBb4.ext (X := []) zxc (by simp)) qsz (by have := hBb4.lt; omega)
  refine Ox.pure rfl rfl zas ?_
  refine Ox.fin ?_
  refine zrt ?_
  have hres := hOz.res ⟨hw1, hw2, hw3, by simpa using hw4⟩ (htr _ (hin.base.ext0 zxc)) (fun x hx => by
    have h9 : x ∈ s.bls := by rw [← hbls]; exact hx
    exact (hin.sub x h9).imp fun _ h9 => h9.ext0 zxc)
  refine endE_ret [.agg (bvc _).toArray, .int .i64 0] ⟨⟨⟨bb4, 0, none⟩, rfl, hBsz.cellsL.ldA rfl rfl⟩, rfl, trivial⟩ ⟨zxc, _, by rw [he]; rfl, ?_⟩
  obtain ⟨s9, e9, h9, e8, z9⟩ := hres
  refine ⟨s9, e9, h9, e8.trans ?_, fun h => Nat.le_trans (by omega) (z9 h)⟩
  rw [he]
  show Br.mk s'.base (s'.bls.map Bl.l) s'.par s'.fks (s'.done.set no.toNat true) = _
  rw [show s'.base = s.br.base from congrArg Br.base hbr', show s'.bls.map Bl.l = s.br.brs from congrArg Br.brs hbr', show s'.par = s.br.par from congrArg Br.par hbr', show s'.fks = s.br.fks from congrArg Br.fks hbr', show s'.done = s.br.done from congrArg Br.done hbr']

theorem refFork_at (s : Bs) (hsm : Small s) (hfw : Few s) (no : Int) (w : World) (hin : BsIn s w) :
    Calls Try.prog 15 #[.agg (bvc s).toArray, .int .i64 no] w (Ret fun r w' => Ext [] w w' ∧ ∃ v, r = .tuple #[v, .int .i64 (forkB s.br no).2.1, .int .i64 (forkB s.br no).2.2] ∧ RBr w.heap.size w' v (forkB s.br no).1) := by
  have hbl := br_len s
  have hbf := hin.bls.few
  refine calls_of_Sx (args := [.agg (bvc s).toArray, .int .i64 no]) Try.func15 rfl rfl ?_
  by_cases hv : ValidB s.br; rotate_left
  · have he : forkB s.br no = (Br0, 0, 540) := if_pos hv
    refine ztx ?_
    refine Ox.act rfl rfl (acts_box rfl rfl) ?_
    rintro vb2 wb2 ⟨eb2, bb2, rfl, hbb2, hBb2⟩
    first | (have hCb2 : Cells wb2 ⟨bb2, 0, none⟩ [_, _, _, _, _] := hBb2.cells) | have hCb2 := Blk.cellsL hBb2
    have hlb2 := hBb2.lt
    have hzb2 := eb2.size
    refine Ox.act rfl rfl (acts_alloc rfl rfl) ?_
    rintro vb4 wb4 ⟨eb4, bb4, rfl, hbb4, hBb4⟩
    first | (have hCb4 : Cells wb4 ⟨bb4, 0, none⟩ [_, _, _, _, _] := hBb4.cells) | have hCb4 := Blk.cellsL hBb4
    have hlb4 := hBb4.lt
    have hzb4 := eb4.size
    refine Ox.pure rfl rfl zas ?_
    refine Ox.pure rfl rfl zas ?_
    refine Ox.fin ?_
    refine ztx ?_
    refine Ox.val rfl rfl zra ?_
    refine Ox.act rfl rfl (acts_call rfl rfl rfl (refValid_br s hsm _ (hin.ext0 zxc))) ?_
    rintro vv1 wv1 ⟨ev1, rfl⟩
    have hzv1 := ev1.size
    first | rw [decide_eq_true hv] | rw [decide_eq_false hv]
    refine Ox.pure rfl rfl (rp_not rfl rfl) ?_
    refine Ox.fin ?_
    refine zct ?_
    refine ztx ?_
    refine Ox.pure rfl rfl (rp_buildS (ps := []) rfl rfl rfl rfl rfl) ?_
    refine Ox.act rfl rfl (acts_store_all rfl rfl rfl (hBb4.ext (X := []) zxc (by simp)) rfl rfl rfl (bvc_one Bs0)) ?_
    rintro vs2 ws2 ⟨rfl, qs2, hBs2⟩
    have es2 : Ext [] w ws2 := Ext.renew zxc qs2 (by omega)
    refine Ox.pure rfl rfl zas ?_
    refine Ox.pure rfl rfl zas ?_
    refine Ox.fin ?_
    refine zrt ?_
    exact endE_ret [.agg (bvc Bs0).toArray, .int .i64 0, .int .i64 540] ⟨⟨⟨bb4, 0, none⟩, rfl, hBs2.cellsL.ldA rfl rfl⟩, rfl, rfl, trivial⟩ ⟨zxc, _, by rw [he]; rfl, by rw [he]; exact RBr.zero _ _⟩
  have hdl : s.done.length = s.bls.length := by have : s.done.length = s.br.brs.length := hv.1.2.2.2.1; omega
  by_cases hp : no ≠ -1 ∧ ¬ OpenB s.br no
  · have ho := hp.2
    have hm := hp.1
    have he : forkB s.br no = (Br0, 0, 1) := (if_neg (fun h => h hv)).trans (if_pos hp)
    refine ztx ?_
    refine Ox.act rfl rfl (acts_box rfl rfl) ?_
    rintro vb2 wb2 ⟨eb2, bb2, rfl, hbb2, hBb2⟩
    first | (have hCb2 : Cells wb2 ⟨bb2, 0, none⟩ [_, _, _, _, _] := hBb2.cells) | have hCb2 := Blk.cellsL hBb2
    have hlb2 := hBb2.lt
    have hzb2 := eb2.size
    refine Ox.act rfl rfl (acts_alloc rfl rfl) ?_
    rintro vb4 wb4 ⟨eb4, bb4, rfl, hbb4, hBb4⟩
    first | (have hCb4 : Cells wb4 ⟨bb4, 0, none⟩ [_, _, _, _, _] := hBb4.cells) | have hCb4 := Blk.cellsL hBb4
    have hlb4 := hBb4.lt
    have hzb4 := eb4.size
    refine Ox.pure rfl rfl zas ?_
    refine Ox.pure rfl rfl zas ?_
    refine Ox.fin ?_
    refine ztx ?_
    refine Ox.val rfl rfl zra ?_
    refine Ox.act rfl rfl (acts_call rfl rfl rfl (refValid_br s hsm _ (hin.ext0 zxc))) ?_
    rintro vv1 wv1 ⟨ev1, rfl⟩
    have hzv1 := ev1.size
    first | rw [decide_eq_true hv] | rw [decide_eq_false hv]
    refine Ox.pure rfl rfl (rp_not rfl rfl) ?_
    refine Ox.fin ?_
    refine zcf ?_
    refine zsk ?_
    refine ztx ?_
    refine Ox.pure rfl rfl zmv ?_
    refine Ox.pure rfl rfl zbc ?_
    refine Ox.pure rfl rfl zmv ?_
    first | (refine Ox.skip rfl rfl ?_) | (refine Ox.val rfl rfl zra ?_)
    first | (refine Ox.skip rfl rfl ?_) | (refine Ox.pure rfl rfl zmv ?_)
    first | (refine Ox.skip rfl rfl ?_) | (refine Ox.act rfl rfl (acts_call rfl rfl rfl (open_at_r s no _ (hin.ext0 zxc) hdl)) ?_; rintro v6 w6 ⟨e6, rfl⟩; have hz6 := e6.size; first | rw [decide_eq_true ho] | rw [decide_eq_false ho])
    first | (refine Ox.skip rfl rfl ?_) | (refine Ox.pure rfl rfl (rp_not rfl rfl) ?_)
    refine Ox.pure rfl rfl zpk ?_
    refine Ox.fin ?_
    refine zct ?_
    refine ztx ?_
    refine Ox.pure rfl rfl (rp_buildS (ps := []) rfl rfl rfl rfl rfl) ?_
    refine Ox.act rfl rfl (acts_store_all rfl rfl rfl (hBb4.ext (X := []) zxc (by simp)) rfl rfl rfl (bvc_one Bs0)) ?_
    rintro vs4 ws4 ⟨rfl, qs4, hBs4⟩
    have es4 : Ext [] w ws4 := Ext.renew zxc qs4 (by omega)
    refine Ox.pure rfl rfl zas ?_
    refine Ox.pure rfl rfl zas ?_
    refine Ox.fin ?_
    refine zrt ?_
    exact endE_ret [.agg (bvc Bs0).toArray, .int .i64 0, .int .i64 1] ⟨⟨⟨bb4, 0, none⟩, rfl, hBs4.cellsL.ldA rfl rfl⟩, rfl, rfl, trivial⟩ ⟨zxc, _, by rw [he]; rfl, by rw [he]; exact RBr.zero _ _⟩
  have he0 : forkB s.br no = if s.br.brs.length = 64 then (Br0, 0, 2) else (⟨s.br.base, s.br.brs ++ [[]], s.br.par ++ [no], s.br.fks ++ [(lenB s.br no : Int)], s.br.done ++ [false]⟩, (s.br.brs.length : Int), 0) := (if_neg (fun h => h hv)).trans (if_neg hp)
  have hrange : no < (s.bls.length : Int) := by
    by_cases hm : no = -1
    · omega
    · have : OpenB s.br no := Classical.byContradiction fun h => hp ⟨hm, h⟩
      have := this.2.1
      omega
  refine ztx ?_
  refine Ox.act rfl rfl (acts_box rfl rfl) ?_
  rintro vb2 wb2 ⟨eb2, bb2, rfl, hbb2, hBb2⟩
  first | (have hCb2 : Cells wb2 ⟨bb2, 0, none⟩ [_, _, _, _, _] := hBb2.cells) | have hCb2 := Blk.cellsL hBb2
  have hlb2 := hBb2.lt
  have hzb2 := eb2.size
  refine Ox.act rfl rfl (acts_alloc rfl rfl) ?_
  rintro vb4 wb4 ⟨eb4, bb4, rfl, hbb4, hBb4⟩
  first | (have hCb4 : Cells wb4 ⟨bb4, 0, none⟩ [_, _, _, _, _] := hBb4.cells) | have hCb4 := Blk.cellsL hBb4
  have hlb4 := hBb4.lt
  have hzb4 := eb4.size
  refine Ox.pure rfl rfl zas ?_
  refine Ox.pure rfl rfl zas ?_
  refine Ox.fin ?_
  refine ztx ?_
  refine Ox.val rfl rfl zra ?_
  refine Ox.act rfl rfl (acts_call rfl rfl rfl (refValid_br s hsm _ (hin.ext0 zxc))) ?_
  rintro vv1 wv1 ⟨ev1, rfl⟩
  have hzv1 := ev1.size
  first | rw [decide_eq_true hv] | rw [decide_eq_false hv]
  refine Ox.pure rfl rfl (rp_not rfl rfl) ?_
  refine Ox.fin ?_
  refine zcf ?_
  refine zsk ?_
  refine Sx.seq (Sx.upto (fun E' w' => (∀ t u, get [(1, .int .i64 no), (2, .pointer (some ⟨bb2, 0, none⟩)), (4, .pointer (some ⟨bb4, 0, none⟩)), (20, .bool false)] t = some u → get E' t = some u) ∧ Ext [] wv1 w') ?_ ?_)
  · by_cases hm : no = -1
    · refine ztx ?_
      refine Ox.pure rfl rfl zmv ?_
      refine Ox.pure rfl rfl zbc ?_
      refine Ox.pure rfl rfl zmv ?_
      first | (refine Ox.skip rfl rfl ?_) | (refine Ox.val rfl rfl zra ?_)
      first | (refine Ox.skip rfl rfl ?_) | (refine Ox.pure rfl rfl zmv ?_)
      first | (refine Ox.skip rfl rfl ?_) | (refine Ox.act rfl rfl (acts_call rfl rfl rfl (open_at_r s no _ (hin.ext0 zxc) hdl)) ?_; rintro v7 w7 ⟨e7, rfl⟩; have hz7 := e7.size; first | rw [decide_eq_true ho] | rw [decide_eq_false ho])
      first | (refine Ox.skip rfl rfl ?_) | (refine Ox.pure rfl rfl (rp_not rfl rfl) ?_)
      refine Ox.pure rfl rfl zpk ?_
      refine Ox.fin ?_
      refine zcf ?_
      refine zsk ?_
      exact ⟨sub_cons rfl (sub_cons rfl (sub_cons rfl (sub_cons rfl sub_nil))), zxc⟩
    · have ho : OpenB s.br no := Classical.byContradiction fun h => hp ⟨hm, h⟩
      refine ztx ?_
      refine Ox.pure rfl rfl zmv ?_
      refine Ox.pure rfl rfl zbc ?_
      refine Ox.pure rfl rfl zmv ?_
      first | (refine Ox.skip rfl rfl ?_) | (refine Ox.val rfl rfl zra ?_)
      first | (refine Ox.skip rfl rfl ?_) | (refine Ox.pure rfl rfl zmv ?_)
      first | (refine Ox.skip rfl rfl ?_) | (refine Ox.act rfl rfl (acts_call rfl rfl rfl (open_at_r s no _ (hin.ext0 zxc) hdl)) ?_; rintro v8 w8 ⟨e8, rfl⟩; have hz8 := e8.size; first | rw [decide_eq_true ho] | rw [decide_eq_false ho])
      first | (refine Ox.skip rfl rfl ?_) | (refine Ox.pure rfl rfl (rp_not rfl rfl) ?_)
      refine Ox.pure rfl rfl zpk ?_
      refine Ox.fin ?_
      refine zcf ?_
      refine zsk ?_
      exact ⟨sub_cons rfl (sub_cons rfl (sub_cons rfl (sub_cons rfl sub_nil))), zxc⟩
  rintro E' wm ⟨hsub, em⟩
  refine thenE_normal (Sx.weaken ?_ hsub)
  have hzm := em.size
  by_cases h64 : s.bls.length = 64
  · have he : forkB s.br no = (Br0, 0, 2) := he0.trans (if_pos (by rw [hbl]; exact h64))
    refine ztx ?_
    refine Ox.pure rfl rfl zfa ?_
    refine Ox.val rfl rfl zrs ?_
    refine Ox.pure rfl rfl (rp_lenS rfl rfl rfl) ?_
    refine Ox.pure rfl rfl zas ?_
    refine Ox.fin ?_
    refine ztx ?_
    refine Ox.pure rfl rfl zmv ?_
    refine Ox.pure rfl rfl zbc ?_
    refine Ox.fin ?_
    refine zct ?_
    refine ztx ?_
    refine Ox.pure rfl rfl (rp_buildS (ps := []) rfl rfl rfl rfl rfl) ?_
    refine Ox.act rfl rfl (acts_store_all rfl rfl rfl (hBb4.ext (X := []) zxc (by simp)) rfl rfl rfl (bvc_one Bs0)) ?_
    rintro vs7 ws7 ⟨rfl, qs7, hBs7⟩
    have es7 : Ext [] w ws7 := Ext.renew zxc qs7 (by omega)
    refine Ox.pure rfl rfl zas ?_
    refine Ox.pure rfl rfl zas ?_
    refine Ox.fin ?_
    refine zrt ?_
    exact endE_ret [.agg (bvc Bs0).toArray, .int .i64 0, .int .i64 2] ⟨⟨⟨bb4, 0, none⟩, rfl, hBs7.cellsL.ldA rfl rfl⟩, rfl, rfl, trivial⟩ ⟨zxc, _, by rw [he]; rfl, by rw [he]; exact RBr.zero _ _⟩
  have he := he0.trans (if_neg (by rw [hbl]; exact h64))
  refine ztx ?_
  refine Ox.pure rfl rfl zfa ?_
  refine Ox.val rfl rfl zrs ?_
  refine Ox.pure rfl rfl (rp_lenS rfl rfl rfl) ?_
  refine Ox.pure rfl rfl zas ?_
  refine Ox.fin ?_
  refine ztx ?_
  refine Ox.pure rfl rfl zmv ?_
  refine Ox.pure rfl rfl zbc ?_
  refine Ox.fin ?_
  refine zcf ?_
  refine zsk ?_
  refine ztx ?_
  refine Ox.val rfl rfl zra ?_
  refine Ox.act rfl rfl (acts_call rfl rfl rfl (refCopied_at s hfw _ (hin.ext0 zxc))) ?_
  rintro vu8 wu8 ⟨eu8, s', rfl, hbr', hbls, htr, hO⟩
  have hzu8 := eu8.size
  have hzu8 := eu8.size
  refine Ox.act rfl rfl (acts_alloc rfl rfl) ?_
  rintro vb8 wb8 ⟨eb8, bb8, rfl, hbb8, hBb8⟩
  first | (have hCb8 : Cells wb8 ⟨bb8, 0, none⟩ [_, _, _, _, _] := hBb8.cells) | have hCb8 := Blk.cellsL hBb8
  have hlb8 := hBb8.lt
  have hzb8 := eb8.size
  refine Ox.act rfl rfl (acts_store_all rfl rfl rfl hBb8 rfl rfl rfl (bvc_one s')) ?_
  rintro vs8 ws8 ⟨rfl, qs8, hBs8⟩
  have es8 : Ext [] wb4 ws8 := (show Ext [] wb4 wu8 from zxc).trans (Ext.renew eb8 qs8 hbb8)
  have hzs8 := es8.size
  have hys8 := qs8.size
  have hxs8 := eb8.size
  have hO8 := OB.put (hO.ext0 eb8) hBb8 qs8 hBs8
  have hCs8 := hO8.cells
  have hd' : s'.done = s.done := congrArg Br.done hbr'
  have hp' : s'.par = s.par := congrArg Br.par hbr'
  have hf' : s'.fks = s.fks := congrArg Br.fks hbr'
  have hw1 : s'.bls.length ≤ 1000 := by rw [hbls]; exact hfw.bls
  have hw2 : s'.par.length ≤ 1000 := by rw [hp']; exact hfw.par
  have hw3 : s'.fks.length ≤ 1000 := by rw [hf']; exact hfw.fks
  have hw4 : s'.done.length ≤ 1000 := by rw [hd']; exact hfw.done
  refine Ox.fin ?_
  refine ztx ?_
  refine Ox.pure rfl rfl zfa ?_
  refine Ox.val rfl rfl zrs ?_
  refine Ox.act rfl rfl (acts_buildSlice (ps := [(0, .const _)]) rfl rfl rfl rfl rfl rfl rfl rfl) ?_
  rintro vn9 wn9 ⟨en9, bn9, rfl, hbn9, hBn9⟩
  first | (have hCn9 : Cells wn9 ⟨bn9, 0, none⟩ [_] := hBn9.cells) | have hCn9 := Blk.cellsL hBn9
  have hln9 := hBn9.lt
  have hzn9 := en9.size
  have hP9 := OB.ext0 (w' := wn9) hO8 zxc
  refine Ox.act rfl rfl (acts_append (e := 59) (size := 1) (bytes := 24) rfl rfl rfl rfl (hP9.o1) (source_slice (m := 1) (news := blc (⟨none, 0, []⟩ : Bl)) rfl rfl (fun _ => rfl) (hCn9.ext0 zxc) (blc_one _)) (by first | omega | (dsimp only; omega)) (by first | omega | (dsimp only; omega)) (by omega)) ?_
  rintro va9 wa9 hga9
  obtain ⟨p9, k9, A9, rfl, _, _⟩ := SlV.of_own (enc := blc) (l := s'.bls ++ [(⟨none, 0, []⟩ : Bl)]) (by have h9 := hga9.own; rw [List.length_append, rowsV_append, rowsV_one]; exact h9) (by rw [List.length_append]; simp; omega)
  refine Ox.pure rfl rfl zfa ?_
  refine Ox.act rfl rfl (acts_store (off := 1) rfl rfl rfl rfl rfl (OB.blk1 hP9 hga9) (Nat.le_of_ble_eq_true rfl) (by (first | assumption | exact List.all_eq_true.mp rfl | simp [Value.cells, Value.oneCell']))) ?_
  rintro vs9 ws9 ⟨rfl, qs9, hBs9⟩
  have hO9 := OB.app1 (x := (⟨none, 0, []⟩ : Bl)) hP9 (by have h9 := hga9; rw [show (s'.bls ++ [(⟨none, 0, []⟩ : Bl)]).length = s'.bls.length + 1 by simp] at h9; exact h9) qs9 (by have h9 := hBs9; rw [show (s'.bls ++ [(⟨none, 0, []⟩ : Bl)]).length = s'.bls.length + 1 by simp] at h9; exact h9)
  have es9 : Ext [] wb4 ws9 := OB.ext_app1 hP9 hga9 zxc (by omega) (by omega) qs9
  have hzs9 := es9.size
  have hys9 := qs9.size
  have hxs9 := hga9.ext.size
  have hCs9 := hO9.cells
  refine Ox.fin ?_
  refine ztx ?_
  refine Ox.pure rfl rfl zfa ?_
  refine Ox.val rfl rfl zrs ?_
  refine Ox.pure rfl rfl zmv ?_
  refine Ox.act rfl rfl (acts_buildSlice (ps := [(0, .tmp 37)]) rfl rfl rfl rfl rfl rfl rfl rfl) ?_
  rintro vn10 wn10 ⟨en10, bn10, rfl, hbn10, hBn10⟩
  first | (have hCn10 : Cells wn10 ⟨bn10, 0, none⟩ [_] := hBn10.cells) | have hCn10 := Blk.cellsL hBn10
  have hln10 := hBn10.lt
  have hzn10 := en10.size
  have hP10 := OB.ext0 (w' := wn10) hO9 zxc
  refine Ox.act rfl rfl (acts_append (e := 3) (size := 1) (bytes := 8) rfl rfl rfl rfl (hP10.o2) (source_slice (m := 1) (news := ic no) rfl rfl (fun _ => rfl) (hCn10.ext0 zxc) (ic_one _)) (by first | omega | (dsimp only; omega)) (by first | omega | (dsimp only; omega)) (by omega)) ?_
  rintro va10 wa10 hga10
  obtain ⟨p10, k10, A10, rfl, _, _⟩ := SlV.of_own (enc := ic) (l := s'.par ++ [no]) (by have h9 := hga10.own; rw [List.length_append, rowsV_append, rowsV_one]; exact h9) (by rw [List.length_append]; simp; omega)
  refine Ox.pure rfl rfl zfa ?_
  refine Ox.act rfl rfl (acts_store (off := 2) rfl rfl rfl rfl rfl (OB.blk2 hP10 hga10) (Nat.le_of_ble_eq_true rfl) (by (first | assumption | exact List.all_eq_true.mp rfl | simp [Value.cells, Value.oneCell']))) ?_
  rintro vs10 ws10 ⟨rfl, qs10, hBs10⟩
  have hO10 := OB.app2 (x := no) hP10 (by have h9 := hga10; rw [show (s'.par ++ [no]).length = s'.par.length + 1 by simp] at h9; exact h9) qs10 (by have h9 := hBs10; rw [show (s'.par ++ [no]).length = s'.par.length + 1 by simp] at h9; exact h9)
  have es10 : Ext [] wb4 ws10 := OB.ext_app2 hP10 hga10 zxc (by omega) (by omega) qs10
  have hzs10 := es10.size
  have hys10 := qs10.size
  have hxs10 := hga10.ext.size
  have hCs10 := hO10.cells
  refine Ox.fin ?_
  (repeat refine Sx.seq ?_)
  refine Sx.walkR rfl (fun _ _ _ _ h => h) [0, 1, 2, 3, 4, 5, 6, 7, 8] [0, 1, 2, 3, 7] (0) (by kernel_rfl) ?_
  intro hq w9 e9; have hz9 := e9.size
  refine Wx.pure hq rfl rfl rfl rfl zfa ?_
  refine Wx.val hq rfl rfl rfl rfl ([]) zrs ?_
  refine Wx.val hq rfl rfl rfl rfl ([]) zra ?_
  refine Wx.pure hq rfl rfl rfl rfl zmv ?_
  refine Wx.actNew rfl rfl rfl rfl (acts_call rfl rfl rfl (length_at_r s no _ (hin.ext0 zxc) hrange)) ?_
  rintro v10 w10 e10 rfl
  have hz10 := e10.size
  refine Wx.actNew rfl rfl rfl rfl (acts_buildSlice (ps := [(0, .tmp 45)]) rfl rfl rfl rfl rfl rfl rfl rfl) ?_
  rintro vn11 wn11 en11 ⟨bn11, rfl, hbn11, hBn11⟩
  first | (have hCn11 : Cells wn11 ⟨bn11, 0, none⟩ [_] := hBn11.cells) | have hCn11 := Blk.cellsL hBn11
  have hln11 := hBn11.lt
  have hzn11 := en11.size
  have hP11 := OB.ext0 (w' := wn11) hO10 zxc
  refine Wx.actLast rfl rfl rfl rfl (by kernel_rfl) (acts_append (e := 3) (size := 1) (bytes := 8) rfl rfl rfl rfl (hP11.o3) (source_slice (m := 1) (news := ic (lenB s.br no : Int)) rfl rfl (fun _ => rfl) (hCn11.ext0 zxc) (ic_one _)) (by first | omega | (dsimp only; omega)) (by first | omega | (dsimp only; omega)) (by omega)) ?_
  rintro va11 wa11 hga11
  obtain ⟨p11, k11, A11, rfl, _, _⟩ := SlV.of_own (enc := ic) (l := s'.fks ++ [(lenB s.br no : Int)]) (by have h9 := hga11.own; rw [List.length_append, rowsV_append, rowsV_one]; exact h9) (by rw [List.length_append]; simp; omega)
  refine Wx.pure hq rfl rfl rfl rfl zfa ?_
  refine Wx.actLast rfl rfl rfl rfl (by kernel_rfl) (acts_store (off := 3) rfl rfl rfl rfl rfl (OB.blk3 hP11 hga11) (Nat.le_of_ble_eq_true rfl) (by (first | assumption | exact List.all_eq_true.mp rfl | simp [Value.cells, Value.oneCell']))) ?_
  rintro vs11 ws11 ⟨rfl, qs11, hBs11⟩
  have hO11 := OB.app3 (x := (lenB s.br no : Int)) hP11 (by have h9 := hga11; rw [show (s'.fks ++ [(lenB s.br no : Int)]).length = s'.fks.length + 1 by simp] at h9; exact h9) qs11 (by have h9 := hBs11; rw [show (s'.fks ++ [(lenB s.br no : Int)]).length = s'.fks.length + 1 by simp] at h9; exact h9)
  have es11 : Ext [] wb4 ws11 := OB.ext_app3 hP11 hga11 zxc (by omega) (by omega) qs11
  have hzs11 := es11.size
  have hys11 := qs11.size
  have hxs11 := hga11.ext.size
  have hCs11 := hO11.cells
  refine Wx.fin ?_
  refine ztx ?_
  refine Ox.pure rfl rfl zfa ?_
  refine Ox.val rfl rfl zrs ?_
  refine Ox.act rfl rfl (acts_buildSlice (ps := [(0, .const _)]) rfl rfl rfl rfl rfl rfl rfl rfl) ?_
  rintro vn12 wn12 ⟨en12, bn12, rfl, hbn12, hBn12⟩
  first | (have hCn12 : Cells wn12 ⟨bn12, 0, none⟩ [_] := hBn12.cells) | have hCn12 := Blk.cellsL hBn12
  have hln12 := hBn12.lt
  have hzn12 := en12.size
  have hP12 := OB.ext0 (w' := wn12) hO11 zxc
  refine Ox.act rfl rfl (acts_append (e := 4) (size := 1) (bytes := 1) rfl rfl rfl rfl (hP12.o4) (source_slice (m := 1) (news := boc false) rfl rfl (fun _ => rfl) (hCn12.ext0 zxc) (boc_one _)) (by first | omega | (dsimp only; omega)) (by first | omega | (dsimp only; omega)) (by omega)) ?_
  rintro va12 wa12 hga12
  obtain ⟨p12, k12, A12, rfl, _, _⟩ := SlV.of_own (enc := boc) (l := s'.done ++ [false]) (by have h9 := hga12.own; rw [List.length_append, rowsV_append, rowsV_one]; exact h9) (by rw [List.length_append]; simp; omega)
  refine Ox.pure rfl rfl zfa ?_
  refine Ox.act rfl rfl (acts_store (off := 4) rfl rfl rfl rfl rfl (OB.blk4 hP12 hga12) (Nat.le_of_ble_eq_true rfl) (by (first | assumption | exact List.all_eq_true.mp rfl | simp [Value.cells, Value.oneCell']))) ?_
  rintro vs12 ws12 ⟨rfl, qs12, hBs12⟩
  have hO12 := OB.app4 (x := false) hP12 (by have h9 := hga12; rw [show (s'.done ++ [false]).length = s'.done.length + 1 by simp] at h9; exact h9) qs12 (by have h9 := hBs12; rw [show (s'.done ++ [false]).length = s'.done.length + 1 by simp] at h9; exact h9)
  have es12 : Ext [] wb4 ws12 := OB.ext_app4 hP12 hga12 zxc (by omega) (by omega) qs12
  have hzs12 := es12.size
  have hys12 := qs12.size
  have hxs12 := hga12.ext.size
  have hCs12 := hO12.cells
  refine Ox.fin ?_
  refine ztx ?_
  refine Ox.val rfl rfl zra ?_
  refine Ox.pure rfl rfl zmv ?_
  refine Ox.act rfl rfl (acts_store_all rfl rfl rfl (hBb4.ext (X := []) zxc (by simp)) rfl rfl rfl (bvc_one _)) ?_
  rintro vsz wsz ⟨rfl, qsz, hBsz⟩
  have esz : Ext [] w wsz := Ext.renew zxc qsz (by omega)
  have hOz := hO12.other (hBb4.ext (X := []) zxc (by simp)) qsz (by have := hBb4.lt; omega)
  refine Ox.pure rfl rfl zas ?_
  refine Ox.pure rfl rfl zas ?_
  refine Ox.fin ?_
  refine zrt ?_
  obtain ⟨v1, v2, v3, v4, _⟩ := id hv.1
  have v2' : s'.par.length = s.br.brs.length := by rw [hp']; exact v2
  have v3' : s'.fks.length = s.br.brs.length := by rw [hf']; exact v3
  have v4' : s'.done.length = s.br.brs.length := by rw [hd']; exact v4
  have v1' : s'.bls.length = s.br.brs.length := by rw [hbls, hbl]
  have hres := hOz.res ⟨by simp; omega, by simp; omega, by simp; omega, by simp; omega⟩ (htr _ (hin.base.ext0 zxc)) (fun x hx => by
    rcases List.mem_append.1 hx with h | h
    · rw [hbls] at h; exact (hin.sub x h).imp fun _ h9 => h9.ext0 zxc
    · rw [List.mem_singleton.1 h]; exact ⟨⟨0, 0, none⟩, SlV.nil _ _⟩)
  refine endE_ret [.agg (bvc _).toArray, .int .i64 (s.bls.length : Int), .int .i64 0] ⟨⟨⟨bb4, 0, none⟩, rfl, hBsz.cellsL.ldA rfl rfl⟩, rfl, rfl, trivial⟩ ⟨zxc, _, by rw [he, hbl]; rfl, ?_⟩
  obtain ⟨s9, e9, h9, e8, z9⟩ := hres
  refine ⟨s9, e9, h9, e8.trans ?_, fun h => Nat.le_trans (by omega) (z9 h)⟩
  rw [he]
  show Br.mk s'.base ((s'.bls ++ [(⟨none, 0, []⟩ : Bl)]).map Bl.l) (s'.par ++ [no]) (s'.fks ++ [(lenB s.br no : Int)]) (s'.done ++ [false]) = _
  rw [List.map_append, show s'.base = s.br.base from congrArg Br.base hbr', show s'.bls.map Bl.l = s.br.brs from congrArg Br.brs hbr', show s'.par = s.br.par from congrArg Br.par hbr', show s'.fks = s.br.fks from congrArg Br.fks hbr', show s'.done = s.br.done from congrArg Br.done hbr']
  rfl

end Go.Proofs.Ytfgckcochilpkaa
