/- Texts of one proof, put together: BranS, BranT, BranO, BranUa. -/
import Derived.Test.YtfgckcochilpkaaRows
import Derived.Test.YtfgckcochilpkaaWAP8
/- Branches' walks: the reference's validity, new branchings, their facts. -/
set_option linter.unusedVariables false
set_option maxRecDepth 100000
set_option maxHeartbeats 4000000
set_option linter.unusedSimpArgs false
namespace Go.Proofs.Ytfgckcochilpkaa
open Go Go.Eng

theorem refOf_no (s : Bs) (hf : Formed s.br) (hck : checkL s.base = 0) (hsm : Small s) (no : Int) (h1 : -1 ≤ no) (h2 : no < (s.bls.length : Int)) (w : World) (hin : BsIn s w) :
    Calls Try.prog 46 #[.agg (bvc s).toArray, .int .i64 no, .int .i64 (lenB s.br no : Int)] w (Ret fun r w' => Ext [] w w' ∧ RRec w' r (ofB s.br no)) :=
  refWith_no s hf hck hsm no (lenB s.br no) h1 h2 (Nat.le_refl _) w hin
theorem refFormed_at (s : Bs) (w : World) (hin : BsIn s w) :
    Calls Try.prog 63 #[.agg (bvc s).toArray] w (Ret fun r w' => Ext [] w w' ∧ r = .bool (decide (Formed s.br))) := by
  have hpp := hin.par.ptr
  have hpr := hin.par.row
  have hpf := hin.par.few
  have hkp := hin.fks.ptr
  have hkr := hin.fks.row
  have hkf := hin.fks.few
  have hbf := hin.bls.few
  have hdf := hin.done.few
  have hbl := br_len s
  refine calls_of_Sx (args := [.agg (bvc s).toArray]) Try.func63 rfl rfl ?_
  by_cases hch1 : s.bls.length ≤ 64; rotate_left
  ·   have hno : ¬ Formed s.br := by
        rintro ⟨a1, a2, a3, a4, _⟩
        rw [hbl] at a1 a2 a3 a4
        first | exact absurd a1 (by assumption) | exact absurd a2 (by assumption) | exact absurd a3 (by assumption) | exact absurd a4 (by assumption)
      refine ztx ?_
      refine Ox.act rfl rfl (acts_box rfl rfl) ?_
      rintro vb1 wb1 ⟨eb1, bb1, rfl, hbb1, hBb1⟩
      first | (have hCb1 : Cells wb1 ⟨bb1, 0, none⟩ [_, _, _, _, _] := hBb1.cells) | have hCb1 := Blk.cellsL hBb1
      have hlb1 := hBb1.lt
      have hzb1 := eb1.size
      refine Ox.pure rfl rfl zas ?_
      refine Ox.fin ?_
      refine ztx ?_
      refine Ox.pure rfl rfl zfa ?_
      refine Ox.val rfl rfl zrs ?_
      refine Ox.pure rfl rfl (rp_lenS rfl rfl rfl) ?_
      refine Ox.pure rfl rfl zas ?_
      refine Ox.fin ?_
      refine ztx ?_
      refine Ox.pure rfl rfl zmv ?_
      refine Ox.pure rfl rfl zbc ?_
      refine Ox.pure rfl rfl zmv ?_
      first | (refine Ox.skip rfl rfl ?_) | (refine Ox.pure rfl rfl zfa ?_)
      first | (refine Ox.skip rfl rfl ?_) | (refine Ox.val rfl rfl zrs ?_)
      first | (refine Ox.skip rfl rfl ?_) | (refine Ox.pure rfl rfl (rp_lenS rfl rfl rfl) ?_)
      first | (refine Ox.skip rfl rfl ?_) | (refine Ox.pure rfl rfl zmv ?_)
      first | (refine Ox.skip rfl rfl ?_) | (refine Ox.pure rfl rfl zbc ?_)
      refine Ox.pure rfl rfl zpk ?_
      refine Ox.pure rfl rfl zmv ?_
      first | (refine Ox.skip rfl rfl ?_) | (refine Ox.pure rfl rfl zfa ?_)
      first | (refine Ox.skip rfl rfl ?_) | (refine Ox.val rfl rfl zrs ?_)
      first | (refine Ox.skip rfl rfl ?_) | (refine Ox.pure rfl rfl (rp_lenS rfl rfl rfl) ?_)
      first | (refine Ox.skip rfl rfl ?_) | (refine Ox.pure rfl rfl zmv ?_)
      first | (refine Ox.skip rfl rfl ?_) | (refine Ox.pure rfl rfl zbc ?_)
      refine Ox.pure rfl rfl zpk ?_
      refine Ox.pure rfl rfl zmv ?_
      first | (refine Ox.skip rfl rfl ?_) | (refine Ox.pure rfl rfl zfa ?_)
      first | (refine Ox.skip rfl rfl ?_) | (refine Ox.val rfl rfl zrs ?_)
      first | (refine Ox.skip rfl rfl ?_) | (refine Ox.pure rfl rfl (rp_lenS rfl rfl rfl) ?_)
      first | (refine Ox.skip rfl rfl ?_) | (refine Ox.pure rfl rfl zmv ?_)
      first | (refine Ox.skip rfl rfl ?_) | (refine Ox.pure rfl rfl zbc ?_)
      refine Ox.pure rfl rfl zpk ?_
      refine Ox.fin ?_
      refine zct ?_
      refine ztx ?_
      refine Ox.pure rfl rfl zas ?_
      refine Ox.fin ?_
      refine zrt ?_
      exact endE_ret [_] ⟨rfl, trivial⟩ ⟨zxc, congrArg Value.bool (decide_eq_false hno).symm⟩
  by_cases hch2 : s.par.length = s.bls.length; rotate_left
  ·   have hno : ¬ Formed s.br := by
        rintro ⟨a1, a2, a3, a4, _⟩
        rw [hbl] at a1 a2 a3 a4
        first | exact absurd a1 (by assumption) | exact absurd a2 (by assumption) | exact absurd a3 (by assumption) | exact absurd a4 (by assumption)
      refine ztx ?_
      refine Ox.act rfl rfl (acts_box rfl rfl) ?_
      rintro vb1 wb1 ⟨eb1, bb1, rfl, hbb1, hBb1⟩
      first | (have hCb1 : Cells wb1 ⟨bb1, 0, none⟩ [_, _, _, _, _] := hBb1.cells) | have hCb1 := Blk.cellsL hBb1
      have hlb1 := hBb1.lt
      have hzb1 := eb1.size
      refine Ox.pure rfl rfl zas ?_
      refine Ox.fin ?_
      refine ztx ?_
      refine Ox.pure rfl rfl zfa ?_
      refine Ox.val rfl rfl zrs ?_
      refine Ox.pure rfl rfl (rp_lenS rfl rfl rfl) ?_
      refine Ox.pure rfl rfl zas ?_
      refine Ox.fin ?_
      refine ztx ?_
      refine Ox.pure rfl rfl zmv ?_
      refine Ox.pure rfl rfl zbc ?_
      refine Ox.pure rfl rfl zmv ?_
      first | (refine Ox.skip rfl rfl ?_) | (refine Ox.pure rfl rfl zfa ?_)
      first | (refine Ox.skip rfl rfl ?_) | (refine Ox.val rfl rfl zrs ?_)
      first | (refine Ox.skip rfl rfl ?_) | (refine Ox.pure rfl rfl (rp_lenS rfl rfl rfl) ?_)
      first | (refine Ox.skip rfl rfl ?_) | (refine Ox.pure rfl rfl zmv ?_)
      first | (refine Ox.skip rfl rfl ?_) | (refine Ox.pure rfl rfl zbc ?_)
      refine Ox.pure rfl rfl zpk ?_
      refine Ox.pure rfl rfl zmv ?_
      first | (refine Ox.skip rfl rfl ?_) | (refine Ox.pure rfl rfl zfa ?_)
      first | (refine Ox.skip rfl rfl ?_) | (refine Ox.val rfl rfl zrs ?_)
      first | (refine Ox.skip rfl rfl ?_) | (refine Ox.pure rfl rfl (rp_lenS rfl rfl rfl) ?_)
      first | (refine Ox.skip rfl rfl ?_) | (refine Ox.pure rfl rfl zmv ?_)
      first | (refine Ox.skip rfl rfl ?_) | (refine Ox.pure rfl rfl zbc ?_)
      refine Ox.pure rfl rfl zpk ?_
      refine Ox.pure rfl rfl zmv ?_
      first | (refine Ox.skip rfl rfl ?_) | (refine Ox.pure rfl rfl zfa ?_)
      first | (refine Ox.skip rfl rfl ?_) | (refine Ox.val rfl rfl zrs ?_)
      first | (refine Ox.skip rfl rfl ?_) | (refine Ox.pure rfl rfl (rp_lenS rfl rfl rfl) ?_)
      first | (refine Ox.skip rfl rfl ?_) | (refine Ox.pure rfl rfl zmv ?_)
      first | (refine Ox.skip rfl rfl ?_) | (refine Ox.pure rfl rfl zbc ?_)
      refine Ox.pure rfl rfl zpk ?_
      refine Ox.fin ?_
      refine zct ?_
      refine ztx ?_
      refine Ox.pure rfl rfl zas ?_
      refine Ox.fin ?_
      refine zrt ?_
      exact endE_ret [_] ⟨rfl, trivial⟩ ⟨zxc, congrArg Value.bool (decide_eq_false hno).symm⟩
  by_cases hch3 : s.fks.length = s.bls.length; rotate_left
  ·   have hno : ¬ Formed s.br := by
        rintro ⟨a1, a2, a3, a4, _⟩
        rw [hbl] at a1 a2 a3 a4
        first | exact absurd a1 (by assumption) | exact absurd a2 (by assumption) | exact absurd a3 (by assumption) | exact absurd a4 (by assumption)
      refine ztx ?_
      refine Ox.act rfl rfl (acts_box rfl rfl) ?_
      rintro vb1 wb1 ⟨eb1, bb1, rfl, hbb1, hBb1⟩
      first | (have hCb1 : Cells wb1 ⟨bb1, 0, none⟩ [_, _, _, _, _] := hBb1.cells) | have hCb1 := Blk.cellsL hBb1
      have hlb1 := hBb1.lt
      have hzb1 := eb1.size
      refine Ox.pure rfl rfl zas ?_
      refine Ox.fin ?_
      refine ztx ?_
      refine Ox.pure rfl rfl zfa ?_
      refine Ox.val rfl rfl zrs ?_
      refine Ox.pure rfl rfl (rp_lenS rfl rfl rfl) ?_
      refine Ox.pure rfl rfl zas ?_
      refine Ox.fin ?_
      refine ztx ?_
      refine Ox.pure rfl rfl zmv ?_
      refine Ox.pure rfl rfl zbc ?_
      refine Ox.pure rfl rfl zmv ?_
      first | (refine Ox.skip rfl rfl ?_) | (refine Ox.pure rfl rfl zfa ?_)
      first | (refine Ox.skip rfl rfl ?_) | (refine Ox.val rfl rfl zrs ?_)
      first | (refine Ox.skip rfl rfl ?_) | (refine Ox.pure rfl rfl (rp_lenS rfl rfl rfl) ?_)
      first | (refine Ox.skip rfl rfl ?_) | (refine Ox.pure rfl rfl zmv ?_)
      first | (refine Ox.skip rfl rfl ?_) | (refine Ox.pure rfl rfl zbc ?_)
      refine Ox.pure rfl rfl zpk ?_
      refine Ox.pure rfl rfl zmv ?_
      first | (refine Ox.skip rfl rfl ?_) | (refine Ox.pure rfl rfl zfa ?_)
      first | (refine Ox.skip rfl rfl ?_) | (refine Ox.val rfl rfl zrs ?_)
      first | (refine Ox.skip rfl rfl ?_) | (refine Ox.pure rfl rfl (rp_lenS rfl rfl rfl) ?_)
      first | (refine Ox.skip rfl rfl ?_) | (refine Ox.pure rfl rfl zmv ?_)
      first | (refine Ox.skip rfl rfl ?_) | (refine Ox.pure rfl rfl zbc ?_)
      refine Ox.pure rfl rfl zpk ?_
      refine Ox.pure rfl rfl zmv ?_
      first | (refine Ox.skip rfl rfl ?_) | (refine Ox.pure rfl rfl zfa ?_)
      first | (refine Ox.skip rfl rfl ?_) | (refine Ox.val rfl rfl zrs ?_)
      first | (refine Ox.skip rfl rfl ?_) | (refine Ox.pure rfl rfl (rp_lenS rfl rfl rfl) ?_)
      first | (refine Ox.skip rfl rfl ?_) | (refine Ox.pure rfl rfl zmv ?_)
      first | (refine Ox.skip rfl rfl ?_) | (refine Ox.pure rfl rfl zbc ?_)
      refine Ox.pure rfl rfl zpk ?_
      refine Ox.fin ?_
      refine zct ?_
      refine ztx ?_
      refine Ox.pure rfl rfl zas ?_
      refine Ox.fin ?_
      refine zrt ?_
      exact endE_ret [_] ⟨rfl, trivial⟩ ⟨zxc, congrArg Value.bool (decide_eq_false hno).symm⟩
  by_cases hch4 : s.done.length = s.bls.length; rotate_left
  ·   have hno : ¬ Formed s.br := by
        rintro ⟨a1, a2, a3, a4, _⟩
        rw [hbl] at a1 a2 a3 a4
        first | exact absurd a1 (by assumption) | exact absurd a2 (by assumption) | exact absurd a3 (by assumption) | exact absurd a4 (by assumption)
      refine ztx ?_
      refine Ox.act rfl rfl (acts_box rfl rfl) ?_
      rintro vb1 wb1 ⟨eb1, bb1, rfl, hbb1, hBb1⟩
      first | (have hCb1 : Cells wb1 ⟨bb1, 0, none⟩ [_, _, _, _, _] := hBb1.cells) | have hCb1 := Blk.cellsL hBb1
      have hlb1 := hBb1.lt
      have hzb1 := eb1.size
      refine Ox.pure rfl rfl zas ?_
      refine Ox.fin ?_
      refine ztx ?_
      refine Ox.pure rfl rfl zfa ?_
      refine Ox.val rfl rfl zrs ?_
      refine Ox.pure rfl rfl (rp_lenS rfl rfl rfl) ?_
      refine Ox.pure rfl rfl zas ?_
      refine Ox.fin ?_
      refine ztx ?_
      refine Ox.pure rfl rfl zmv ?_
      refine Ox.pure rfl rfl zbc ?_
      refine Ox.pure rfl rfl zmv ?_
      first | (refine Ox.skip rfl rfl ?_) | (refine Ox.pure rfl rfl zfa ?_)
      first | (refine Ox.skip rfl rfl ?_) | (refine Ox.val rfl rfl zrs ?_)
      first | (refine Ox.skip rfl rfl ?_) | (refine Ox.pure rfl rfl (rp_lenS rfl rfl rfl) ?_)
      first | (refine Ox.skip rfl rfl ?_) | (refine Ox.pure rfl rfl zmv ?_)
      first | (refine Ox.skip rfl rfl ?_) | (refine Ox.pure rfl rfl zbc ?_)
      refine Ox.pure rfl rfl zpk ?_
      refine Ox.pure rfl rfl zmv ?_
      first | (refine Ox.skip rfl rfl ?_) | (refine Ox.pure rfl rfl zfa ?_)
      first | (refine Ox.skip rfl rfl ?_) | (refine Ox.val rfl rfl zrs ?_)
      first | (refine Ox.skip rfl rfl ?_) | (refine Ox.pure rfl rfl (rp_lenS rfl rfl rfl) ?_)
      first | (refine Ox.skip rfl rfl ?_) | (refine Ox.pure rfl rfl zmv ?_)
      first | (refine Ox.skip rfl rfl ?_) | (refine Ox.pure rfl rfl zbc ?_)
      refine Ox.pure rfl rfl zpk ?_
      refine Ox.pure rfl rfl zmv ?_
      first | (refine Ox.skip rfl rfl ?_) | (refine Ox.pure rfl rfl zfa ?_)
      first | (refine Ox.skip rfl rfl ?_) | (refine Ox.val rfl rfl zrs ?_)
      first | (refine Ox.skip rfl rfl ?_) | (refine Ox.pure rfl rfl (rp_lenS rfl rfl rfl) ?_)
      first | (refine Ox.skip rfl rfl ?_) | (refine Ox.pure rfl rfl zmv ?_)
      first | (refine Ox.skip rfl rfl ?_) | (refine Ox.pure rfl rfl zbc ?_)
      refine Ox.pure rfl rfl zpk ?_
      refine Ox.fin ?_
      refine zct ?_
      refine ztx ?_
      refine Ox.pure rfl rfl zas ?_
      refine Ox.fin ?_
      refine zrt ?_
      exact endE_ret [_] ⟨rfl, trivial⟩ ⟨zxc, congrArg Value.bool (decide_eq_false hno).symm⟩
  refine ztx ?_
  refine Ox.act rfl rfl (acts_box rfl rfl) ?_
  rintro vb1 wb1 ⟨eb1, bb1, rfl, hbb1, hBb1⟩
  first | (have hCb1 : Cells wb1 ⟨bb1, 0, none⟩ [_, _, _, _, _] := hBb1.cells) | have hCb1 := Blk.cellsL hBb1
  have hlb1 := hBb1.lt
  have hzb1 := eb1.size
  refine Ox.pure rfl rfl zas ?_
  refine Ox.fin ?_
  refine ztx ?_
  refine Ox.pure rfl rfl zfa ?_
  refine Ox.val rfl rfl zrs ?_
  refine Ox.pure rfl rfl (rp_lenS rfl rfl rfl) ?_
  refine Ox.pure rfl rfl zas ?_
  refine Ox.fin ?_
  refine ztx ?_
  refine Ox.pure rfl rfl zmv ?_
  refine Ox.pure rfl rfl zbc ?_
  refine Ox.pure rfl rfl zmv ?_
  first | (refine Ox.skip rfl rfl ?_) | (refine Ox.pure rfl rfl zfa ?_)
  first | (refine Ox.skip rfl rfl ?_) | (refine Ox.val rfl rfl zrs ?_)
  first | (refine Ox.skip rfl rfl ?_) | (refine Ox.pure rfl rfl (rp_lenS rfl rfl rfl) ?_)
  first | (refine Ox.skip rfl rfl ?_) | (refine Ox.pure rfl rfl zmv ?_)
  first | (refine Ox.skip rfl rfl ?_) | (refine Ox.pure rfl rfl zbc ?_)
  refine Ox.pure rfl rfl zpk ?_
  refine Ox.pure rfl rfl zmv ?_
  first | (refine Ox.skip rfl rfl ?_) | (refine Ox.pure rfl rfl zfa ?_)
  first | (refine Ox.skip rfl rfl ?_) | (refine Ox.val rfl rfl zrs ?_)
  first | (refine Ox.skip rfl rfl ?_) | (refine Ox.pure rfl rfl (rp_lenS rfl rfl rfl) ?_)
  first | (refine Ox.skip rfl rfl ?_) | (refine Ox.pure rfl rfl zmv ?_)
  first | (refine Ox.skip rfl rfl ?_) | (refine Ox.pure rfl rfl zbc ?_)
  refine Ox.pure rfl rfl zpk ?_
  refine Ox.pure rfl rfl zmv ?_
  first | (refine Ox.skip rfl rfl ?_) | (refine Ox.pure rfl rfl zfa ?_)
  first | (refine Ox.skip rfl rfl ?_) | (refine Ox.val rfl rfl zrs ?_)
  first | (refine Ox.skip rfl rfl ?_) | (refine Ox.pure rfl rfl (rp_lenS rfl rfl rfl) ?_)
  first | (refine Ox.skip rfl rfl ?_) | (refine Ox.pure rfl rfl zmv ?_)
  first | (refine Ox.skip rfl rfl ?_) | (refine Ox.pure rfl rfl zbc ?_)
  refine Ox.pure rfl rfl zpk ?_
  refine Ox.fin ?_
  refine zcf ?_
  refine zsk ?_
  refine ztx ?_
  refine Ox.pure rfl rfl zas ?_
  refine Ox.fin ?_
  refine zbl ?_
  refine Sx.loop (ι := Nat) (fun i E wr => E = [(1, .pointer (some ⟨bb1, 0, none⟩)), (3, .int .i64 (s.bls.length : Int)), (4, .int .i64 (i : Int))] ∧ i ≤ s.bls.length ∧ Ext [] wb1 wr ∧ ∀ j, j < i → (-1 ≤ parB s.br j ∧ parB s.br j < (j : Int)) ∧ 0 ≤ fkB s.br j ∧ fkB s.br j ≤ (lenB s.br (parB s.br j) : Int)) (fun i => s.bls.length - i) 0
    (sub_cons rfl (sub_cons rfl (sub_cons rfl sub_nil))) ⟨rfl, Nat.zero_le _, zxc, fun j h => absurd h (Nat.not_lt_zero _)⟩ ?_
  rintro i E wr ⟨rfl, hi, er, hall⟩
  have hz := er.size
  by_cases hlt : i < s.bls.length
  · have hip : i < s.par.length := by omega
    have hik : i < s.fks.length := by omega
    have hLp : ∀ u, Ext [] wr u → Ld Try.prog u 3 (s.A2.add (i * 1 + 0)) (.int .i64 (parB s.br i)) := fun u hu => by
      rw [parB_eq hip]; exact ld_field ic_len (hpr.ext0 zxc) hip 0 rfl (by decide) rfl
    have hLk : ∀ u, Ext [] wr u → Ld Try.prog u 3 (s.A3.add (i * 1 + 0)) (.int .i64 (fkB s.br i)) := fun u hu => by
      rw [fkB_eq hik]; exact ld_field ic_len (hkr.ext0 zxc) hik 0 rfl (by decide) rfl
    by_cases hch1 : -1 ≤ parB s.br i; rotate_left
    ·     have hno : ¬ Formed s.br := by
            rintro ⟨_, _, _, _, a5⟩
            obtain ⟨⟨x1, x2⟩, x3, x4⟩ := a5 i (by omega)
            first | exact absurd x1 (by assumption) | exact absurd x2 (by assumption) | exact absurd x3 (by assumption) | exact absurd x4 (by assumption)
          refine ztx ?_
          refine Ox.pure rfl rfl zmv ?_
          refine Ox.pure rfl rfl zmv ?_
          refine Ox.pure rfl rfl zbc ?_
          refine Ox.fin ?_
          refine zct ?_
          refine zsk ?_
          refine zbl ?_
          (repeat refine Sx.seq ?_)
          refine Sx.walkR rfl (fun _ _ _ _ h => h) [0, 1, 2, 3, 4, 5, 6, 7, 8, 9, 10, 11, 12, 13, 14, 15, 16, 17, 18, 19, 20, 21, 22, 23, 24, 25, 26, 27, 28, 29, 30, 31, 32, 33, 34, 35, 36, 37] [0, 1, 2, 3, 4, 5, 6, 7, 8, 9, 10, 11, 12, 13, 14, 15, 16, 17, 18, 19, 20, 21, 22, 23, 24, 25, 26, 27, 28, 29, 30, 31, 32, 33, 34, 36, 37] (0) (by kernel_rfl) ?_
          intro hq w1 e1; have hz1 := e1.size
          refine Wx.pure hq rfl rfl rfl rfl zfa ?_
          refine Wx.val hq rfl rfl rfl rfl ([]) zrs ?_
          refine Wx.pure hq rfl rfl rfl rfl zmv ?_
          refine Wx.pure hq rfl rfl rfl rfl (rp_indexAddr i rfl rfl rfl rfl rfl hpp rfl hip) ?_
          refine Wx.val hq rfl rfl rfl rfl ([]) (rv_load rfl rfl (fun u hu => hLp u zxc)) ?_
          refine Wx.pure hq rfl rfl rfl rfl zbc ?_
          refine Wx.pure hq rfl rfl rfl rfl zmv ?_
          first | (refine Wx.skip hq rfl rfl rfl rfl ?_) | (refine Wx.pure hq rfl rfl rfl rfl zfa ?_)
          first | (refine Wx.skip hq rfl rfl rfl rfl ?_) | (refine Wx.val hq rfl rfl rfl rfl ([]) zrs ?_)
          first | (refine Wx.skip hq rfl rfl rfl rfl ?_) | (refine Wx.pure hq rfl rfl rfl rfl zmv ?_)
          first | (refine Wx.skip hq rfl rfl rfl rfl ?_) | (refine Wx.pure hq rfl rfl rfl rfl (rp_indexAddr i rfl rfl rfl rfl rfl hpp rfl hip) ?_)
          first | (refine Wx.skip hq rfl rfl rfl rfl ?_) | (refine Wx.val hq rfl rfl rfl rfl ([]) (rv_load rfl rfl (fun u hu => hLp u zxc)) ?_)
          first | (refine Wx.skip hq rfl rfl rfl rfl ?_) | (refine Wx.pure hq rfl rfl rfl rfl zmv ?_)
          first | (refine Wx.skip hq rfl rfl rfl rfl ?_) | (refine Wx.pure hq rfl rfl rfl rfl zbc ?_)
          refine Wx.pure hq rfl rfl rfl rfl zpk ?_
          refine Wx.pure hq rfl rfl rfl rfl zmv ?_
          first | (refine Wx.skip hq rfl rfl rfl rfl ?_) | (refine Wx.pure hq rfl rfl rfl rfl zfa ?_)
          first | (refine Wx.skip hq rfl rfl rfl rfl ?_) | (refine Wx.val hq rfl rfl rfl rfl ([]) zrs ?_)
          first | (refine Wx.skip hq rfl rfl rfl rfl ?_) | (refine Wx.pure hq rfl rfl rfl rfl zmv ?_)
          first | (refine Wx.skip hq rfl rfl rfl rfl ?_) | (refine Wx.pure hq rfl rfl rfl rfl (rp_indexAddr i rfl rfl rfl rfl rfl hkp rfl hik) ?_)
          first | (refine Wx.skip hq rfl rfl rfl rfl ?_) | (refine Wx.val hq rfl rfl rfl rfl ([]) (rv_load rfl rfl (fun u hu => hLk u zxc)) ?_)
          first | (refine Wx.skip hq rfl rfl rfl rfl ?_) | (refine Wx.pure hq rfl rfl rfl rfl zbc ?_)
          refine Wx.pure hq rfl rfl rfl rfl zpk ?_
          refine Wx.pure hq rfl rfl rfl rfl zmv ?_
          first | (refine Wx.skip hq rfl rfl rfl rfl ?_) | (refine Wx.pure hq rfl rfl rfl rfl zfa ?_)
          first | (refine Wx.skip hq rfl rfl rfl rfl ?_) | (refine Wx.val hq rfl rfl rfl rfl ([]) zrs ?_)
          first | (refine Wx.skip hq rfl rfl rfl rfl ?_) | (refine Wx.pure hq rfl rfl rfl rfl zmv ?_)
          first | (refine Wx.skip hq rfl rfl rfl rfl ?_) | (refine Wx.pure hq rfl rfl rfl rfl (rp_indexAddr i rfl rfl rfl rfl rfl hkp rfl hik) ?_)
          first | (refine Wx.skip hq rfl rfl rfl rfl ?_) | (refine Wx.val hq rfl rfl rfl rfl ([]) (rv_load rfl rfl (fun u hu => hLk u zxc)) ?_)
          first | (refine Wx.skip hq rfl rfl rfl rfl ?_) | (refine Wx.val hq rfl rfl rfl rfl ([]) zra ?_)
          first | (refine Wx.skip hq rfl rfl rfl rfl ?_) | (refine Wx.pure hq rfl rfl rfl rfl zfa ?_)
          first | (refine Wx.skip hq rfl rfl rfl rfl ?_) | (refine Wx.val hq rfl rfl rfl rfl ([]) zrs ?_)
          first | (refine Wx.skip hq rfl rfl rfl rfl ?_) | (refine Wx.pure hq rfl rfl rfl rfl zmv ?_)
          first | (refine Wx.skip hq rfl rfl rfl rfl ?_) | (refine Wx.pure hq rfl rfl rfl rfl (rp_indexAddr i rfl rfl rfl rfl rfl hpp rfl hip) ?_)
          first | (refine Wx.skip hq rfl rfl rfl rfl ?_) | (refine Wx.val hq rfl rfl rfl rfl ([]) (rv_load rfl rfl (fun u hu => hLp u zxc)) ?_)
          first | (refine Wx.actSkip rfl rfl rfl rfl ?_) | (refine Wx.actNew rfl rfl rfl rfl (acts_call rfl rfl rfl (length_at_r s (parB s.br i) _ (hin.ext0 zxc) (by omega))) ?_; rintro v2 w2 e2 rfl; have hz2 := e2.size)
          first | (refine Wx.skip hq rfl rfl rfl rfl ?_) | (refine Wx.pure hq rfl rfl rfl rfl zbc ?_)
          refine Wx.pure hq rfl rfl rfl rfl zpk ?_
          refine Wx.fin ?_
          refine zct ?_
          refine ztx ?_
          refine Ox.pure rfl rfl zas ?_
          refine Ox.fin ?_
          refine zrt ?_
          exact endE_ret [_] ⟨rfl, trivial⟩ ⟨zxc, congrArg Value.bool (decide_eq_false hno).symm⟩
    by_cases hch2 : parB s.br i < (i : Int); rotate_left
    ·     have hno : ¬ Formed s.br := by
            rintro ⟨_, _, _, _, a5⟩
            obtain ⟨⟨x1, x2⟩, x3, x4⟩ := a5 i (by omega)
            first | exact absurd x1 (by assumption) | exact absurd x2 (by assumption) | exact absurd x3 (by assumption) | exact absurd x4 (by assumption)
          refine ztx ?_
          refine Ox.pure rfl rfl zmv ?_
          refine Ox.pure rfl rfl zmv ?_
          refine Ox.pure rfl rfl zbc ?_
          refine Ox.fin ?_
          refine zct ?_
          refine zsk ?_
          refine zbl ?_
          (repeat refine Sx.seq ?_)
          refine Sx.walkR rfl (fun _ _ _ _ h => h) [0, 1, 2, 3, 4, 5, 6, 7, 8, 9, 10, 11, 12, 13, 14, 15, 16, 17, 18, 19, 20, 21, 22, 23, 24, 25, 26, 27, 28, 29, 30, 31, 32, 33, 34, 35, 36, 37] [0, 1, 2, 3, 4, 5, 6, 7, 8, 9, 10, 11, 12, 13, 14, 15, 16, 17, 18, 19, 20, 21, 22, 23, 24, 25, 26, 27, 28, 29, 30, 31, 32, 33, 34, 36, 37] (0) (by kernel_rfl) ?_
          intro hq w3 e3; have hz3 := e3.size
          refine Wx.pure hq rfl rfl rfl rfl zfa ?_
          refine Wx.val hq rfl rfl rfl rfl ([]) zrs ?_
          refine Wx.pure hq rfl rfl rfl rfl zmv ?_
          refine Wx.pure hq rfl rfl rfl rfl (rp_indexAddr i rfl rfl rfl rfl rfl hpp rfl hip) ?_
          refine Wx.val hq rfl rfl rfl rfl ([]) (rv_load rfl rfl (fun u hu => hLp u zxc)) ?_
          refine Wx.pure hq rfl rfl rfl rfl zbc ?_
          refine Wx.pure hq rfl rfl rfl rfl zmv ?_
          first | (refine Wx.skip hq rfl rfl rfl rfl ?_) | (refine Wx.pure hq rfl rfl rfl rfl zfa ?_)
          first | (refine Wx.skip hq rfl rfl rfl rfl ?_) | (refine Wx.val hq rfl rfl rfl rfl ([]) zrs ?_)
          first | (refine Wx.skip hq rfl rfl rfl rfl ?_) | (refine Wx.pure hq rfl rfl rfl rfl zmv ?_)
          first | (refine Wx.skip hq rfl rfl rfl rfl ?_) | (refine Wx.pure hq rfl rfl rfl rfl (rp_indexAddr i rfl rfl rfl rfl rfl hpp rfl hip) ?_)
          first | (refine Wx.skip hq rfl rfl rfl rfl ?_) | (refine Wx.val hq rfl rfl rfl rfl ([]) (rv_load rfl rfl (fun u hu => hLp u zxc)) ?_)
          first | (refine Wx.skip hq rfl rfl rfl rfl ?_) | (refine Wx.pure hq rfl rfl rfl rfl zmv ?_)
          first | (refine Wx.skip hq rfl rfl rfl rfl ?_) | (refine Wx.pure hq rfl rfl rfl rfl zbc ?_)
          refine Wx.pure hq rfl rfl rfl rfl zpk ?_
          refine Wx.pure hq rfl rfl rfl rfl zmv ?_
          first | (refine Wx.skip hq rfl rfl rfl rfl ?_) | (refine Wx.pure hq rfl rfl rfl rfl zfa ?_)
          first | (refine Wx.skip hq rfl rfl rfl rfl ?_) | (refine Wx.val hq rfl rfl rfl rfl ([]) zrs ?_)
          first | (refine Wx.skip hq rfl rfl rfl rfl ?_) | (refine Wx.pure hq rfl rfl rfl rfl zmv ?_)
          first | (refine Wx.skip hq rfl rfl rfl rfl ?_) | (refine Wx.pure hq rfl rfl rfl rfl (rp_indexAddr i rfl rfl rfl rfl rfl hkp rfl hik) ?_)
          first | (refine Wx.skip hq rfl rfl rfl rfl ?_) | (refine Wx.val hq rfl rfl rfl rfl ([]) (rv_load rfl rfl (fun u hu => hLk u zxc)) ?_)
          first | (refine Wx.skip hq rfl rfl rfl rfl ?_) | (refine Wx.pure hq rfl rfl rfl rfl zbc ?_)
          refine Wx.pure hq rfl rfl rfl rfl zpk ?_
          refine Wx.pure hq rfl rfl rfl rfl zmv ?_
          first | (refine Wx.skip hq rfl rfl rfl rfl ?_) | (refine Wx.pure hq rfl rfl rfl rfl zfa ?_)
          first | (refine Wx.skip hq rfl rfl rfl rfl ?_) | (refine Wx.val hq rfl rfl rfl rfl ([]) zrs ?_)
          first | (refine Wx.skip hq rfl rfl rfl rfl ?_) | (refine Wx.pure hq rfl rfl rfl rfl zmv ?_)
          first | (refine Wx.skip hq rfl rfl rfl rfl ?_) | (refine Wx.pure hq rfl rfl rfl rfl (rp_indexAddr i rfl rfl rfl rfl rfl hkp rfl hik) ?_)
          first | (refine Wx.skip hq rfl rfl rfl rfl ?_) | (refine Wx.val hq rfl rfl rfl rfl ([]) (rv_load rfl rfl (fun u hu => hLk u zxc)) ?_)
          first | (refine Wx.skip hq rfl rfl rfl rfl ?_) | (refine Wx.val hq rfl rfl rfl rfl ([]) zra ?_)
          first | (refine Wx.skip hq rfl rfl rfl rfl ?_) | (refine Wx.pure hq rfl rfl rfl rfl zfa ?_)
          first | (refine Wx.skip hq rfl rfl rfl rfl ?_) | (refine Wx.val hq rfl rfl rfl rfl ([]) zrs ?_)
          first | (refine Wx.skip hq rfl rfl rfl rfl ?_) | (refine Wx.pure hq rfl rfl rfl rfl zmv ?_)
          first | (refine Wx.skip hq rfl rfl rfl rfl ?_) | (refine Wx.pure hq rfl rfl rfl rfl (rp_indexAddr i rfl rfl rfl rfl rfl hpp rfl hip) ?_)
          first | (refine Wx.skip hq rfl rfl rfl rfl ?_) | (refine Wx.val hq rfl rfl rfl rfl ([]) (rv_load rfl rfl (fun u hu => hLp u zxc)) ?_)
          first | (refine Wx.actSkip rfl rfl rfl rfl ?_) | (refine Wx.actNew rfl rfl rfl rfl (acts_call rfl rfl rfl (length_at_r s (parB s.br i) _ (hin.ext0 zxc) (by omega))) ?_; rintro v4 w4 e4 rfl; have hz4 := e4.size)
          first | (refine Wx.skip hq rfl rfl rfl rfl ?_) | (refine Wx.pure hq rfl rfl rfl rfl zbc ?_)
          refine Wx.pure hq rfl rfl rfl rfl zpk ?_
          refine Wx.fin ?_
          refine zct ?_
          refine ztx ?_
          refine Ox.pure rfl rfl zas ?_
          refine Ox.fin ?_
          refine zrt ?_
          exact endE_ret [_] ⟨rfl, trivial⟩ ⟨zxc, congrArg Value.bool (decide_eq_false hno).symm⟩
    by_cases hch3 : 0 ≤ fkB s.br i; rotate_left
    ·     have hno : ¬ Formed s.br := by
            rintro ⟨_, _, _, _, a5⟩
            obtain ⟨⟨x1, x2⟩, x3, x4⟩ := a5 i (by omega)
            first | exact absurd x1 (by assumption) | exact absurd x2 (by assumption) | exact absurd x3 (by assumption) | exact absurd x4 (by assumption)
          refine ztx ?_
          refine Ox.pure rfl rfl zmv ?_
          refine Ox.pure rfl rfl zmv ?_
          refine Ox.pure rfl rfl zbc ?_
          refine Ox.fin ?_
          refine zct ?_
          refine zsk ?_
          refine zbl ?_
          (repeat refine Sx.seq ?_)
          refine Sx.walkR rfl (fun _ _ _ _ h => h) [0, 1, 2, 3, 4, 5, 6, 7, 8, 9, 10, 11, 12, 13, 14, 15, 16, 17, 18, 19, 20, 21, 22, 23, 24, 25, 26, 27, 28, 29, 30, 31, 32, 33, 34, 35, 36, 37] [0, 1, 2, 3, 4, 5, 6, 7, 8, 9, 10, 11, 12, 13, 14, 15, 16, 17, 18, 19, 20, 21, 22, 23, 24, 25, 26, 27, 28, 29, 30, 31, 32, 33, 34, 36, 37] (0) (by kernel_rfl) ?_
          intro hq w5 e5; have hz5 := e5.size
          refine Wx.pure hq rfl rfl rfl rfl zfa ?_
          refine Wx.val hq rfl rfl rfl rfl ([]) zrs ?_
          refine Wx.pure hq rfl rfl rfl rfl zmv ?_
          refine Wx.pure hq rfl rfl rfl rfl (rp_indexAddr i rfl rfl rfl rfl rfl hpp rfl hip) ?_
          refine Wx.val hq rfl rfl rfl rfl ([]) (rv_load rfl rfl (fun u hu => hLp u zxc)) ?_
          refine Wx.pure hq rfl rfl rfl rfl zbc ?_
          refine Wx.pure hq rfl rfl rfl rfl zmv ?_
          first | (refine Wx.skip hq rfl rfl rfl rfl ?_) | (refine Wx.pure hq rfl rfl rfl rfl zfa ?_)
          first | (refine Wx.skip hq rfl rfl rfl rfl ?_) | (refine Wx.val hq rfl rfl rfl rfl ([]) zrs ?_)
          first | (refine Wx.skip hq rfl rfl rfl rfl ?_) | (refine Wx.pure hq rfl rfl rfl rfl zmv ?_)
          first | (refine Wx.skip hq rfl rfl rfl rfl ?_) | (refine Wx.pure hq rfl rfl rfl rfl (rp_indexAddr i rfl rfl rfl rfl rfl hpp rfl hip) ?_)
          first | (refine Wx.skip hq rfl rfl rfl rfl ?_) | (refine Wx.val hq rfl rfl rfl rfl ([]) (rv_load rfl rfl (fun u hu => hLp u zxc)) ?_)
          first | (refine Wx.skip hq rfl rfl rfl rfl ?_) | (refine Wx.pure hq rfl rfl rfl rfl zmv ?_)
          first | (refine Wx.skip hq rfl rfl rfl rfl ?_) | (refine Wx.pure hq rfl rfl rfl rfl zbc ?_)
          refine Wx.pure hq rfl rfl rfl rfl zpk ?_
          refine Wx.pure hq rfl rfl rfl rfl zmv ?_
          first | (refine Wx.skip hq rfl rfl rfl rfl ?_) | (refine Wx.pure hq rfl rfl rfl rfl zfa ?_)
          first | (refine Wx.skip hq rfl rfl rfl rfl ?_) | (refine Wx.val hq rfl rfl rfl rfl ([]) zrs ?_)
          first | (refine Wx.skip hq rfl rfl rfl rfl ?_) | (refine Wx.pure hq rfl rfl rfl rfl zmv ?_)
          first | (refine Wx.skip hq rfl rfl rfl rfl ?_) | (refine Wx.pure hq rfl rfl rfl rfl (rp_indexAddr i rfl rfl rfl rfl rfl hkp rfl hik) ?_)
          first | (refine Wx.skip hq rfl rfl rfl rfl ?_) | (refine Wx.val hq rfl rfl rfl rfl ([]) (rv_load rfl rfl (fun u hu => hLk u zxc)) ?_)
          first | (refine Wx.skip hq rfl rfl rfl rfl ?_) | (refine Wx.pure hq rfl rfl rfl rfl zbc ?_)
          refine Wx.pure hq rfl rfl rfl rfl zpk ?_
          refine Wx.pure hq rfl rfl rfl rfl zmv ?_
          first | (refine Wx.skip hq rfl rfl rfl rfl ?_) | (refine Wx.pure hq rfl rfl rfl rfl zfa ?_)
          first | (refine Wx.skip hq rfl rfl rfl rfl ?_) | (refine Wx.val hq rfl rfl rfl rfl ([]) zrs ?_)
          first | (refine Wx.skip hq rfl rfl rfl rfl ?_) | (refine Wx.pure hq rfl rfl rfl rfl zmv ?_)
          first | (refine Wx.skip hq rfl rfl rfl rfl ?_) | (refine Wx.pure hq rfl rfl rfl rfl (rp_indexAddr i rfl rfl rfl rfl rfl hkp rfl hik) ?_)
          first | (refine Wx.skip hq rfl rfl rfl rfl ?_) | (refine Wx.val hq rfl rfl rfl rfl ([]) (rv_load rfl rfl (fun u hu => hLk u zxc)) ?_)
          first | (refine Wx.skip hq rfl rfl rfl rfl ?_) | (refine Wx.val hq rfl rfl rfl rfl ([]) zra ?_)
          first | (refine Wx.skip hq rfl rfl rfl rfl ?_) | (refine Wx.pure hq rfl rfl rfl rfl zfa ?_)
          first | (refine Wx.skip hq rfl rfl rfl rfl ?_) | (refine Wx.val hq rfl rfl rfl rfl ([]) zrs ?_)
          first | (refine Wx.skip hq rfl rfl rfl rfl ?_) | (refine Wx.pure hq rfl rfl rfl rfl zmv ?_)
          first | (refine Wx.skip hq rfl rfl rfl rfl ?_) | (refine Wx.pure hq rfl rfl rfl rfl (rp_indexAddr i rfl rfl rfl rfl rfl hpp rfl hip) ?_)
          first | (refine Wx.skip hq rfl rfl rfl rfl ?_) | (refine Wx.val hq rfl rfl rfl rfl ([]) (rv_load rfl rfl (fun u hu => hLp u zxc)) ?_)
          first | (refine Wx.actSkip rfl rfl rfl rfl ?_) | (refine Wx.actNew rfl rfl rfl rfl (acts_call rfl rfl rfl (length_at_r s (parB s.br i) _ (hin.ext0 zxc) (by omega))) ?_; rintro v6 w6 e6 rfl; have hz6 := e6.size)
          first | (refine Wx.skip hq rfl rfl rfl rfl ?_) | (refine Wx.pure hq rfl rfl rfl rfl zbc ?_)
          refine Wx.pure hq rfl rfl rfl rfl zpk ?_
          refine Wx.fin ?_
          refine zct ?_
          refine ztx ?_
          refine Ox.pure rfl rfl zas ?_
          refine Ox.fin ?_
          refine zrt ?_
          exact endE_ret [_] ⟨rfl, trivial⟩ ⟨zxc, congrArg Value.bool (decide_eq_false hno).symm⟩
    by_cases hch4 : fkB s.br i ≤ (lenB s.br (parB s.br i) : Int); rotate_left
    ·     have hno : ¬ Formed s.br := by
            rintro ⟨_, _, _, _, a5⟩
            obtain ⟨⟨x1, x2⟩, x3, x4⟩ := a5 i (by omega)
            first | exact absurd x1 (by assumption) | exact absurd x2 (by assumption) | exact absurd x3 (by assumption) | exact absurd x4 (by assumption)
          refine ztx ?_
          refine Ox.pure rfl rfl zmv ?_
          refine Ox.pure rfl rfl zmv ?_
          refine Ox.pure rfl rfl zbc ?_
          refine Ox.fin ?_
          refine zct ?_
          refine zsk ?_
          refine zbl ?_
          (repeat refine Sx.seq ?_)
          refine Sx.walkR rfl (fun _ _ _ _ h => h) [0, 1, 2, 3, 4, 5, 6, 7, 8, 9, 10, 11, 12, 13, 14, 15, 16, 17, 18, 19, 20, 21, 22, 23, 24, 25, 26, 27, 28, 29, 30, 31, 32, 33, 34, 35, 36, 37] [0, 1, 2, 3, 4, 5, 6, 7, 8, 9, 10, 11, 12, 13, 14, 15, 16, 17, 18, 19, 20, 21, 22, 23, 24, 25, 26, 27, 28, 29, 30, 31, 32, 33, 34, 36, 37] (0) (by kernel_rfl) ?_
          intro hq w7 e7; have hz7 := e7.size
          refine Wx.pure hq rfl rfl rfl rfl zfa ?_
          refine Wx.val hq rfl rfl rfl rfl ([]) zrs ?_
          refine Wx.pure hq rfl rfl rfl rfl zmv ?_
          refine Wx.pure hq rfl rfl rfl rfl (rp_indexAddr i rfl rfl rfl rfl rfl hpp rfl hip) ?_
          refine Wx.val hq rfl rfl rfl rfl ([]) (rv_load rfl rfl (fun u hu => hLp u zxc)) ?_
          refine Wx.pure hq rfl rfl rfl rfl zbc ?_
          refine Wx.pure hq rfl rfl rfl rfl zmv ?_
          first | (refine Wx.skip hq rfl rfl rfl rfl ?_) | (refine Wx.pure hq rfl rfl rfl rfl zfa ?_)
          first | (refine Wx.skip hq rfl rfl rfl rfl ?_) | (refine Wx.val hq rfl rfl rfl rfl ([]) zrs ?_)
          first | (refine Wx.skip hq rfl rfl rfl rfl ?_) | (refine Wx.pure hq rfl rfl rfl rfl zmv ?_)
          first | (refine Wx.skip hq rfl rfl rfl rfl ?_) | (refine Wx.pure hq rfl rfl rfl rfl (rp_indexAddr i rfl rfl rfl rfl rfl hpp rfl hip) ?_)
          first | (refine Wx.skip hq rfl rfl rfl rfl ?_) | (refine Wx.val hq rfl rfl rfl rfl ([]) (rv_load rfl rfl (fun u hu => hLp u zxc)) ?_)
          first | (refine Wx.skip hq rfl rfl rfl rfl ?_) | (refine Wx.pure hq rfl rfl rfl rfl zmv ?_)
          first | (refine Wx.skip hq rfl rfl rfl rfl ?_) | (refine Wx.pure hq rfl rfl rfl rfl zbc ?_)
          refine Wx.pure hq rfl rfl rfl rfl zpk ?_
          refine Wx.pure hq rfl rfl rfl rfl zmv ?_
          first | (refine Wx.skip hq rfl rfl rfl rfl ?_) | (refine Wx.pure hq rfl rfl rfl rfl zfa ?_)
          first | (refine Wx.skip hq rfl rfl rfl rfl ?_) | (refine Wx.val hq rfl rfl rfl rfl ([]) zrs ?_)
          first | (refine Wx.skip hq rfl rfl rfl rfl ?_) | (refine Wx.pure hq rfl rfl rfl rfl zmv ?_)
          first | (refine Wx.skip hq rfl rfl rfl rfl ?_) | (refine Wx.pure hq rfl rfl rfl rfl (rp_indexAddr i rfl rfl rfl rfl rfl hkp rfl hik) ?_)
          first | (refine Wx.skip hq rfl rfl rfl rfl ?_) | (refine Wx.val hq rfl rfl rfl rfl ([]) (rv_load rfl rfl (fun u hu => hLk u zxc)) ?_)
          first | (refine Wx.skip hq rfl rfl rfl rfl ?_) | (refine Wx.pure hq rfl rfl rfl rfl zbc ?_)
          refine Wx.pure hq rfl rfl rfl rfl zpk ?_
          refine Wx.pure hq rfl rfl rfl rfl zmv ?_
          first | (refine Wx.skip hq rfl rfl rfl rfl ?_) | (refine Wx.pure hq rfl rfl rfl rfl zfa ?_)
          first | (refine Wx.skip hq rfl rfl rfl rfl ?_) | (refine Wx.val hq rfl rfl rfl rfl ([]) zrs ?_)
          first | (refine Wx.skip hq rfl rfl rfl rfl ?_) | (refine Wx.pure hq rfl rfl rfl rfl zmv ?_)
          first | (refine Wx.skip hq rfl rfl rfl rfl ?_) | (refine Wx.pure hq rfl rfl rfl rfl (rp_indexAddr i rfl rfl rfl rfl rfl hkp rfl hik) ?_)
          first | (refine Wx.skip hq rfl rfl rfl rfl ?_) | (refine Wx.val hq rfl rfl rfl rfl ([]) (rv_load rfl rfl (fun u hu => hLk u zxc)) ?_)
          first | (refine Wx.skip hq rfl rfl rfl rfl ?_) | (refine Wx.val hq rfl rfl rfl rfl ([]) zra ?_)
          first | (refine Wx.skip hq rfl rfl rfl rfl ?_) | (refine Wx.pure hq rfl rfl rfl rfl zfa ?_)
          first | (refine Wx.skip hq rfl rfl rfl rfl ?_) | (refine Wx.val hq rfl rfl rfl rfl ([]) zrs ?_)
          first | (refine Wx.skip hq rfl rfl rfl rfl ?_) | (refine Wx.pure hq rfl rfl rfl rfl zmv ?_)
          first | (refine Wx.skip hq rfl rfl rfl rfl ?_) | (refine Wx.pure hq rfl rfl rfl rfl (rp_indexAddr i rfl rfl rfl rfl rfl hpp rfl hip) ?_)
          first | (refine Wx.skip hq rfl rfl rfl rfl ?_) | (refine Wx.val hq rfl rfl rfl rfl ([]) (rv_load rfl rfl (fun u hu => hLp u zxc)) ?_)
          first | (refine Wx.actSkip rfl rfl rfl rfl ?_) | (refine Wx.actNew rfl rfl rfl rfl (acts_call rfl rfl rfl (length_at_r s (parB s.br i) _ (hin.ext0 zxc) (by omega))) ?_; rintro v8 w8 e8 rfl; have hz8 := e8.size)
          first | (refine Wx.skip hq rfl rfl rfl rfl ?_) | (refine Wx.pure hq rfl rfl rfl rfl zbc ?_)
          refine Wx.pure hq rfl rfl rfl rfl zpk ?_
          refine Wx.fin ?_
          refine zct ?_
          refine ztx ?_
          refine Ox.pure rfl rfl zas ?_
          refine Ox.fin ?_
          refine zrt ?_
          exact endE_ret [_] ⟨rfl, trivial⟩ ⟨zxc, congrArg Value.bool (decide_eq_false hno).symm⟩
    refine ztx ?_
    refine Ox.pure rfl rfl zmv ?_
    refine Ox.pure rfl rfl zmv ?_
    refine Ox.pure rfl rfl zbc ?_
    refine Ox.fin ?_
    refine zct ?_
    refine zsk ?_
    refine zbl ?_
    (repeat refine Sx.seq ?_)
    refine Sx.walkR rfl (fun _ _ _ _ h => h) [0, 1, 2, 3, 4, 5, 6, 7, 8, 9, 10, 11, 12, 13, 14, 15, 16, 17, 18, 19, 20, 21, 22, 23, 24, 25, 26, 27, 28, 29, 30, 31, 32, 33, 34, 35, 36, 37] [0, 1, 2, 3, 4, 5, 6, 7, 8, 9, 10, 11, 12, 13, 14, 15, 16, 17, 18, 19, 20, 21, 22, 23, 24, 25, 26, 27, 28, 29, 30, 31, 32, 33, 34, 36, 37] (0) (by kernel_rfl) ?_
    intro hq w9 e9; have hz9 := e9.size
    refine Wx.pure hq rfl rfl rfl rfl zfa ?_
    refine Wx.val hq rfl rfl rfl rfl ([]) zrs ?_
    refine Wx.pure hq rfl rfl rfl rfl zmv ?_
    refine Wx.pure hq rfl rfl rfl rfl (rp_indexAddr i rfl rfl rfl rfl rfl hpp rfl hip) ?_
    refine Wx.val hq rfl rfl rfl rfl ([]) (rv_load rfl rfl (fun u hu => hLp u zxc)) ?_
    refine Wx.pure hq rfl rfl rfl rfl zbc ?_
    refine Wx.pure hq rfl rfl rfl rfl zmv ?_
    first | (refine Wx.skip hq rfl rfl rfl rfl ?_) | (refine Wx.pure hq rfl rfl rfl rfl zfa ?_)
    first | (refine Wx.skip hq rfl rfl rfl rfl ?_) | (refine Wx.val hq rfl rfl rfl rfl ([]) zrs ?_)
    first | (refine Wx.skip hq rfl rfl rfl rfl ?_) | (refine Wx.pure hq rfl rfl rfl rfl zmv ?_)
    first | (refine Wx.skip hq rfl rfl rfl rfl ?_) | (refine Wx.pure hq rfl rfl rfl rfl (rp_indexAddr i rfl rfl rfl rfl rfl hpp rfl hip) ?_)
    first | (refine Wx.skip hq rfl rfl rfl rfl ?_) | (refine Wx.val hq rfl rfl rfl rfl ([]) (rv_load rfl rfl (fun u hu => hLp u zxc)) ?_)
    first | (refine Wx.skip hq rfl rfl rfl rfl ?_) | (refine Wx.pure hq rfl rfl rfl rfl zmv ?_)
    first | (refine Wx.skip hq rfl rfl rfl rfl ?_) | (refine Wx.pure hq rfl rfl rfl rfl zbc ?_)
    refine Wx.pure hq rfl rfl rfl rfl zpk ?_
    refine Wx.pure hq rfl rfl rfl rfl zmv ?_
    first | (refine Wx.skip hq rfl rfl rfl rfl ?_) | (refine Wx.pure hq rfl rfl rfl rfl zfa ?_)
    first | (refine Wx.skip hq rfl rfl rfl rfl ?_) | (refine Wx.val hq rfl rfl rfl rfl ([]) zrs ?_)
    first | (refine Wx.skip hq rfl rfl rfl rfl ?_) | (refine Wx.pure hq rfl rfl rfl rfl zmv ?_)
    first | (refine Wx.skip hq rfl rfl rfl rfl ?_) | (refine Wx.pure hq rfl rfl rfl rfl (rp_indexAddr i rfl rfl rfl rfl rfl hkp rfl hik) ?_)
    first | (refine Wx.skip hq rfl rfl rfl rfl ?_) | (refine Wx.val hq rfl rfl rfl rfl ([]) (rv_load rfl rfl (fun u hu => hLk u zxc)) ?_)
    first | (refine Wx.skip hq rfl rfl rfl rfl ?_) | (refine Wx.pure hq rfl rfl rfl rfl zbc ?_)
    refine Wx.pure hq rfl rfl rfl rfl zpk ?_
    refine Wx.pure hq rfl rfl rfl rfl zmv ?_
    first | (refine Wx.skip hq rfl rfl rfl rfl ?_) | (refine Wx.pure hq rfl rfl rfl rfl zfa ?_)
    first | (refine Wx.skip hq rfl rfl rfl rfl ?_) | (refine Wx.val hq rfl rfl rfl rfl ([]) zrs ?_)
    first | (refine Wx.skip hq rfl rfl rfl rfl ?_) | (refine Wx.pure hq rfl rfl rfl rfl zmv ?_)
    first | (refine Wx.skip hq rfl rfl rfl rfl ?_) | (refine Wx.pure hq rfl rfl rfl rfl (rp_indexAddr i rfl rfl rfl rfl rfl hkp rfl hik) ?_)
    first | (refine Wx.skip hq rfl rfl rfl rfl ?_) | (refine Wx.val hq rfl rfl rfl rfl ([]) (rv_load rfl rfl (fun u hu => hLk u zxc)) ?_)
    first | (refine Wx.skip hq rfl rfl rfl rfl ?_) | (refine Wx.val hq rfl rfl rfl rfl ([]) zra ?_)
    first | (refine Wx.skip hq rfl rfl rfl rfl ?_) | (refine Wx.pure hq rfl rfl rfl rfl zfa ?_)
    first | (refine Wx.skip hq rfl rfl rfl rfl ?_) | (refine Wx.val hq rfl rfl rfl rfl ([]) zrs ?_)
    first | (refine Wx.skip hq rfl rfl rfl rfl ?_) | (refine Wx.pure hq rfl rfl rfl rfl zmv ?_)
    first | (refine Wx.skip hq rfl rfl rfl rfl ?_) | (refine Wx.pure hq rfl rfl rfl rfl (rp_indexAddr i rfl rfl rfl rfl rfl hpp rfl hip) ?_)
    first | (refine Wx.skip hq rfl rfl rfl rfl ?_) | (refine Wx.val hq rfl rfl rfl rfl ([]) (rv_load rfl rfl (fun u hu => hLp u zxc)) ?_)
    first | (refine Wx.actSkip rfl rfl rfl rfl ?_) | (refine Wx.actNew rfl rfl rfl rfl (acts_call rfl rfl rfl (length_at_r s (parB s.br i) _ (hin.ext0 zxc) (by omega))) ?_; rintro v10 w10 e10 rfl; have hz10 := e10.size)
    first | (refine Wx.skip hq rfl rfl rfl rfl ?_) | (refine Wx.pure hq rfl rfl rfl rfl zbc ?_)
    refine Wx.pure hq rfl rfl rfl rfl zpk ?_
    refine Wx.fin ?_
    refine zcf ?_
    refine zsk ?_
    refine ztx ?_
    refine Ox.pure rfl rfl zmv ?_
    refine Ox.pure rfl rfl zba ?_
    refine Ox.pure rfl rfl zas ?_
    refine Ox.fin ?_
    exact ⟨i + 1, _, sub_cons rfl (sub_cons rfl (sub_cons rfl sub_nil)), ⟨rfl, hlt, zxc, fun j hj => by
      rcases Nat.lt_or_ge j i with h | h
      · exact hall j h
      · obtain rfl : j = i := by omega
        exact ⟨⟨by assumption, by assumption⟩, by assumption, by assumption⟩⟩, by omega⟩
  obtain rfl : i = s.bls.length := by omega
  have hf : Formed s.br := ⟨by omega, by show s.par.length = _; omega, by show s.fks.length = _; omega, by show s.done.length = _; omega, fun j hj => hall j (by omega)⟩
  refine ztx ?_
  refine Ox.pure rfl rfl zmv ?_
  refine Ox.pure rfl rfl zmv ?_
  refine Ox.pure rfl rfl zbc ?_
  refine Ox.fin ?_
  refine zcf ?_
  refine zex ?_
  refine ztx ?_
  refine Ox.pure rfl rfl zas ?_
  refine Ox.fin ?_
  refine zrt ?_
  exact endE_ret [_] ⟨rfl, trivial⟩ ⟨zxc, congrArg Value.bool (decide_eq_true hf).symm⟩

theorem refValid_br (s : Bs) (hsm : Small s) (w : World) (hin : BsIn s w) :
    Calls Try.prog 39 #[.agg (bvc s).toArray] w (Ret fun r w' => Ext [] w w' ∧ r = .bool (decide (ValidB s.br))) := by
  have hbf := hin.bls.few
  have hbp := hin.bls.ptr
  have hbr := hin.bls.row
  have hbl := br_len s
  refine calls_of_Sx (args := [.agg (bvc s).toArray]) Try.func39 rfl rfl ?_
  by_cases hf : Formed s.br; rotate_left
  · refine ztx ?_
    refine Ox.act rfl rfl (acts_box rfl rfl) ?_
    rintro vb1 wb1 ⟨eb1, bb1, rfl, hbb1, hBb1⟩
    first | (have hCb1 : Cells wb1 ⟨bb1, 0, none⟩ [_, _, _, _, _] := hBb1.cells) | have hCb1 := Blk.cellsL hBb1
    have hlb1 := hBb1.lt
    have hzb1 := eb1.size
    refine Ox.pure rfl rfl zas ?_
    refine Ox.fin ?_
    refine ztx ?_
    refine Ox.val rfl rfl zra ?_
    refine Ox.act rfl rfl (acts_call rfl rfl rfl (refFormed_at s _ (hin.ext0 zxc))) ?_
    rintro v11 w11 ⟨e11, rfl⟩
    have hz11 := e11.size
    first | rw [decide_eq_true hf] | rw [decide_eq_false hf]
    refine Ox.pure rfl rfl (rp_not rfl rfl) ?_
    refine Ox.pure rfl rfl zmv ?_
    first | (refine Ox.skip rfl rfl ?_) | (refine Ox.pure rfl rfl zfa ?_)
    first | (refine Ox.skip rfl rfl ?_) | (refine Ox.val rfl rfl zrs ?_)
    first | (refine Ox.skip rfl rfl ?_) | (refine Ox.act rfl rfl (acts_call rfl rfl rfl (ref_Check s.base s.p0 s.A0 s.c0 _ (hin.base.ext0 zxc))) ?_; rintro v12 w12 ⟨e12, rfl⟩; have hz12 := e12.size)
    first | (refine Ox.skip rfl rfl ?_) | (refine Ox.pure rfl rfl zbc ?_)
    refine Ox.pure rfl rfl zpk ?_
    refine Ox.fin ?_
    refine zct ?_
    refine ztx ?_
    refine Ox.pure rfl rfl zas ?_
    refine Ox.fin ?_
    refine zrt ?_
    exact endE_ret [_] ⟨rfl, trivial⟩ ⟨zxc, congrArg Value.bool (decide_eq_false (fun h => hf h.1)).symm⟩
  by_cases hck : checkL s.base = 0; rotate_left
  · refine ztx ?_
    refine Ox.act rfl rfl (acts_box rfl rfl) ?_
    rintro vb1 wb1 ⟨eb1, bb1, rfl, hbb1, hBb1⟩
    first | (have hCb1 : Cells wb1 ⟨bb1, 0, none⟩ [_, _, _, _, _] := hBb1.cells) | have hCb1 := Blk.cellsL hBb1
    have hlb1 := hBb1.lt
    have hzb1 := eb1.size
    refine Ox.pure rfl rfl zas ?_
    refine Ox.fin ?_
    refine ztx ?_
    refine Ox.val rfl rfl zra ?_
    refine Ox.act rfl rfl (acts_call rfl rfl rfl (refFormed_at s _ (hin.ext0 zxc))) ?_
    rintro v13 w13 ⟨e13, rfl⟩
    have hz13 := e13.size
    first | rw [decide_eq_true hf] | rw [decide_eq_false hf]
    refine Ox.pure rfl rfl (rp_not rfl rfl) ?_
    refine Ox.pure rfl rfl zmv ?_
    first | (refine Ox.skip rfl rfl ?_) | (refine Ox.pure rfl rfl zfa ?_)
    first | (refine Ox.skip rfl rfl ?_) | (refine Ox.val rfl rfl zrs ?_)
    first | (refine Ox.skip rfl rfl ?_) | (refine Ox.act rfl rfl (acts_call rfl rfl rfl (ref_Check s.base s.p0 s.A0 s.c0 _ (hin.base.ext0 zxc))) ?_; rintro v14 w14 ⟨e14, rfl⟩; have hz14 := e14.size)
    first | (refine Ox.skip rfl rfl ?_) | (refine Ox.pure rfl rfl zbc ?_)
    refine Ox.pure rfl rfl zpk ?_
    refine Ox.fin ?_
    refine zct ?_
    refine ztx ?_
    refine Ox.pure rfl rfl zas ?_
    refine Ox.fin ?_
    refine zrt ?_
    exact endE_ret [_] ⟨rfl, trivial⟩ ⟨zxc, congrArg Value.bool (decide_eq_false (fun h => hck h.2.1)).symm⟩
  refine ztx ?_
  refine Ox.act rfl rfl (acts_box rfl rfl) ?_
  rintro vb1 wb1 ⟨eb1, bb1, rfl, hbb1, hBb1⟩
  first | (have hCb1 : Cells wb1 ⟨bb1, 0, none⟩ [_, _, _, _, _] := hBb1.cells) | have hCb1 := Blk.cellsL hBb1
  have hlb1 := hBb1.lt
  have hzb1 := eb1.size
  refine Ox.pure rfl rfl zas ?_
  refine Ox.fin ?_
  refine ztx ?_
  refine Ox.val rfl rfl zra ?_
  refine Ox.act rfl rfl (acts_call rfl rfl rfl (refFormed_at s _ (hin.ext0 zxc))) ?_
  rintro v15 w15 ⟨e15, rfl⟩
  have hz15 := e15.size
  first | rw [decide_eq_true hf] | rw [decide_eq_false hf]
  refine Ox.pure rfl rfl (rp_not rfl rfl) ?_
  refine Ox.pure rfl rfl zmv ?_
  first | (refine Ox.skip rfl rfl ?_) | (refine Ox.pure rfl rfl zfa ?_)
  first | (refine Ox.skip rfl rfl ?_) | (refine Ox.val rfl rfl zrs ?_)
  first | (refine Ox.skip rfl rfl ?_) | (refine Ox.act rfl rfl (acts_call rfl rfl rfl (ref_Check s.base s.p0 s.A0 s.c0 _ (hin.base.ext0 zxc))) ?_; rintro v16 w16 ⟨e16, rfl⟩; have hz16 := e16.size)
  first | (refine Ox.skip rfl rfl ?_) | (refine Ox.pure rfl rfl zbc ?_)
  refine Ox.pure rfl rfl zpk ?_
  refine Ox.fin ?_
  refine zcf ?_
  refine zsk ?_
  refine ztx ?_
  refine Ox.pure rfl rfl zas ?_
  refine Ox.fin ?_
  refine zbl ?_
  refine Sx.loop (ι := Nat) (fun i E wk => E = [(1, .pointer (some ⟨bb1, 0, none⟩)), (3, .int .i64 (i : Int))] ∧ i ≤ s.bls.length ∧ Ext [] wb1 wk ∧ ∀ j : Nat, j < i → (ofB s.br (j : Int)).2 = 0) (fun i => s.bls.length - i) 0
    (sub_cons rfl (sub_cons rfl sub_nil)) ⟨rfl, Nat.zero_le _, zxc, fun j h => absurd h (Nat.not_lt_zero _)⟩ ?_
  rintro i E wk ⟨rfl, hi2, ek, hof⟩
  have hzk := ek.size
  by_cases hlt : i < s.bls.length
  · have hle : lenB s.br (i : Int) = s.bls[i].l.length := by unfold lenB; rw [if_neg (by omega)]; show (brB s.br i).length = _; rw [brB_eq hlt]
    have hw : ∀ u, Ext [] w u → Calls Try.prog 46 #[.agg (bvc s).toArray, .int .i64 (i : Int), .int .i64 (s.bls[i].l.length : Int)] u (Ret fun r w' => Ext [] u w' ∧ RRec w' r (ofB s.br (i : Int))) := fun u hu => by
      rw [← hle]; exact refOf_no s hf hck hsm (i : Int) (by omega) (by omega) u (hin.ext0 hu)
    by_cases hz5 : (ofB s.br (i : Int)).2 = 0
    · refine ztx ?_
      refine Ox.pure rfl rfl zmv ?_
      refine Ox.pure rfl rfl zfa ?_
      refine Ox.val rfl rfl zrs ?_
      refine Ox.pure rfl rfl (rp_lenS rfl rfl rfl) ?_
      refine Ox.pure rfl rfl zbc ?_
      refine Ox.fin ?_
      refine zct ?_
      refine zsk ?_
      refine zbl ?_
      (repeat refine Sx.seq ?_)
      refine Sx.walkR rfl (fun _ _ _ _ h => h) [0, 1, 2, 3, 4, 5, 6, 7, 8, 9, 10, 11, 12, 13] [0, 1, 2, 3, 4, 5, 6, 7, 9, 10, 11, 12, 13] (0) (by kernel_rfl) ?_
      intro hq w17 e17; have hz17 := e17.size
      refine Wx.val hq rfl rfl rfl rfl ([]) zra ?_
      refine Wx.pure hq rfl rfl rfl rfl zmv ?_
      refine Wx.pure hq rfl rfl rfl rfl zfa ?_
      refine Wx.val hq rfl rfl rfl rfl ([]) zrs ?_
      refine Wx.pure hq rfl rfl rfl rfl zmv ?_
      refine Wx.pure hq rfl rfl rfl rfl (rp_indexAddr i rfl rfl rfl rfl rfl hbp rfl hlt) ?_
      refine Wx.val hq rfl rfl rfl rfl ([]) (rv_load rfl rfl (fun u hu => ld_field blc_len (hbr.ext0 zxc) hlt 0 rfl (by decide) rfl)) ?_
      refine Wx.pure hq rfl rfl rfl rfl (rp_lenS rfl rfl rfl) ?_
      refine Wx.actNew rfl rfl rfl rfl (acts_call rfl rfl rfl (hw _ zxc)) ?_
      rintro v18 w18 e18 ⟨p5, A5, c5, rfl, hs5⟩
      have hz18 := e18.size
      refine Wx.pure hq rfl rfl rfl rfl zmv ?_
      refine Wx.pure hq rfl rfl rfl rfl (rp_extract rfl rfl rfl) ?_
      refine Wx.pure hq rfl rfl rfl rfl (rp_extract rfl rfl rfl) ?_
      refine Wx.pure hq rfl rfl rfl rfl zas ?_
      refine Wx.pure hq rfl rfl rfl rfl zas ?_
      refine Wx.fin ?_
      refine ztx ?_
      refine Ox.pure rfl rfl zmv ?_
      refine Ox.pure rfl rfl zbc ?_
      refine Ox.fin ?_
      refine zcf ?_
      refine zsk ?_
      refine ztx ?_
      refine Ox.pure rfl rfl zmv ?_
      refine Ox.pure rfl rfl zba ?_
      refine Ox.pure rfl rfl zas ?_
      refine Ox.fin ?_
      exact ⟨i + 1, _, sub_cons rfl (sub_cons rfl sub_nil), ⟨rfl, hlt, zxc, fun j hj => by
        rcases Nat.lt_or_ge j i with h | h
        · exact hof j h
        · obtain rfl : j = i := by omega
          exact hz5⟩, by omega⟩
    · refine ztx ?_
      refine Ox.pure rfl rfl zmv ?_
      refine Ox.pure rfl rfl zfa ?_
      refine Ox.val rfl rfl zrs ?_
      refine Ox.pure rfl rfl (rp_lenS rfl rfl rfl) ?_
      refine Ox.pure rfl rfl zbc ?_
      refine Ox.fin ?_
      refine zct ?_
      refine zsk ?_
      refine zbl ?_
      (repeat refine Sx.seq ?_)
      refine Sx.walkR rfl (fun _ _ _ _ h => h) [0, 1, 2, 3, 4, 5, 6, 7, 8, 9, 10, 11, 12, 13] [0, 1, 2, 3, 4, 5, 6, 7, 9, 10, 11, 12, 13] (0) (by kernel_rfl) ?_
      intro hq w19 e19; have hz19 := e19.size
      refine Wx.val hq rfl rfl rfl rfl ([]) zra ?_
      refine Wx.pure hq rfl rfl rfl rfl zmv ?_
      refine Wx.pure hq rfl rfl rfl rfl zfa ?_
      refine Wx.val hq rfl rfl rfl rfl ([]) zrs ?_
      refine Wx.pure hq rfl rfl rfl rfl zmv ?_
      refine Wx.pure hq rfl rfl rfl rfl (rp_indexAddr i rfl rfl rfl rfl rfl hbp rfl hlt) ?_
      refine Wx.val hq rfl rfl rfl rfl ([]) (rv_load rfl rfl (fun u hu => ld_field blc_len (hbr.ext0 zxc) hlt 0 rfl (by decide) rfl)) ?_
      refine Wx.pure hq rfl rfl rfl rfl (rp_lenS rfl rfl rfl) ?_
      refine Wx.actNew rfl rfl rfl rfl (acts_call rfl rfl rfl (hw _ zxc)) ?_
      rintro v20 w20 e20 ⟨p5, A5, c5, rfl, hs5⟩
      have hz20 := e20.size
      refine Wx.pure hq rfl rfl rfl rfl zmv ?_
      refine Wx.pure hq rfl rfl rfl rfl (rp_extract rfl rfl rfl) ?_
      refine Wx.pure hq rfl rfl rfl rfl (rp_extract rfl rfl rfl) ?_
      refine Wx.pure hq rfl rfl rfl rfl zas ?_
      refine Wx.pure hq rfl rfl rfl rfl zas ?_
      refine Wx.fin ?_
      refine ztx ?_
      refine Ox.pure rfl rfl zmv ?_
      refine Ox.pure rfl rfl zbc ?_
      refine Ox.fin ?_
      refine zct ?_
      refine ztx ?_
      refine Ox.pure rfl rfl zas ?_
      refine Ox.fin ?_
      refine zrt ?_
      exact endE_ret [_] ⟨rfl, trivial⟩ ⟨zxc, congrArg Value.bool (decide_eq_false (fun h => hz5 (h.2.2 i (by omega)))).symm⟩
  · refine ztx ?_
    refine Ox.pure rfl rfl zmv ?_
    refine Ox.pure rfl rfl zfa ?_
    refine Ox.val rfl rfl zrs ?_
    refine Ox.pure rfl rfl (rp_lenS rfl rfl rfl) ?_
    refine Ox.pure rfl rfl zbc ?_
    refine Ox.fin ?_
    refine zcf ?_
    refine zex ?_
    refine ztx ?_
    refine Ox.pure rfl rfl zas ?_
    refine Ox.fin ?_
    refine zrt ?_
    exact endE_ret [_] ⟨rfl, trivial⟩ ⟨zxc, congrArg Value.bool (decide_eq_true (⟨hf, hck, fun j hj => hof j (by omega)⟩ : ValidB s.br)).symm⟩

theorem refNew_at (l : List Fct) (p : Option Addr) (A : Addr) (c : Nat) (w : World) (hs : SlV fc w p A l c) :
    Calls Try.prog 13 #[.slice p l.length c] w (Ret fun r w' => Ext [] w w' ∧ ∃ v, r = .tuple #[v, .int .i64 (newB l).2] ∧ RBr w.heap.size w' v (newB l).1) := by
  refine calls_of_Sx (args := [.slice p l.length c]) Try.func13 rfl rfl ?_
  by_cases h0 : checkL l = 0
  · have he : newB l = (⟨l, [], [], [], []⟩, 0) := if_neg (fun h => h h0)
    refine ztx ?_
    refine Ox.act rfl rfl (acts_alloc rfl rfl) ?_
    rintro vb2 wb2 ⟨eb2, bb2, rfl, hbb2, hBb2⟩
    first | (have hCb2 : Cells wb2 ⟨bb2, 0, none⟩ [_, _, _, _, _] := hBb2.cells) | have hCb2 := Blk.cellsL hBb2
    have hlb2 := hBb2.lt
    have hzb2 := eb2.size
    refine Ox.pure rfl rfl zas ?_
    refine Ox.fin ?_
    refine ztx ?_
    refine Ox.pure rfl rfl zmv ?_
    refine Ox.act rfl rfl (acts_call rfl rfl rfl (ref_Check l p A c _ (hs.ext0 zxc))) ?_
    rintro v21 w21 ⟨e21, rfl⟩
    have hz21 := e21.size
    refine Ox.pure rfl rfl zas ?_
    refine Ox.fin ?_
    refine ztx ?_
    refine Ox.pure rfl rfl zmv ?_
    refine Ox.pure rfl rfl zbc ?_
    refine Ox.fin ?_
    refine zcf ?_
    refine zsk ?_
    refine ztx ?_
    refine Ox.pure rfl rfl zmv ?_
    refine Ox.pure rfl rfl (rp_buildS (ps := [(0, .tmp 11)]) rfl rfl rfl rfl rfl) ?_
    refine Ox.act rfl rfl (acts_store_all rfl rfl rfl (hBb2.ext (X := []) zxc (by simp)) rfl rfl rfl (by (first | assumption | exact List.all_eq_true.mp rfl | simp [Value.cells, Value.oneCell']))) ?_
    rintro vs4 ws4 ⟨rfl, qs4, hBs4⟩
    have es4 : Ext [] w ws4 := Ext.renew zxc qs4 (by omega)
    refine Ox.pure rfl rfl zas ?_
    refine Ox.fin ?_
    refine zrt ?_
    exact endE_ret [.agg #[.slice p l.length c, .slice none 0 0, .slice none 0 0, .slice none 0 0, .slice none 0 0], .int .i64 0] ⟨⟨⟨bb2, 0, none⟩, rfl, hBs4.cellsL.ldA rfl rfl⟩, rfl, trivial⟩ ⟨zxc, _, by rw [he]; rfl, by rw [he]; exact ⟨⟨l, p, A, c, [], none, ⟨0, 0, none⟩, 0, [], none, ⟨0, 0, none⟩, 0, [], none, ⟨0, 0, none⟩, 0, [], none, ⟨0, 0, none⟩, 0⟩, rfl, ⟨hs.ext0 zxc, SlV.nil _ _, fun x h => (by cases h), SlV.nil _ _, SlV.nil _ _, SlV.nil _ _⟩, rfl, fun h => absurd h (by simp)⟩⟩
  · have he : newB l = (Br0, checkL l) := if_pos h0
    refine ztx ?_
    refine Ox.act rfl rfl (acts_alloc rfl rfl) ?_
    rintro vb2 wb2 ⟨eb2, bb2, rfl, hbb2, hBb2⟩
    first | (have hCb2 : Cells wb2 ⟨bb2, 0, none⟩ [_, _, _, _, _] := hBb2.cells) | have hCb2 := Blk.cellsL hBb2
    have hlb2 := hBb2.lt
    have hzb2 := eb2.size
    refine Ox.pure rfl rfl zas ?_
    refine Ox.fin ?_
    refine ztx ?_
    refine Ox.pure rfl rfl zmv ?_
    refine Ox.act rfl rfl (acts_call rfl rfl rfl (ref_Check l p A c _ (hs.ext0 zxc))) ?_
    rintro v22 w22 ⟨e22, rfl⟩
    have hz22 := e22.size
    refine Ox.pure rfl rfl zas ?_
    refine Ox.fin ?_
    refine ztx ?_
    refine Ox.pure rfl rfl zmv ?_
    refine Ox.pure rfl rfl zbc ?_
    refine Ox.fin ?_
    refine zct ?_
    refine ztx ?_
    refine Ox.pure rfl rfl (rp_buildS (ps := []) rfl rfl rfl rfl rfl) ?_
    refine Ox.pure rfl rfl zmv ?_
    refine Ox.act rfl rfl (acts_store_all rfl rfl rfl (hBb2.ext (X := []) zxc (by simp)) rfl rfl rfl (bvc_one Bs0)) ?_
    rintro vs3 ws3 ⟨rfl, qs3, hBs3⟩
    have es3 : Ext [] w ws3 := Ext.renew zxc qs3 (by omega)
    refine Ox.pure rfl rfl zas ?_
    refine Ox.fin ?_
    refine zrt ?_
    exact endE_ret [.agg (bvc Bs0).toArray, .int .i64 (checkL l)] ⟨⟨⟨bb2, 0, none⟩, rfl, hBs3.cellsL.ldA rfl rfl⟩, rfl, trivial⟩ ⟨zxc, _, by rw [he]; rfl, by rw [he]; exact RBr.zero _ _⟩

theorem refFacts_br (s : Bs) (hsm : Small s) (no : Int) (w : World) (hin : BsIn s w) :
    Calls Try.prog 20 #[.agg (bvc s).toArray, .int .i64 no] w (Ret fun r w' => Ext [] w w' ∧ RRec w' r (factsB s.br no)) := by
  have hbl := br_len s
  have hbf := hin.bls.few
  refine calls_of_Sx (args := [.agg (bvc s).toArray, .int .i64 no]) Try.func20 rfl rfl ?_
  by_cases hv : ValidB s.br; rotate_left
  · have he : factsB s.br no = ([], 540) := if_pos hv
    refine ztx ?_
    refine Ox.act rfl rfl (acts_box rfl rfl) ?_
    rintro vb2 wb2 ⟨eb2, bb2, rfl, hbb2, hBb2⟩
    first | (have hCb2 : Cells wb2 ⟨bb2, 0, none⟩ [_, _, _, _, _] := hBb2.cells) | have hCb2 := Blk.cellsL hBb2
    have hlb2 := hBb2.lt
    have hzb2 := eb2.size
    refine Ox.pure rfl rfl zas ?_
    refine Ox.pure rfl rfl zas ?_
    refine Ox.fin ?_
    refine ztx ?_
    refine Ox.val rfl rfl zra ?_
    refine Ox.act rfl rfl (acts_call rfl rfl rfl (refValid_br s hsm _ (hin.ext0 zxc))) ?_
    rintro v23 w23 ⟨e23, rfl⟩
    have hz23 := e23.size
    first | rw [decide_eq_true hv] | rw [decide_eq_false hv]
    refine Ox.pure rfl rfl (rp_not rfl rfl) ?_
    refine Ox.fin ?_
    refine zct ?_
    refine ztx ?_
    refine Ox.pure rfl rfl zas ?_
    refine Ox.pure rfl rfl zas ?_
    refine Ox.fin ?_
    refine zrt ?_
    exact endE_ret [.slice none 0 0, .int .i64 540] ⟨rfl, rfl, trivial⟩ ⟨zxc, by rw [he]; exact ⟨none, ⟨0, 0, none⟩, 0, rfl, SlV.nil _ _⟩⟩
  by_cases hch1 : -1 ≤ no; rotate_left
  ·   have he : factsB s.br no = ([], 1) := (if_neg (fun h => h hv)).trans (if_pos (by omega))
      refine ztx ?_
      refine Ox.act rfl rfl (acts_box rfl rfl) ?_
      rintro vb2 wb2 ⟨eb2, bb2, rfl, hbb2, hBb2⟩
      first | (have hCb2 : Cells wb2 ⟨bb2, 0, none⟩ [_, _, _, _, _] := hBb2.cells) | have hCb2 := Blk.cellsL hBb2
      have hlb2 := hBb2.lt
      have hzb2 := eb2.size
      refine Ox.pure rfl rfl zas ?_
      refine Ox.pure rfl rfl zas ?_
      refine Ox.fin ?_
      refine ztx ?_
      refine Ox.val rfl rfl zra ?_
      refine Ox.act rfl rfl (acts_call rfl rfl rfl (refValid_br s hsm _ (hin.ext0 zxc))) ?_
      rintro v24 w24 ⟨e24, rfl⟩
      have hz24 := e24.size
      first | rw [decide_eq_true hv] | rw [decide_eq_false hv]
      refine Ox.pure rfl rfl (rp_not rfl rfl) ?_
      refine Ox.fin ?_
      refine zcf ?_
      refine zsk ?_
      refine ztx ?_
      refine Ox.pure rfl rfl zmv ?_
      refine Ox.pure rfl rfl zbc ?_
      refine Ox.pure rfl rfl zmv ?_
      first | (refine Ox.skip rfl rfl ?_) | (refine Ox.pure rfl rfl zmv ?_)
      first | (refine Ox.skip rfl rfl ?_) | (refine Ox.pure rfl rfl zfa ?_)
      first | (refine Ox.skip rfl rfl ?_) | (refine Ox.val rfl rfl zrs ?_)
      first | (refine Ox.skip rfl rfl ?_) | (refine Ox.pure rfl rfl (rp_lenS rfl rfl rfl) ?_)
      first | (refine Ox.skip rfl rfl ?_) | (refine Ox.pure rfl rfl zbc ?_)
      refine Ox.pure rfl rfl zpk ?_
      refine Ox.fin ?_
      refine zct ?_
      refine ztx ?_
      refine Ox.pure rfl rfl zas ?_
      refine Ox.pure rfl rfl zas ?_
      refine Ox.fin ?_
      refine zrt ?_
      exact endE_ret [.slice none 0 0, .int .i64 1] ⟨rfl, rfl, trivial⟩ ⟨zxc, by rw [he]; exact ⟨none, ⟨0, 0, none⟩, 0, rfl, SlV.nil _ _⟩⟩
  by_cases hch2 : no < (s.bls.length : Int); rotate_left
  ·   have he : factsB s.br no = ([], 1) := (if_neg (fun h => h hv)).trans (if_pos (by omega))
      refine ztx ?_
      refine Ox.act rfl rfl (acts_box rfl rfl) ?_
      rintro vb2 wb2 ⟨eb2, bb2, rfl, hbb2, hBb2⟩
      first | (have hCb2 : Cells wb2 ⟨bb2, 0, none⟩ [_, _, _, _, _] := hBb2.cells) | have hCb2 := Blk.cellsL hBb2
      have hlb2 := hBb2.lt
      have hzb2 := eb2.size
      refine Ox.pure rfl rfl zas ?_
      refine Ox.pure rfl rfl zas ?_
      refine Ox.fin ?_
      refine ztx ?_
      refine Ox.val rfl rfl zra ?_
      refine Ox.act rfl rfl (acts_call rfl rfl rfl (refValid_br s hsm _ (hin.ext0 zxc))) ?_
      rintro v25 w25 ⟨e25, rfl⟩
      have hz25 := e25.size
      first | rw [decide_eq_true hv] | rw [decide_eq_false hv]
      refine Ox.pure rfl rfl (rp_not rfl rfl) ?_
      refine Ox.fin ?_
      refine zcf ?_
      refine zsk ?_
      refine ztx ?_
      refine Ox.pure rfl rfl zmv ?_
      refine Ox.pure rfl rfl zbc ?_
      refine Ox.pure rfl rfl zmv ?_
      first | (refine Ox.skip rfl rfl ?_) | (refine Ox.pure rfl rfl zmv ?_)
      first | (refine Ox.skip rfl rfl ?_) | (refine Ox.pure rfl rfl zfa ?_)
      first | (refine Ox.skip rfl rfl ?_) | (refine Ox.val rfl rfl zrs ?_)
      first | (refine Ox.skip rfl rfl ?_) | (refine Ox.pure rfl rfl (rp_lenS rfl rfl rfl) ?_)
      first | (refine Ox.skip rfl rfl ?_) | (refine Ox.pure rfl rfl zbc ?_)
      refine Ox.pure rfl rfl zpk ?_
      refine Ox.fin ?_
      refine zct ?_
      refine ztx ?_
      refine Ox.pure rfl rfl zas ?_
      refine Ox.pure rfl rfl zas ?_
      refine Ox.fin ?_
      refine zrt ?_
      exact endE_ret [.slice none 0 0, .int .i64 1] ⟨rfl, rfl, trivial⟩ ⟨zxc, by rw [he]; exact ⟨none, ⟨0, 0, none⟩, 0, rfl, SlV.nil _ _⟩⟩
  have he : factsB s.br no = ofB s.br no := (if_neg (fun h => h hv)).trans (if_neg (by omega))
  refine ztx ?_
  refine Ox.act rfl rfl (acts_box rfl rfl) ?_
  rintro vb2 wb2 ⟨eb2, bb2, rfl, hbb2, hBb2⟩
  first | (have hCb2 : Cells wb2 ⟨bb2, 0, none⟩ [_, _, _, _, _] := hBb2.cells) | have hCb2 := Blk.cellsL hBb2
  have hlb2 := hBb2.lt
  have hzb2 := eb2.size
  refine Ox.pure rfl rfl zas ?_
  refine Ox.pure rfl rfl zas ?_
  refine Ox.fin ?_
  refine ztx ?_
  refine Ox.val rfl rfl zra ?_
  refine Ox.act rfl rfl (acts_call rfl rfl rfl (refValid_br s hsm _ (hin.ext0 zxc))) ?_
  rintro v26 w26 ⟨e26, rfl⟩
  have hz26 := e26.size
  first | rw [decide_eq_true hv] | rw [decide_eq_false hv]
  refine Ox.pure rfl rfl (rp_not rfl rfl) ?_
  refine Ox.fin ?_
  refine zcf ?_
  refine zsk ?_
  refine ztx ?_
  refine Ox.pure rfl rfl zmv ?_
  refine Ox.pure rfl rfl zbc ?_
  refine Ox.pure rfl rfl zmv ?_
  first | (refine Ox.skip rfl rfl ?_) | (refine Ox.pure rfl rfl zmv ?_)
  first | (refine Ox.skip rfl rfl ?_) | (refine Ox.pure rfl rfl zfa ?_)
  first | (refine Ox.skip rfl rfl ?_) | (refine Ox.val rfl rfl zrs ?_)
  first | (refine Ox.skip rfl rfl ?_) | (refine Ox.pure rfl rfl (rp_lenS rfl rfl rfl) ?_)
  first | (refine Ox.skip rfl rfl ?_) | (refine Ox.pure rfl rfl zbc ?_)
  refine Ox.pure rfl rfl zpk ?_
  refine Ox.fin ?_
  refine zcf ?_
  refine zsk ?_
  (repeat refine Sx.seq ?_)
  refine Sx.walkR rfl (fun _ _ _ _ h => h) [0, 1, 2, 3, 4, 5, 6, 7, 8, 9] [0, 1, 2, 3, 6, 7, 8, 9] (0) (by kernel_rfl) ?_
  intro hq w27 e27; have hz27 := e27.size
  refine Wx.val hq rfl rfl rfl rfl ([]) zra ?_
  refine Wx.pure hq rfl rfl rfl rfl zmv ?_
  refine Wx.val hq rfl rfl rfl rfl ([]) zra ?_
  refine Wx.pure hq rfl rfl rfl rfl zmv ?_
  refine Wx.actNew rfl rfl rfl rfl (acts_call rfl rfl rfl (length_at_r s no _ (hin.ext0 zxc) (by assumption))) ?_
  rintro v28 w28 e28 rfl
  have hz28 := e28.size
  refine Wx.actNew rfl rfl rfl rfl (acts_call rfl rfl rfl (refOf_no s hv.1 hv.2.1 hsm no (by assumption) (by assumption) _ (hin.ext0 zxc))) ?_
  rintro v29 w29 e29 ⟨p5, A5, c5, rfl, hs5⟩
  have hz29 := e29.size
  refine Wx.pure hq rfl rfl rfl rfl (rp_extract rfl rfl rfl) ?_
  refine Wx.pure hq rfl rfl rfl rfl (rp_extract rfl rfl rfl) ?_
  refine Wx.pure hq rfl rfl rfl rfl zas ?_
  refine Wx.pure hq rfl rfl rfl rfl zas ?_
  refine Wx.fin ?_
  refine zrt ?_
  exact endE_ret [.slice p5 (ofB s.br no).1.length c5, .int .i64 (ofB s.br no).2] ⟨rfl, rfl, trivial⟩ ⟨zxc, by rw [he]; exact ⟨p5, A5, c5, rfl, hs5.ext0 zxc⟩⟩

end Go.Proofs.Ytfgckcochilpkaa

/- Branches' walks: the reference's Drop, Fork, Change. -/
set_option linter.unusedVariables false
set_option maxRecDepth 100000
set_option maxHeartbeats 4000000
set_option linter.unusedSimpArgs false
namespace Go.Proofs.Ytfgckcochilpkaa
open Go Go.Eng

theorem BsOwn.ext0 {base : Nat} {s : Bs} {w w' : World} (h : BsOwn base s w) (he : Ext [] w w') : BsOwn base s w' :=
  ⟨h.in_.ext0 he, own_keep0 h.obls he, own_keep0 h.opar he, own_keep0 h.ofks he, own_keep0 h.odone he, h.apart⟩
/-- Another variable is written. -/
theorem OB.other {b b' base : Nat} {s : Bs} {w w' : World} {cs : List Value} (h : OB b base s w) (hB : Blk w b' 27 cs) (hq : Ext [b'] w w') (hne : b ≠ b') : OB b base s w' :=
  ⟨h.blk.ext hq (by simpa using hne), own_keep h.o1 hq (own_ne h.o1 hB (by decide)), own_keep h.o2 hq (own_ne h.o2 hB (by decide)), own_keep h.o3 hq (own_ne h.o3 hB (by decide)), own_keep h.o4 hq (own_ne h.o4 hB (by decide)), h.apart⟩
theorem refDrop_at (s : Bs) (hsm : Small s) (hfw : Few s) (no : Int) (w : World) (hin : BsIn s w) :
    Calls Try.prog 25 #[.agg (bvc s).toArray, .int .i64 no] w (Ret fun r w' => Ext [] w w' ∧ ∃ v, r = .tuple #[v, .int .i64 (dropB s.br no).2] ∧ RBr w.heap.size w' v (dropB s.br no).1) := by
  have hbl := br_len s
  refine calls_of_Sx (args := [.agg (bvc s).toArray, .int .i64 no]) Try.func25 rfl rfl ?_
  by_cases hv : ValidB s.br; rotate_left
  · have he : dropB s.br no = (Br0, 540) := if_pos hv
    refine ztx ?_
    refine Ox.act rfl rfl (acts_box rfl rfl) ?_
    rintro vb2 wb2 ⟨eb2, bb2, rfl, hbb2, hBb2⟩
    first | (have hCb2 : Cells wb2 ⟨bb2, 0, none⟩ [_, _, _, _, _] := hBb2.cells) | have hCb2 := Blk.cellsL hBb2
    have hlb2 := hBb2.lt
    have hzb2 := eb2.size
    refine Ox.act rfl rfl (acts_alloc rfl rfl) ?_
    rintro vb4 wb4 ⟨eb4, bb4, rfl, hbb4, hBb4⟩
    first | (have hCb4 : Cells wb4 ⟨bb4, 0, none⟩ [_, _, _, _, _] := hBb4.cells) | have hCb4 := Blk.cellsL hBb4
    have hlb4 := hBb4.lt
    have hzb4 := eb4.size
    refine Ox.pure rfl rfl zas ?_
    refine Ox.fin ?_
    refine ztx ?_
    refine Ox.val rfl rfl zra ?_
    refine Ox.act rfl rfl (acts_call rfl rfl rfl (refValid_br s hsm _ (hin.ext0 zxc))) ?_
    rintro v1 w1 ⟨e1, rfl⟩
    have hz1 := e1.size
    first | rw [decide_eq_true hv] | rw [decide_eq_false hv]
    refine Ox.pure rfl rfl (rp_not rfl rfl) ?_
    refine Ox.fin ?_
    refine zct ?_
    refine ztx ?_
    refine Ox.pure rfl rfl (rp_buildS (ps := []) rfl rfl rfl rfl rfl) ?_
    refine Ox.act rfl rfl (acts_store_all rfl rfl rfl (hBb4.ext (X := []) zxc (by simp)) rfl rfl rfl (bvc_one Bs0)) ?_
    rintro vs2 ws2 ⟨rfl, qs2, hBs2⟩
    have es2 : Ext [] w ws2 := Ext.renew zxc qs2 (by omega)
    refine Ox.pure rfl rfl zas ?_
    refine Ox.fin ?_
    refine zrt ?_
    exact endE_ret [.agg (bvc Bs0).toArray, .int .i64 540] ⟨⟨⟨bb4, 0, none⟩, rfl, hBs2.cellsL.ldA rfl rfl⟩, rfl, trivial⟩ ⟨zxc, _, by rw [he]; rfl, by rw [he]; exact RBr.zero _ _⟩
  have hdl : s.done.length = s.bls.length := by have : s.done.length = s.br.brs.length := hv.1.2.2.2.1; omega
  by_cases ho : OpenB s.br no; rotate_left
  · have he : dropB s.br no = (Br0, 1) := (if_neg (fun h => h hv)).trans (if_pos ho)
    refine ztx ?_
    refine Ox.act rfl rfl (acts_box rfl rfl) ?_
    rintro vb2 wb2 ⟨eb2, bb2, rfl, hbb2, hBb2⟩
    first | (have hCb2 : Cells wb2 ⟨bb2, 0, none⟩ [_, _, _, _, _] := hBb2.cells) | have hCb2 := Blk.cellsL hBb2
    have hlb2 := hBb2.lt
    have hzb2 := eb2.size
    refine Ox.act rfl rfl (acts_alloc rfl rfl) ?_
    rintro vb4 wb4 ⟨eb4, bb4, rfl, hbb4, hBb4⟩
    first | (have hCb4 : Cells wb4 ⟨bb4, 0, none⟩ [_, _, _, _, _] := hBb4.cells) | have hCb4 := Blk.cellsL hBb4
    have hlb4 := hBb4.lt
    have hzb4 := eb4.size
    refine Ox.pure rfl rfl zas ?_
    refine Ox.fin ?_
    refine ztx ?_
    refine Ox.val rfl rfl zra ?_
    refine Ox.act rfl rfl (acts_call rfl rfl rfl (refValid_br s hsm _ (hin.ext0 zxc))) ?_
    rintro v2 w2 ⟨e2, rfl⟩
    have hz2 := e2.size
    first | rw [decide_eq_true hv] | rw [decide_eq_false hv]
    refine Ox.pure rfl rfl (rp_not rfl rfl) ?_
    refine Ox.fin ?_
    refine zcf ?_
    refine zsk ?_
    refine ztx ?_
    refine Ox.val rfl rfl zra ?_
    refine Ox.pure rfl rfl zmv ?_
    refine Ox.act rfl rfl (acts_call rfl rfl rfl (open_at_r s no _ (hin.ext0 zxc) hdl)) ?_
    rintro v3 w3 ⟨e3, rfl⟩
    have hz3 := e3.size
    first | rw [decide_eq_true ho] | rw [decide_eq_false ho]
    refine Ox.pure rfl rfl (rp_not rfl rfl) ?_
    refine Ox.fin ?_
    refine zct ?_
    refine ztx ?_
    refine Ox.pure rfl rfl (rp_buildS (ps := []) rfl rfl rfl rfl rfl) ?_
    refine Ox.act rfl rfl (acts_store_all rfl rfl rfl (hBb4.ext (X := []) zxc (by simp)) rfl rfl rfl (bvc_one Bs0)) ?_
    rintro vs4 ws4 ⟨rfl, qs4, hBs4⟩
    have es4 : Ext [] w ws4 := Ext.renew zxc qs4 (by omega)
    refine Ox.pure rfl rfl zas ?_
    refine Ox.fin ?_
    refine zrt ?_
    exact endE_ret [.agg (bvc Bs0).toArray, .int .i64 1] ⟨⟨⟨bb4, 0, none⟩, rfl, hBs4.cellsL.ldA rfl rfl⟩, rfl, trivial⟩ ⟨zxc, _, by rw [he]; rfl, by rw [he]; exact RBr.zero _ _⟩
  have he : dropB s.br no = (⟨s.br.base, s.br.brs, s.br.par, s.br.fks, s.br.done.set no.toNat true⟩, 0) := (if_neg (fun h => h hv)).trans (if_neg (fun h => h ho))
  obtain ⟨o1, o2, _⟩ := id ho
  refine ztx ?_
  refine Ox.act rfl rfl (acts_box rfl rfl) ?_
  rintro vb2 wb2 ⟨eb2, bb2, rfl, hbb2, hBb2⟩
  first | (have hCb2 : Cells wb2 ⟨bb2, 0, none⟩ [_, _, _, _, _] := hBb2.cells) | have hCb2 := Blk.cellsL hBb2
  have hlb2 := hBb2.lt
  have hzb2 := eb2.size
  refine Ox.act rfl rfl (acts_alloc rfl rfl) ?_
  rintro vb4 wb4 ⟨eb4, bb4, rfl, hbb4, hBb4⟩
  first | (have hCb4 : Cells wb4 ⟨bb4, 0, none⟩ [_, _, _, _, _] := hBb4.cells) | have hCb4 := Blk.cellsL hBb4
  have hlb4 := hBb4.lt
  have hzb4 := eb4.size
  refine Ox.pure rfl rfl zas ?_
  refine Ox.fin ?_
  refine ztx ?_
  refine Ox.val rfl rfl zra ?_
  refine Ox.act rfl rfl (acts_call rfl rfl rfl (refValid_br s hsm _ (hin.ext0 zxc))) ?_
  rintro v4 w4 ⟨e4, rfl⟩
  have hz4 := e4.size
  first | rw [decide_eq_true hv] | rw [decide_eq_false hv]
  refine Ox.pure rfl rfl (rp_not rfl rfl) ?_
  refine Ox.fin ?_
  refine zcf ?_
  refine zsk ?_
  refine ztx ?_
  refine Ox.val rfl rfl zra ?_
  refine Ox.pure rfl rfl zmv ?_
  refine Ox.act rfl rfl (acts_call rfl rfl rfl (open_at_r s no _ (hin.ext0 zxc) hdl)) ?_
  rintro v5 w5 ⟨e5, rfl⟩
  have hz5 := e5.size
  first | rw [decide_eq_true ho] | rw [decide_eq_false ho]
  refine Ox.pure rfl rfl (rp_not rfl rfl) ?_
  refine Ox.fin ?_
  refine zcf ?_
  refine zsk ?_
  refine ztx ?_
  refine Ox.val rfl rfl zra ?_
  refine Ox.act rfl rfl (acts_call rfl rfl rfl (refCopied_at s hfw _ (hin.ext0 zxc))) ?_
  rintro vu5 wu5 ⟨eu5, s', rfl, hbr', hbls, htr, hO⟩
  have hzu5 := eu5.size
  have hzu5 := eu5.size
  refine Ox.act rfl rfl (acts_alloc rfl rfl) ?_
  rintro vb6 wb6 ⟨eb6, bb6, rfl, hbb6, hBb6⟩
  first | (have hCb6 : Cells wb6 ⟨bb6, 0, none⟩ [_, _, _, _, _] := hBb6.cells) | have hCb6 := Blk.cellsL hBb6
  have hlb6 := hBb6.lt
  have hzb6 := eb6.size
  refine Ox.act rfl rfl (acts_store_all rfl rfl rfl hBb6 rfl rfl rfl (bvc_one s')) ?_
  rintro vs5 ws5 ⟨rfl, qs5, hBs5⟩
  have es5 : Ext [] wb4 ws5 := (show Ext [] wb4 wu5 from zxc).trans (Ext.renew eb6 qs5 hbb6)
  have hzs5 := es5.size
  have hys5 := qs5.size
  have hxs5 := eb6.size
  have hO5 := OB.put (hO.ext0 eb6) hBb6 qs5 hBs5
  have hCs5 := hO5.cells
  have hd' : s'.done = s.done := congrArg Br.done hbr'
  have hp' : s'.par = s.par := congrArg Br.par hbr'
  have hf' : s'.fks = s.fks := congrArg Br.fks hbr'
  have hw1 : s'.bls.length ≤ 1000 := by rw [hbls]; exact hfw.bls
  have hw2 : s'.par.length ≤ 1000 := by rw [hp']; exact hfw.par
  have hw3 : s'.fks.length ≤ 1000 := by rw [hf']; exact hfw.fks
  have hw4 : s'.done.length ≤ 1000 := by rw [hd']; exact hfw.done
  have hid : no.toNat < s'.done.length := by rw [hd']; omega
  have hdt := hO.in_.done.ptr
  refine Ox.fin ?_
  refine ztx ?_
  refine Ox.pure rfl rfl zfa ?_
  refine Ox.val rfl rfl zrs ?_
  refine Ox.pure rfl rfl zmv ?_
  refine Ox.pure rfl rfl (rp_indexAddr no.toNat rfl rfl rfl rfl rfl hdt (by omega) hid) ?_
  refine Ox.act rfl rfl (acts_store_own (enc := boc) boc_len true rfl rfl rfl rfl rfl hO5.o4 hdt hid (boc_one true)) ?_
  rintro vs6 ws6 ⟨rfl, qs6, hos6⟩
  have hO6 := OB.set4 hO5 qs6 hos6
  have es6 : Ext [] wb4 ws6 := OB.step (v := Value.slice s'.p4 s'.done.length s'.c4) es5 qs6 hO5.o4 (by omega)
  have hzs6 := es6.size
  have hCs6 := hO6.cells
  refine Ox.fin ?_
  refine ztx ?_
  refine Ox.val rfl rfl zra ?_
  refine Ox.act rfl rfl (acts_store_all rfl rfl rfl (hBb4.ext (X := []) zxc (by simp)) rfl rfl rfl (bvc_one _)) ?_
  rintro vsz wsz ⟨rfl, qsz, hBsz⟩
  have esz : Ext [] w wsz := Ext.renew zxc qsz (by omega)
  have hOz := hO6.other (hBb4.ext (X := []) zxc (by simp)) qsz (by have := hBb4.lt; omega)
  refine Ox.pure rfl rfl zas ?_
  refine Ox.fin ?_
  refine zrt ?_
  have hres := hOz.res ⟨hw1, hw2, hw3, by simpa using hw4⟩ (htr _ (hin.base.ext0 zxc)) (fun x hx => by
    have h9 : x ∈ s.bls := by rw [← hbls]; exact hx
    exact (hin.sub x h9).imp fun _ h9 => h9.ext0 zxc)
  refine endE_ret [.agg (bvc _).toArray, .int .i64 0] ⟨⟨⟨bb4, 0, none⟩, rfl, hBsz.cellsL.ldA rfl rfl⟩, rfl, trivial⟩ ⟨zxc, _, by rw [he]; rfl, ?_⟩
  obtain ⟨s9, e9, h9, e8, z9⟩ := hres
  refine ⟨s9, e9, h9, e8.trans ?_, fun h => Nat.le_trans (by omega) (z9 h)⟩
  rw [he]
  show Br.mk s'.base (s'.bls.map Bl.l) s'.par s'.fks (s'.done.set no.toNat true) = _
  rw [show s'.base = s.br.base from congrArg Br.base hbr', show s'.bls.map Bl.l = s.br.brs from congrArg Br.brs hbr', show s'.par = s.br.par from congrArg Br.par hbr', show s'.fks = s.br.fks from congrArg Br.fks hbr', show s'.done = s.br.done from congrArg Br.done hbr']

theorem refFork_at (s : Bs) (hsm : Small s) (hfw : Few s) (no : Int) (w : World) (hin : BsIn s w) :
    Calls Try.prog 15 #[.agg (bvc s).toArray, .int .i64 no] w (Ret fun r w' => Ext [] w w' ∧ ∃ v, r = .tuple #[v, .int .i64 (forkB s.br no).2.1, .int .i64 (forkB s.br no).2.2] ∧ RBr w.heap.size w' v (forkB s.br no).1) := by
  have hbl := br_len s
  have hbf := hin.bls.few
  refine calls_of_Sx (args := [.agg (bvc s).toArray, .int .i64 no]) Try.func15 rfl rfl ?_
  by_cases hv : ValidB s.br; rotate_left
  · have he : forkB s.br no = (Br0, 0, 540) := if_pos hv
    refine ztx ?_
    refine Ox.act rfl rfl (acts_box rfl rfl) ?_
    rintro vb2 wb2 ⟨eb2, bb2, rfl, hbb2, hBb2⟩
    first | (have hCb2 : Cells wb2 ⟨bb2, 0, none⟩ [_, _, _, _, _] := hBb2.cells) | have hCb2 := Blk.cellsL hBb2
    have hlb2 := hBb2.lt
    have hzb2 := eb2.size
    refine Ox.act rfl rfl (acts_alloc rfl rfl) ?_
    rintro vb4 wb4 ⟨eb4, bb4, rfl, hbb4, hBb4⟩
    first | (have hCb4 : Cells wb4 ⟨bb4, 0, none⟩ [_, _, _, _, _] := hBb4.cells) | have hCb4 := Blk.cellsL hBb4
    have hlb4 := hBb4.lt
    have hzb4 := eb4.size
    refine Ox.pure rfl rfl zas ?_
    refine Ox.pure rfl rfl zas ?_
    refine Ox.fin ?_
    refine ztx ?_
    refine Ox.val rfl rfl zra ?_
    refine Ox.act rfl rfl (acts_call rfl rfl rfl (refValid_br s hsm _ (hin.ext0 zxc))) ?_
    rintro vv1 wv1 ⟨ev1, rfl⟩
    have hzv1 := ev1.size
    first | rw [decide_eq_true hv] | rw [decide_eq_false hv]
    refine Ox.pure rfl rfl (rp_not rfl rfl) ?_
    refine Ox.fin ?_
    refine zct ?_
    refine ztx ?_
    refine Ox.pure rfl rfl (rp_buildS (ps := []) rfl rfl rfl rfl rfl) ?_
    refine Ox.act rfl rfl (acts_store_all rfl rfl rfl (hBb4.ext (X := []) zxc (by simp)) rfl rfl rfl (bvc_one Bs0)) ?_
    rintro vs2 ws2 ⟨rfl, qs2, hBs2⟩
    have es2 : Ext [] w ws2 := Ext.renew zxc qs2 (by omega)
    refine Ox.pure rfl rfl zas ?_
    refine Ox.pure rfl rfl zas ?_
    refine Ox.fin ?_
    refine zrt ?_
    exact endE_ret [.agg (bvc Bs0).toArray, .int .i64 0, .int .i64 540] ⟨⟨⟨bb4, 0, none⟩, rfl, hBs2.cellsL.ldA rfl rfl⟩, rfl, rfl, trivial⟩ ⟨zxc, _, by rw [he]; rfl, by rw [he]; exact RBr.zero _ _⟩
  have hdl : s.done.length = s.bls.length := by have : s.done.length = s.br.brs.length := hv.1.2.2.2.1; omega
  by_cases hp : no ≠ -1 ∧ ¬ OpenB s.br no
  · have ho := hp.2
    have hm := hp.1
    have he : forkB s.br no = (Br0, 0, 1) := (if_neg (fun h => h hv)).trans (if_pos hp)
    refine ztx ?_
    refine Ox.act rfl rfl (acts_box rfl rfl) ?_
    rintro vb2 wb2 ⟨eb2, bb2, rfl, hbb2, hBb2⟩
    first | (have hCb2 : Cells wb2 ⟨bb2, 0, none⟩ [_, _, _, _, _] := hBb2.cells) | have hCb2 := Blk.cellsL hBb2
    have hlb2 := hBb2.lt
    have hzb2 := eb2.size
    refine Ox.act rfl rfl (acts_alloc rfl rfl) ?_
    rintro vb4 wb4 ⟨eb4, bb4, rfl, hbb4, hBb4⟩
    first | (have hCb4 : Cells wb4 ⟨bb4, 0, none⟩ [_, _, _, _, _] := hBb4.cells) | have hCb4 := Blk.cellsL hBb4
    have hlb4 := hBb4.lt
    have hzb4 := eb4.size
    refine Ox.pure rfl rfl zas ?_
    refine Ox.pure rfl rfl zas ?_
    refine Ox.fin ?_
    refine ztx ?_
    refine Ox.val rfl rfl zra ?_
    refine Ox.act rfl rfl (acts_call rfl rfl rfl (refValid_br s hsm _ (hin.ext0 zxc))) ?_
    rintro vv1 wv1 ⟨ev1, rfl⟩
    have hzv1 := ev1.size
    first | rw [decide_eq_true hv] | rw [decide_eq_false hv]
    refine Ox.pure rfl rfl (rp_not rfl rfl) ?_
    refine Ox.fin ?_
    refine zcf ?_
    refine zsk ?_
    refine ztx ?_
    refine Ox.pure rfl rfl zmv ?_
    refine Ox.pure rfl rfl zbc ?_
    refine Ox.pure rfl rfl zmv ?_
    first | (refine Ox.skip rfl rfl ?_) | (refine Ox.val rfl rfl zra ?_)
    first | (refine Ox.skip rfl rfl ?_) | (refine Ox.pure rfl rfl zmv ?_)
    first | (refine Ox.skip rfl rfl ?_) | (refine Ox.act rfl rfl (acts_call rfl rfl rfl (open_at_r s no _ (hin.ext0 zxc) hdl)) ?_; rintro v6 w6 ⟨e6, rfl⟩; have hz6 := e6.size; first | rw [decide_eq_true ho] | rw [decide_eq_false ho])
    first | (refine Ox.skip rfl rfl ?_) | (refine Ox.pure rfl rfl (rp_not rfl rfl) ?_)
    refine Ox.pure rfl rfl zpk ?_
    refine Ox.fin ?_
    refine zct ?_
    refine ztx ?_
    refine Ox.pure rfl rfl (rp_buildS (ps := []) rfl rfl rfl rfl rfl) ?_
    refine Ox.act rfl rfl (acts_store_all rfl rfl rfl (hBb4.ext (X := []) zxc (by simp)) rfl rfl rfl (bvc_one Bs0)) ?_
    rintro vs4 ws4 ⟨rfl, qs4, hBs4⟩
    have es4 : Ext [] w ws4 := Ext.renew zxc qs4 (by omega)
    refine Ox.pure rfl rfl zas ?_
    refine Ox.pure rfl rfl zas ?_
    refine Ox.fin ?_
    refine zrt ?_
    exact endE_ret [.agg (bvc Bs0).toArray, .int .i64 0, .int .i64 1] ⟨⟨⟨bb4, 0, none⟩, rfl, hBs4.cellsL.ldA rfl rfl⟩, rfl, rfl, trivial⟩ ⟨zxc, _, by rw [he]; rfl, by rw [he]; exact RBr.zero _ _⟩
  have he0 : forkB s.br no = if s.br.brs.length = 64 then (Br0, 0, 2) else (⟨s.br.base, s.br.brs ++ [[]], s.br.par ++ [no], s.br.fks ++ [(lenB s.br no : Int)], s.br.done ++ [false]⟩, (s.br.brs.length : Int), 0) := (if_neg (fun h => h hv)).trans (if_neg hp)
  have hrange : no < (s.bls.length : Int) := by
    by_cases hm : no = -1
    · omega
    · have : OpenB s.br no := Classical.byContradiction fun h => hp ⟨hm, h⟩
      have := this.2.1
      omega
  refine ztx ?_
  refine Ox.act rfl rfl (acts_box rfl rfl) ?_
  rintro vb2 wb2 ⟨eb2, bb2, rfl, hbb2, hBb2⟩
  first | (have hCb2 : Cells wb2 ⟨bb2, 0, none⟩ [_, _, _, _, _] := hBb2.cells) | have hCb2 := Blk.cellsL hBb2
  have hlb2 := hBb2.lt
  have hzb2 := eb2.size
  refine Ox.act rfl rfl (acts_alloc rfl rfl) ?_
  rintro vb4 wb4 ⟨eb4, bb4, rfl, hbb4, hBb4⟩
  first | (have hCb4 : Cells wb4 ⟨bb4, 0, none⟩ [_, _, _, _, _] := hBb4.cells) | have hCb4 := Blk.cellsL hBb4
  have hlb4 := hBb4.lt
  have hzb4 := eb4.size
  refine Ox.pure rfl rfl zas ?_
  refine Ox.pure rfl rfl zas ?_
  refine Ox.fin ?_
  refine ztx ?_
  refine Ox.val rfl rfl zra ?_
  refine Ox.act rfl rfl (acts_call rfl rfl rfl (refValid_br s hsm _ (hin.ext0 zxc))) ?_
  rintro vv1 wv1 ⟨ev1, rfl⟩
  have hzv1 := ev1.size
  first | rw [decide_eq_true hv] | rw [decide_eq_false hv]
  refine Ox.pure rfl rfl (rp_not rfl rfl) ?_
  refine Ox.fin ?_
  refine zcf ?_
  refine zsk ?_
  refine Sx.seq (Sx.upto (fun E' w' => (∀ t u, get [(1, .int .i64 no), (2, .pointer (some ⟨bb2, 0, none⟩)), (4, .pointer (some ⟨bb4, 0, none⟩)), (20, .bool false)] t = some u → get E' t = some u) ∧ Ext [] wv1 w') ?_ ?_)
  · by_cases hm : no = -1
    · refine ztx ?_
      refine Ox.pure rfl rfl zmv ?_
      refine Ox.pure rfl rfl zbc ?_
      refine Ox.pure rfl rfl zmv ?_
      first | (refine Ox.skip rfl rfl ?_) | (refine Ox.val rfl rfl zra ?_)
      first | (refine Ox.skip rfl rfl ?_) | (refine Ox.pure rfl rfl zmv ?_)
      first | (refine Ox.skip rfl rfl ?_) | (refine Ox.act rfl rfl (acts_call rfl rfl rfl (open_at_r s no _ (hin.ext0 zxc) hdl)) ?_; rintro v7 w7 ⟨e7, rfl⟩; have hz7 := e7.size; first | rw [decide_eq_true ho] | rw [decide_eq_false ho])
      first | (refine Ox.skip rfl rfl ?_) | (refine Ox.pure rfl rfl (rp_not rfl rfl) ?_)
      refine Ox.pure rfl rfl zpk ?_
      refine Ox.fin ?_
      refine zcf ?_
      refine zsk ?_
      exact ⟨sub_cons rfl (sub_cons rfl (sub_cons rfl (sub_cons rfl sub_nil))), zxc⟩
    · have ho : OpenB s.br no := Classical.byContradiction fun h => hp ⟨hm, h⟩
      refine ztx ?_
      refine Ox.pure rfl rfl zmv ?_
      refine Ox.pure rfl rfl zbc ?_
      refine Ox.pure rfl rfl zmv ?_
      first | (refine Ox.skip rfl rfl ?_) | (refine Ox.val rfl rfl zra ?_)
      first | (refine Ox.skip rfl rfl ?_) | (refine Ox.pure rfl rfl zmv ?_)
      first | (refine Ox.skip rfl rfl ?_) | (refine Ox.act rfl rfl (acts_call rfl rfl rfl (open_at_r s no _ (hin.ext0 zxc) hdl)) ?_; rintro v8 w8 ⟨e8, rfl⟩; have hz8 := e8.size; first | rw [decide_eq_true ho] | rw [decide_eq_false ho])
      first | (refine Ox.skip rfl rfl ?_) | (refine Ox.pure rfl rfl (rp_not rfl rfl) ?_)
      refine Ox.pure rfl rfl zpk ?_
      refine Ox.fin ?_
      refine zcf ?_
      refine zsk ?_
      exact ⟨sub_cons rfl (sub_cons rfl (sub_cons rfl (sub_cons rfl sub_nil))), zxc⟩
  rintro E' wm ⟨hsub, em⟩
  refine thenE_normal (Sx.weaken ?_ hsub)
  have hzm := em.size
  by_cases h64 : s.bls.length = 64
  · have he : forkB s.br no = (Br0, 0, 2) := he0.trans (if_pos (by rw [hbl]; exact h64))
    refine ztx ?_
    refine Ox.pure rfl rfl zfa ?_
    refine Ox.val rfl rfl zrs ?_
    refine Ox.pure rfl rfl (rp_lenS rfl rfl rfl) ?_
    refine Ox.pure rfl rfl zas ?_
    refine Ox.fin ?_
    refine ztx ?_
    refine Ox.pure rfl rfl zmv ?_
    refine Ox.pure rfl rfl zbc ?_
    refine Ox.fin ?_
    refine zct ?_
    refine ztx ?_
    refine Ox.pure rfl rfl (rp_buildS (ps := []) rfl rfl rfl rfl rfl) ?_
    refine Ox.act rfl rfl (acts_store_all rfl rfl rfl (hBb4.ext (X := []) zxc (by simp)) rfl rfl rfl (bvc_one Bs0)) ?_
    rintro vs7 ws7 ⟨rfl, qs7, hBs7⟩
    have es7 : Ext [] w ws7 := Ext.renew zxc qs7 (by omega)
    refine Ox.pure rfl rfl zas ?_
    refine Ox.pure rfl rfl zas ?_
    refine Ox.fin ?_
    refine zrt ?_
    exact endE_ret [.agg (bvc Bs0).toArray, .int .i64 0, .int .i64 2] ⟨⟨⟨bb4, 0, none⟩, rfl, hBs7.cellsL.ldA rfl rfl⟩, rfl, rfl, trivial⟩ ⟨zxc, _, by rw [he]; rfl, by rw [he]; exact RBr.zero _ _⟩
  have he := he0.trans (if_neg (by rw [hbl]; exact h64))
  refine ztx ?_
  refine Ox.pure rfl rfl zfa ?_
  refine Ox.val rfl rfl zrs ?_
  refine Ox.pure rfl rfl (rp_lenS rfl rfl rfl) ?_
  refine Ox.pure rfl rfl zas ?_
  refine Ox.fin ?_
  refine ztx ?_
  refine Ox.pure rfl rfl zmv ?_
  refine Ox.pure rfl rfl zbc ?_
  refine Ox.fin ?_
  refine zcf ?_
  refine zsk ?_
  refine ztx ?_
  refine Ox.val rfl rfl zra ?_
  refine Ox.act rfl rfl (acts_call rfl rfl rfl (refCopied_at s hfw _ (hin.ext0 zxc))) ?_
  rintro vu8 wu8 ⟨eu8, s', rfl, hbr', hbls, htr, hO⟩
  have hzu8 := eu8.size
  have hzu8 := eu8.size
  refine Ox.act rfl rfl (acts_alloc rfl rfl) ?_
  rintro vb8 wb8 ⟨eb8, bb8, rfl, hbb8, hBb8⟩
  first | (have hCb8 : Cells wb8 ⟨bb8, 0, none⟩ [_, _, _, _, _] := hBb8.cells) | have hCb8 := Blk.cellsL hBb8
  have hlb8 := hBb8.lt
  have hzb8 := eb8.size
  refine Ox.act rfl rfl (acts_store_all rfl rfl rfl hBb8 rfl rfl rfl (bvc_one s')) ?_
  rintro vs8 ws8 ⟨rfl, qs8, hBs8⟩
  have es8 : Ext [] wb4 ws8 := (show Ext [] wb4 wu8 from zxc).trans (Ext.renew eb8 qs8 hbb8)
  have hzs8 := es8.size
  have hys8 := qs8.size
  have hxs8 := eb8.size
  have hO8 := OB.put (hO.ext0 eb8) hBb8 qs8 hBs8
  have hCs8 := hO8.cells
  have hd' : s'.done = s.done := congrArg Br.done hbr'
  have hp' : s'.par = s.par := congrArg Br.par hbr'
  have hf' : s'.fks = s.fks := congrArg Br.fks hbr'
  have hw1 : s'.bls.length ≤ 1000 := by rw [hbls]; exact hfw.bls
  have hw2 : s'.par.length ≤ 1000 := by rw [hp']; exact hfw.par
  have hw3 : s'.fks.length ≤ 1000 := by rw [hf']; exact hfw.fks
  have hw4 : s'.done.length ≤ 1000 := by rw [hd']; exact hfw.done
  refine Ox.fin ?_
  refine ztx ?_
  refine Ox.pure rfl rfl zfa ?_
  refine Ox.val rfl rfl zrs ?_
  refine Ox.act rfl rfl (acts_buildSlice (ps := [(0, .const _)]) rfl rfl rfl rfl rfl rfl rfl rfl) ?_
  rintro vn9 wn9 ⟨en9, bn9, rfl, hbn9, hBn9⟩
  first | (have hCn9 : Cells wn9 ⟨bn9, 0, none⟩ [_] := hBn9.cells) | have hCn9 := Blk.cellsL hBn9
  have hln9 := hBn9.lt
  have hzn9 := en9.size
  have hP9 := OB.ext0 (w' := wn9) hO8 zxc
  refine Ox.act rfl rfl (acts_append (e := 59) (size := 1) (bytes := 24) rfl rfl rfl rfl (hP9.o1) (source_slice (m := 1) (news := blc (⟨none, 0, []⟩ : Bl)) rfl rfl (fun _ => rfl) (hCn9.ext0 zxc) (blc_one _)) (by first | omega | (dsimp only; omega)) (by first | omega | (dsimp only; omega)) (by omega)) ?_
  rintro va9 wa9 hga9
  obtain ⟨p9, k9, A9, rfl, _, _⟩ := SlV.of_own (enc := blc) (l := s'.bls ++ [(⟨none, 0, []⟩ : Bl)]) (by have h9 := hga9.own; rw [List.length_append, rowsV_append, rowsV_one]; exact h9) (by rw [List.length_append]; simp; omega)
  refine Ox.pure rfl rfl zfa ?_
  refine Ox.act rfl rfl (acts_store (off := 1) rfl rfl rfl rfl rfl (OB.blk1 hP9 hga9) (Nat.le_of_ble_eq_true rfl) (by (first | assumption | exact List.all_eq_true.mp rfl | simp [Value.cells, Value.oneCell']))) ?_
  rintro vs9 ws9 ⟨rfl, qs9, hBs9⟩
  have hO9 := OB.app1 (x := (⟨none, 0, []⟩ : Bl)) hP9 (by have h9 := hga9; rw [show (s'.bls ++ [(⟨none, 0, []⟩ : Bl)]).length = s'.bls.length + 1 by simp] at h9; exact h9) qs9 (by have h9 := hBs9; rw [show (s'.bls ++ [(⟨none, 0, []⟩ : Bl)]).length = s'.bls.length + 1 by simp] at h9; exact h9)
  have es9 : Ext [] wb4 ws9 := OB.ext_app1 hP9 hga9 zxc (by omega) (by omega) qs9
  have hzs9 := es9.size
  have hys9 := qs9.size
  have hxs9 := hga9.ext.size
  have hCs9 := hO9.cells
  refine Ox.fin ?_
  refine ztx ?_
  refine Ox.pure rfl rfl zfa ?_
  refine Ox.val rfl rfl zrs ?_
  refine Ox.pure rfl rfl zmv ?_
  refine Ox.act rfl rfl (acts_buildSlice (ps := [(0, .tmp 37)]) rfl rfl rfl rfl rfl rfl rfl rfl) ?_
  rintro vn10 wn10 ⟨en10, bn10, rfl, hbn10, hBn10⟩
  first | (have hCn10 : Cells wn10 ⟨bn10, 0, none⟩ [_] := hBn10.cells) | have hCn10 := Blk.cellsL hBn10
  have hln10 := hBn10.lt
  have hzn10 := en10.size
  have hP10 := OB.ext0 (w' := wn10) hO9 zxc
  refine Ox.act rfl rfl (acts_append (e := 3) (size := 1) (bytes := 8) rfl rfl rfl rfl (hP10.o2) (source_slice (m := 1) (news := ic no) rfl rfl (fun _ => rfl) (hCn10.ext0 zxc) (ic_one _)) (by first | omega | (dsimp only; omega)) (by first | omega | (dsimp only; omega)) (by omega)) ?_
  rintro va10 wa10 hga10
  obtain ⟨p10, k10, A10, rfl, _, _⟩ := SlV.of_own (enc := ic) (l := s'.par ++ [no]) (by have h9 := hga10.own; rw [List.length_append, rowsV_append, rowsV_one]; exact h9) (by rw [List.length_append]; simp; omega)
  refine Ox.pure rfl rfl zfa ?_
  refine Ox.act rfl rfl (acts_store (off := 2) rfl rfl rfl rfl rfl (OB.blk2 hP10 hga10) (Nat.le_of_ble_eq_true rfl) (by (first | assumption | exact List.all_eq_true.mp rfl | simp [Value.cells, Value.oneCell']))) ?_
  rintro vs10 ws10 ⟨rfl, qs10, hBs10⟩
  have hO10 := OB.app2 (x := no) hP10 (by have h9 := hga10; rw [show (s'.par ++ [no]).length = s'.par.length + 1 by simp] at h9; exact h9) qs10 (by have h9 := hBs10; rw [show (s'.par ++ [no]).length = s'.par.length + 1 by simp] at h9; exact h9)
  have es10 : Ext [] wb4 ws10 := OB.ext_app2 hP10 hga10 zxc (by omega) (by omega) qs10
  have hzs10 := es10.size
  have hys10 := qs10.size
  have hxs10 := hga10.ext.size
  have hCs10 := hO10.cells
  refine Ox.fin ?_
  (repeat refine Sx.seq ?_)
  refine Sx.walkR rfl (fun _ _ _ _ h => h) [0, 1, 2, 3, 4, 5, 6, 7, 8] [0, 1, 2, 3, 7] (0) (by kernel_rfl) ?_
  intro hq w9 e9; have hz9 := e9.size
  refine Wx.pure hq rfl rfl rfl rfl zfa ?_
  refine Wx.val hq rfl rfl rfl rfl ([]) zrs ?_
  refine Wx.val hq rfl rfl rfl rfl ([]) zra ?_
  refine Wx.pure hq rfl rfl rfl rfl zmv ?_
  refine Wx.actNew rfl rfl rfl rfl (acts_call rfl rfl rfl (length_at_r s no _ (hin.ext0 zxc) hrange)) ?_
  rintro v10 w10 e10 rfl
  have hz10 := e10.size
  refine Wx.actNew rfl rfl rfl rfl (acts_buildSlice (ps := [(0, .tmp 45)]) rfl rfl rfl rfl rfl rfl rfl rfl) ?_
  rintro vn11 wn11 en11 ⟨bn11, rfl, hbn11, hBn11⟩
  first | (have hCn11 : Cells wn11 ⟨bn11, 0, none⟩ [_] := hBn11.cells) | have hCn11 := Blk.cellsL hBn11
  have hln11 := hBn11.lt
  have hzn11 := en11.size
  have hP11 := OB.ext0 (w' := wn11) hO10 zxc
  refine Wx.actLast rfl rfl rfl rfl (by kernel_rfl) (acts_append (e := 3) (size := 1) (bytes := 8) rfl rfl rfl rfl (hP11.o3) (source_slice (m := 1) (news := ic (lenB s.br no : Int)) rfl rfl (fun _ => rfl) (hCn11.ext0 zxc) (ic_one _)) (by first | omega | (dsimp only; omega)) (by first | omega | (dsimp only; omega)) (by omega)) ?_
  rintro va11 wa11 hga11
  obtain ⟨p11, k11, A11, rfl, _, _⟩ := SlV.of_own (enc := ic) (l := s'.fks ++ [(lenB s.br no : Int)]) (by have h9 := hga11.own; rw [List.length_append, rowsV_append, rowsV_one]; exact h9) (by rw [List.length_append]; simp; omega)
  refine Wx.pure hq rfl rfl rfl rfl zfa ?_
  refine Wx.actLast rfl rfl rfl rfl (by kernel_rfl) (acts_store (off := 3) rfl rfl rfl rfl rfl (OB.blk3 hP11 hga11) (Nat.le_of_ble_eq_true rfl) (by (first | assumption | exact List.all_eq_true.mp rfl | simp [Value.cells, Value.oneCell']))) ?_
  rintro vs11 ws11 ⟨rfl, qs11, hBs11⟩
  have hO11 := OB.app3 (x := (lenB s.br no : Int)) hP11 (by have h9 := hga11; rw [show (s'.fks ++ [(lenB s.br no : Int)]).length = s'.fks.length + 1 by simp] at h9; exact h9) qs11 (by have h9 := hBs11; rw [show (s'.fks ++ [(lenB s.br no : Int)]).length = s'.fks.length + 1 by simp] at h9; exact h9)
  have es11 : Ext [] wb4 ws11 := OB.ext_app3 hP11 hga11 zxc (by omega) (by omega) qs11
  have hzs11 := es11.size
  have hys11 := qs11.size
  have hxs11 := hga11.ext.size
  have hCs11 := hO11.cells
  refine Wx.fin ?_
  refine ztx ?_
  refine Ox.pure rfl rfl zfa ?_
  refine Ox.val rfl rfl zrs ?_
  refine Ox.act rfl rfl (acts_buildSlice (ps := [(0, .const _)]) rfl rfl rfl rfl rfl rfl rfl rfl) ?_
  rintro vn12 wn12 ⟨en12, bn12, rfl, hbn12, hBn12⟩
  first | (have hCn12 : Cells wn12 ⟨bn12, 0, none⟩ [_] := hBn12.cells) | have hCn12 := Blk.cellsL hBn12
  have hln12 := hBn12.lt
  have hzn12 := en12.size
  have hP12 := OB.ext0 (w' := wn12) hO11 zxc
  refine Ox.act rfl rfl (acts_append (e := 4) (size := 1) (bytes := 1) rfl rfl rfl rfl (hP12.o4) (source_slice (m := 1) (news := boc false) rfl rfl (fun _ => rfl) (hCn12.ext0 zxc) (boc_one _)) (by first | omega | (dsimp only; omega)) (by first | omega | (dsimp only; omega)) (by omega)) ?_
  rintro va12 wa12 hga12
  obtain ⟨p12, k12, A12, rfl, _, _⟩ := SlV.of_own (enc := boc) (l := s'.done ++ [false]) (by have h9 := hga12.own; rw [List.length_append, rowsV_append, rowsV_one]; exact h9) (by rw [List.length_append]; simp; omega)
  refine Ox.pure rfl rfl zfa ?_
  refine Ox.act rfl rfl (acts_store (off := 4) rfl rfl rfl rfl rfl (OB.blk4 hP12 hga12) (Nat.le_of_ble_eq_true rfl) (by (first | assumption | exact List.all_eq_true.mp rfl | simp [Value.cells, Value.oneCell']))) ?_
  rintro vs12 ws12 ⟨rfl, qs12, hBs12⟩
  have hO12 := OB.app4 (x := false) hP12 (by have h9 := hga12; rw [show (s'.done ++ [false]).length = s'.done.length + 1 by simp] at h9; exact h9) qs12 (by have h9 := hBs12; rw [show (s'.done ++ [false]).length = s'.done.length + 1 by simp] at h9; exact h9)
  have es12 : Ext [] wb4 ws12 := OB.ext_app4 hP12 hga12 zxc (by omega) (by omega) qs12
  have hzs12 := es12.size
  have hys12 := qs12.size
  have hxs12 := hga12.ext.size
  have hCs12 := hO12.cells
  refine Ox.fin ?_
  refine ztx ?_
  refine Ox.val rfl rfl zra ?_
  refine Ox.pure rfl rfl zmv ?_
  refine Ox.act rfl rfl (acts_store_all rfl rfl rfl (hBb4.ext (X := []) zxc (by simp)) rfl rfl rfl (bvc_one _)) ?_
  rintro vsz wsz ⟨rfl, qsz, hBsz⟩
  have esz : Ext [] w wsz := Ext.renew zxc qsz (by omega)
  have hOz := hO12.other (hBb4.ext (X := []) zxc (by simp)) qsz (by have := hBb4.lt; omega)
  refine Ox.pure rfl rfl zas ?_
  refine Ox.pure rfl rfl zas ?_
  refine Ox.fin ?_
  refine zrt ?_
  obtain ⟨v1, v2, v3, v4, _⟩ := id hv.1
  have v2' : s'.par.length = s.br.brs.length := by rw [hp']; exact v2
  have v3' : s'.fks.length = s.br.brs.length := by rw [hf']; exact v3
  have v4' : s'.done.length = s.br.brs.length := by rw [hd']; exact v4
  have v1' : s'.bls.length = s.br.brs.length := by rw [hbls, hbl]
  have hres := hOz.res ⟨by simp; omega, by simp; omega, by simp; omega, by simp; omega⟩ (htr _ (hin.base.ext0 zxc)) (fun x hx => by
    rcases List.mem_append.1 hx with h | h
    · rw [hbls] at h; exact (hin.sub x h).imp fun _ h9 => h9.ext0 zxc
    · rw [List.mem_singleton.1 h]; exact ⟨⟨0, 0, none⟩, SlV.nil _ _⟩)
  refine endE_ret [.agg (bvc _).toArray, .int .i64 (s.bls.length : Int), .int .i64 0] ⟨⟨⟨bb4, 0, none⟩, rfl, hBsz.cellsL.ldA rfl rfl⟩, rfl, rfl, trivial⟩ ⟨zxc, _, by rw [he, hbl]; rfl, ?_⟩
  obtain ⟨s9, e9, h9, e8, z9⟩ := hres
  refine ⟨s9, e9, h9, e8.trans ?_, fun h => Nat.le_trans (by omega) (z9 h)⟩
  rw [he]
  show Br.mk s'.base ((s'.bls ++ [(⟨none, 0, []⟩ : Bl)]).map Bl.l) (s'.par ++ [no]) (s'.fks ++ [(lenB s.br no : Int)]) (s'.done ++ [false]) = _
  rw [List.map_append, show s'.base = s.br.base from congrArg Br.base hbr', show s'.bls.map Bl.l = s.br.brs from congrArg Br.brs hbr', show s'.par = s.br.par from congrArg Br.par hbr', show s'.fks = s.br.fks from congrArg Br.fks hbr', show s'.done = s.br.done from congrArg Br.done hbr']
  rfl

end Go.Proofs.Ytfgckcochilpkaa

/- Branches' walks: the reference's Change. -/
set_option linter.unusedVariables false
set_option maxRecDepth 100000
set_option maxHeartbeats 4000000
set_option linter.unusedSimpArgs false
namespace Go.Proofs.Ytfgckcochilpkaa
open Go Go.Eng

theorem recL_one (l : List Fct) (c : Cr) : (recL l [c]).2 = (addL l (chF c (nextK l))).2 := by
  rw [recL_cons]
  split
  · rename_i h; rw [h]; rfl
  · rfl
theorem refChange_br (s : Bs) (hsm : Small s) (hfw : Few s) (no : Int) (c : Cr) (w : World) (hin : BsIn s w) :
    Calls Try.prog 18 #[.agg (bvc s).toArray, .int .i64 no, .agg (cc c).toArray] w (Ret fun r w' => Ext [] w w' ∧ ∃ v, r = .tuple #[v, .int .i64 (changeB s.br no c).2] ∧ RBr w.heap.size w' v (changeB s.br no c).1) := by
  have hbl := br_len s
  have hbp := hin.bls.ptr
  have hbr := hin.bls.row
  refine calls_of_Sx (args := [.agg (bvc s).toArray, .int .i64 no, .agg (cc c).toArray]) Try.func18 rfl rfl ?_
  by_cases hv : ValidB s.br; rotate_left
  · have he : changeB s.br no c = (Br0, 540) := if_pos hv
    refine ztx ?_
    refine Ox.act rfl rfl (acts_box rfl rfl) ?_
    rintro vb3 wb3 ⟨eb3, bb3, rfl, hbb3, hBb3⟩
    first | (have hCb3 : Cells wb3 ⟨bb3, 0, none⟩ [_, _, _, _, _] := hBb3.cells) | have hCb3 := Blk.cellsL hBb3
    have hlb3 := hBb3.lt
    have hzb3 := eb3.size
    refine Ox.act rfl rfl (acts_box rfl rfl) ?_
    rintro vb5 wb5 ⟨eb5, bb5, rfl, hbb5, hBb5⟩
    first | (have hCb5 : Cells wb5 ⟨bb5, 0, none⟩ [_, _, _, _, _, _] := hBb5.cells) | have hCb5 := Blk.cellsL hBb5
    have hlb5 := hBb5.lt
    have hzb5 := eb5.size
    refine Ox.act rfl rfl (acts_alloc rfl rfl) ?_
    rintro vb6 wb6 ⟨eb6, bb6, rfl, hbb6, hBb6⟩
    first | (have hCb6 : Cells wb6 ⟨bb6, 0, none⟩ [_, _, _, _, _] := hBb6.cells) | have hCb6 := Blk.cellsL hBb6
    have hlb6 := hBb6.lt
    have hzb6 := eb6.size
    refine Ox.pure rfl rfl zas ?_
    refine Ox.fin ?_
    refine ztx ?_
    refine Ox.val rfl rfl zra ?_
    refine Ox.act rfl rfl (acts_call rfl rfl rfl (refValid_br s hsm _ (hin.ext0 zxc))) ?_
    rintro v1 w1 ⟨e1, rfl⟩
    have hz1 := e1.size
    first | rw [decide_eq_true hv] | rw [decide_eq_false hv]
    refine Ox.pure rfl rfl (rp_not rfl rfl) ?_
    refine Ox.fin ?_
    refine zct ?_
    refine ztx ?_
    refine Ox.pure rfl rfl (rp_buildS (ps := []) rfl rfl rfl rfl rfl) ?_
    refine Ox.act rfl rfl (acts_store_all rfl rfl rfl (hBb6.ext (X := []) zxc (by simp)) rfl rfl rfl (bvc_one Bs0)) ?_
    rintro vs2 ws2 ⟨rfl, qs2, hBs2⟩
    have es2 : Ext [] w ws2 := Ext.renew zxc qs2 (by omega)
    refine Ox.pure rfl rfl zas ?_
    refine Ox.fin ?_
    refine zrt ?_
    exact endE_ret [.agg (bvc Bs0).toArray, .int .i64 540] ⟨⟨⟨bb6, 0, none⟩, rfl, hBs2.cellsL.ldA rfl rfl⟩, rfl, trivial⟩ ⟨zxc, _, by rw [he]; rfl, by rw [he]; exact RBr.zero _ _⟩
  have hdl : s.done.length = s.bls.length := by have : s.done.length = s.br.brs.length := hv.1.2.2.2.1; omega
  by_cases ho : OpenB s.br no; rotate_left
  · have he : changeB s.br no c = (Br0, 1) := (if_neg (fun h => h hv)).trans (if_pos ho)
    refine ztx ?_
    refine Ox.act rfl rfl (acts_box rfl rfl) ?_
    rintro vb3 wb3 ⟨eb3, bb3, rfl, hbb3, hBb3⟩
    first | (have hCb3 : Cells wb3 ⟨bb3, 0, none⟩ [_, _, _, _, _] := hBb3.cells) | have hCb3 := Blk.cellsL hBb3
    have hlb3 := hBb3.lt
    have hzb3 := eb3.size
    refine Ox.act rfl rfl (acts_box rfl rfl) ?_
    rintro vb5 wb5 ⟨eb5, bb5, rfl, hbb5, hBb5⟩
    first | (have hCb5 : Cells wb5 ⟨bb5, 0, none⟩ [_, _, _, _, _, _] := hBb5.cells) | have hCb5 := Blk.cellsL hBb5
    have hlb5 := hBb5.lt
    have hzb5 := eb5.size
    refine Ox.act rfl rfl (acts_alloc rfl rfl) ?_
    rintro vb6 wb6 ⟨eb6, bb6, rfl, hbb6, hBb6⟩
    first | (have hCb6 : Cells wb6 ⟨bb6, 0, none⟩ [_, _, _, _, _] := hBb6.cells) | have hCb6 := Blk.cellsL hBb6
    have hlb6 := hBb6.lt
    have hzb6 := eb6.size
    refine Ox.pure rfl rfl zas ?_
    refine Ox.fin ?_
    refine ztx ?_
    refine Ox.val rfl rfl zra ?_
    refine Ox.act rfl rfl (acts_call rfl rfl rfl (refValid_br s hsm _ (hin.ext0 zxc))) ?_
    rintro v2 w2 ⟨e2, rfl⟩
    have hz2 := e2.size
    first | rw [decide_eq_true hv] | rw [decide_eq_false hv]
    refine Ox.pure rfl rfl (rp_not rfl rfl) ?_
    refine Ox.fin ?_
    refine zcf ?_
    refine zsk ?_
    refine ztx ?_
    refine Ox.val rfl rfl zra ?_
    refine Ox.pure rfl rfl zmv ?_
    refine Ox.act rfl rfl (acts_call rfl rfl rfl (open_at_r s no _ (hin.ext0 zxc) hdl)) ?_
    rintro v3 w3 ⟨e3, rfl⟩
    have hz3 := e3.size
    first | rw [decide_eq_true ho] | rw [decide_eq_false ho]
    refine Ox.pure rfl rfl (rp_not rfl rfl) ?_
    refine Ox.fin ?_
    refine zct ?_
    refine ztx ?_
    refine Ox.pure rfl rfl (rp_buildS (ps := []) rfl rfl rfl rfl rfl) ?_
    refine Ox.act rfl rfl (acts_store_all rfl rfl rfl (hBb6.ext (X := []) zxc (by simp)) rfl rfl rfl (bvc_one Bs0)) ?_
    rintro vs4 ws4 ⟨rfl, qs4, hBs4⟩
    have es4 : Ext [] w ws4 := Ext.renew zxc qs4 (by omega)
    refine Ox.pure rfl rfl zas ?_
    refine Ox.fin ?_
    refine zrt ?_
    exact endE_ret [.agg (bvc Bs0).toArray, .int .i64 1] ⟨⟨⟨bb6, 0, none⟩, rfl, hBs4.cellsL.ldA rfl rfl⟩, rfl, trivial⟩ ⟨zxc, _, by rw [he]; rfl, by rw [he]; exact RBr.zero _ _⟩
  obtain ⟨o1, o2, _⟩ := id ho
  have he0 : changeB s.br no c = if (recL (ofB s.br no).1 [c]).2 ≠ 0 then (Br0, (recL (ofB s.br no).1 [c]).2) else (⟨s.br.base, s.br.brs.set no.toNat (brB s.br no.toNat ++ [c]), s.br.par, s.br.fks, s.br.done⟩, 0) := (if_neg (fun h => h hv)).trans (if_neg (fun h => h ho))
  rw [recL_one] at he0
  have hofl := of_few hv.1 hsm no (by omega)
  have hofc := of_check hv.2.1 no
  by_cases hz : (addL (ofB s.br no).1 (chF c (nextK (ofB s.br no).1))).2 = 0; rotate_left
  · have he := he0.trans (if_pos hz)
    refine ztx ?_
    refine Ox.act rfl rfl (acts_box rfl rfl) ?_
    rintro vb3 wb3 ⟨eb3, bb3, rfl, hbb3, hBb3⟩
    first | (have hCb3 : Cells wb3 ⟨bb3, 0, none⟩ [_, _, _, _, _] := hBb3.cells) | have hCb3 := Blk.cellsL hBb3
    have hlb3 := hBb3.lt
    have hzb3 := eb3.size
    refine Ox.act rfl rfl (acts_box rfl rfl) ?_
    rintro vb5 wb5 ⟨eb5, bb5, rfl, hbb5, hBb5⟩
    first | (have hCb5 : Cells wb5 ⟨bb5, 0, none⟩ [_, _, _, _, _, _] := hBb5.cells) | have hCb5 := Blk.cellsL hBb5
    have hlb5 := hBb5.lt
    have hzb5 := eb5.size
    refine Ox.act rfl rfl (acts_alloc rfl rfl) ?_
    rintro vb6 wb6 ⟨eb6, bb6, rfl, hbb6, hBb6⟩
    first | (have hCb6 : Cells wb6 ⟨bb6, 0, none⟩ [_, _, _, _, _] := hBb6.cells) | have hCb6 := Blk.cellsL hBb6
    have hlb6 := hBb6.lt
    have hzb6 := eb6.size
    refine Ox.pure rfl rfl zas ?_
    refine Ox.fin ?_
    refine ztx ?_
    refine Ox.val rfl rfl zra ?_
    refine Ox.act rfl rfl (acts_call rfl rfl rfl (refValid_br s hsm _ (hin.ext0 zxc))) ?_
    rintro v4 w4 ⟨e4, rfl⟩
    have hz4 := e4.size
    first | rw [decide_eq_true hv] | rw [decide_eq_false hv]
    refine Ox.pure rfl rfl (rp_not rfl rfl) ?_
    refine Ox.fin ?_
    refine zcf ?_
    refine zsk ?_
    refine ztx ?_
    refine Ox.val rfl rfl zra ?_
    refine Ox.pure rfl rfl zmv ?_
    refine Ox.act rfl rfl (acts_call rfl rfl rfl (open_at_r s no _ (hin.ext0 zxc) hdl)) ?_
    rintro v5 w5 ⟨e5, rfl⟩
    have hz5 := e5.size
    first | rw [decide_eq_true ho] | rw [decide_eq_false ho]
    refine Ox.pure rfl rfl (rp_not rfl rfl) ?_
    refine Ox.fin ?_
    refine zcf ?_
    refine zsk ?_
    (repeat refine Sx.seq ?_)
    refine Sx.walkR rfl (fun _ _ _ _ h => h) [0, 1, 2, 3, 4, 5, 6, 7, 8, 9, 10] [0, 1, 2, 3, 6, 7, 8, 9, 10] (0) (by kernel_rfl) ?_
    intro hq w6 e6; have hz6 := e6.size
    refine Wx.val hq rfl rfl rfl rfl ([]) zra ?_
    refine Wx.pure hq rfl rfl rfl rfl zmv ?_
    refine Wx.val hq rfl rfl rfl rfl ([]) zra ?_
    refine Wx.pure hq rfl rfl rfl rfl zmv ?_
    refine Wx.actNew rfl rfl rfl rfl (acts_call rfl rfl rfl (length_at_r s no _ (hin.ext0 zxc) (by omega))) ?_
    rintro v7 w7 e7 rfl
    have hz7 := e7.size
    refine Wx.actNew rfl rfl rfl rfl (acts_call rfl rfl rfl (refOf_no s hv.1 hv.2.1 hsm no (by omega) (by omega) _ (hin.ext0 zxc))) ?_
    rintro v8 w8 e8 ⟨p5, A5, c5, rfl, hs5⟩
    have hz8 := e8.size
    refine Wx.pure hq rfl rfl rfl rfl zmv ?_
    refine Wx.pure hq rfl rfl rfl rfl (rp_extract rfl rfl rfl) ?_
    refine Wx.pure hq rfl rfl rfl rfl (rp_extract rfl rfl rfl) ?_
    refine Wx.pure hq rfl rfl rfl rfl zas ?_
    refine Wx.pure hq rfl rfl rfl rfl zas ?_
    refine Wx.fin ?_
    refine ztx ?_
    refine Ox.pure rfl rfl zmv ?_
    refine Ox.val rfl rfl zra ?_
    refine Ox.act rfl rfl (acts_call rfl rfl rfl (refRecord_at (ofB s.br no).1 c p5 A5 c5 _ (hs5.ext0 zxc) hofc (by omega))) ?_
    rintro v9 w9 ⟨e9, p63, A63, c63, rfl, hs63⟩
    have hz9 := e9.size
    refine Ox.pure rfl rfl zmv ?_
    refine Ox.pure rfl rfl (rp_extract rfl rfl rfl) ?_
    refine Ox.pure rfl rfl (rp_extract rfl rfl rfl) ?_
    refine Ox.pure rfl rfl zas ?_
    refine Ox.pure rfl rfl zas ?_
    refine Ox.fin ?_
    refine ztx ?_
    refine Ox.pure rfl rfl zmv ?_
    refine Ox.pure rfl rfl zbc ?_
    refine Ox.fin ?_
    refine zct ?_
    refine ztx ?_
    refine Ox.pure rfl rfl (rp_buildS (ps := []) rfl rfl rfl rfl rfl) ?_
    refine Ox.pure rfl rfl zmv ?_
    refine Ox.act rfl rfl (acts_store_all rfl rfl rfl (hBb6.ext (X := []) zxc (by simp)) rfl rfl rfl (bvc_one Bs0)) ?_
    rintro vs8 ws8 ⟨rfl, qs8, hBs8⟩
    have es8 : Ext [] w ws8 := Ext.renew zxc qs8 (by omega)
    refine Ox.pure rfl rfl zas ?_
    refine Ox.fin ?_
    refine zrt ?_
    exact endE_ret [.agg (bvc Bs0).toArray, .int .i64 (addL (ofB s.br no).1 (chF c (nextK (ofB s.br no).1))).2] ⟨⟨⟨bb6, 0, none⟩, rfl, hBs8.cellsL.ldA rfl rfl⟩, rfl, trivial⟩ ⟨zxc, _, by rw [he]; rfl, by rw [he]; exact RBr.zero _ _⟩
  have he := he0.trans (if_neg (fun h => h hz))
  have hib : no.toNat < s.bls.length := by omega
  have hLb : ∀ u, Ext [] w u → Ld Try.prog u 59 (s.A1.add (no.toNat * 1 + 0)) (.slice s.bls[no.toNat].p s.bls[no.toNat].l.length s.bls[no.toNat].c) := fun u hu => ld_field blc_len (hbr.ext0 hu) hib 0 rfl (by decide) rfl
  obtain ⟨Ab, hsb⟩ := hin.sub _ (List.getElem_mem hib)
  have hbl2 := hsm.brs no.toNat
  rw [brB_eq hib] at hbl2
  refine ztx ?_
  refine Ox.act rfl rfl (acts_box rfl rfl) ?_
  rintro vb3 wb3 ⟨eb3, bb3, rfl, hbb3, hBb3⟩
  first | (have hCb3 : Cells wb3 ⟨bb3, 0, none⟩ [_, _, _, _, _] := hBb3.cells) | have hCb3 := Blk.cellsL hBb3
  have hlb3 := hBb3.lt
  have hzb3 := eb3.size
  refine Ox.act rfl rfl (acts_box rfl rfl) ?_
  rintro vb5 wb5 ⟨eb5, bb5, rfl, hbb5, hBb5⟩
  first | (have hCb5 : Cells wb5 ⟨bb5, 0, none⟩ [_, _, _, _, _, _] := hBb5.cells) | have hCb5 := Blk.cellsL hBb5
  have hlb5 := hBb5.lt
  have hzb5 := eb5.size
  refine Ox.act rfl rfl (acts_alloc rfl rfl) ?_
  rintro vb6 wb6 ⟨eb6, bb6, rfl, hbb6, hBb6⟩
  first | (have hCb6 : Cells wb6 ⟨bb6, 0, none⟩ [_, _, _, _, _] := hBb6.cells) | have hCb6 := Blk.cellsL hBb6
  have hlb6 := hBb6.lt
  have hzb6 := eb6.size
  refine Ox.pure rfl rfl zas ?_
  refine Ox.fin ?_
  refine ztx ?_
  refine Ox.val rfl rfl zra ?_
  refine Ox.act rfl rfl (acts_call rfl rfl rfl (refValid_br s hsm _ (hin.ext0 zxc))) ?_
  rintro v10 w10 ⟨e10, rfl⟩
  have hz10 := e10.size
  first | rw [decide_eq_true hv] | rw [decide_eq_false hv]
  refine Ox.pure rfl rfl (rp_not rfl rfl) ?_
  refine Ox.fin ?_
  refine zcf ?_
  refine zsk ?_
  refine ztx ?_
  refine Ox.val rfl rfl zra ?_
  refine Ox.pure rfl rfl zmv ?_
  refine Ox.act rfl rfl (acts_call rfl rfl rfl (open_at_r s no _ (hin.ext0 zxc) hdl)) ?_
  rintro v11 w11 ⟨e11, rfl⟩
  have hz11 := e11.size
  first | rw [decide_eq_true ho] | rw [decide_eq_false ho]
  refine Ox.pure rfl rfl (rp_not rfl rfl) ?_
  refine Ox.fin ?_
  refine zcf ?_
  refine zsk ?_
  (repeat refine Sx.seq ?_)
  refine Sx.walkR rfl (fun _ _ _ _ h => h) [0, 1, 2, 3, 4, 5, 6, 7, 8, 9, 10] [0, 1, 2, 3, 6, 7, 8, 9, 10] (0) (by kernel_rfl) ?_
  intro hq w12 e12; have hz12 := e12.size
  refine Wx.val hq rfl rfl rfl rfl ([]) zra ?_
  refine Wx.pure hq rfl rfl rfl rfl zmv ?_
  refine Wx.val hq rfl rfl rfl rfl ([]) zra ?_
  refine Wx.pure hq rfl rfl rfl rfl zmv ?_
  refine Wx.actNew rfl rfl rfl rfl (acts_call rfl rfl rfl (length_at_r s no _ (hin.ext0 zxc) (by omega))) ?_
  rintro v13 w13 e13 rfl
  have hz13 := e13.size
  refine Wx.actNew rfl rfl rfl rfl (acts_call rfl rfl rfl (refOf_no s hv.1 hv.2.1 hsm no (by omega) (by omega) _ (hin.ext0 zxc))) ?_
  rintro v14 w14 e14 ⟨p5, A5, c5, rfl, hs5⟩
  have hz14 := e14.size
  refine Wx.pure hq rfl rfl rfl rfl zmv ?_
  refine Wx.pure hq rfl rfl rfl rfl (rp_extract rfl rfl rfl) ?_
  refine Wx.pure hq rfl rfl rfl rfl (rp_extract rfl rfl rfl) ?_
  refine Wx.pure hq rfl rfl rfl rfl zas ?_
  refine Wx.pure hq rfl rfl rfl rfl zas ?_
  refine Wx.fin ?_
  refine ztx ?_
  refine Ox.pure rfl rfl zmv ?_
  refine Ox.val rfl rfl zra ?_
  refine Ox.act rfl rfl (acts_call rfl rfl rfl (refRecord_at (ofB s.br no).1 c p5 A5 c5 _ (hs5.ext0 zxc) hofc (by omega))) ?_
  rintro v15 w15 ⟨e15, p63, A63, c63, rfl, hs63⟩
  have hz15 := e15.size
  refine Ox.pure rfl rfl zmv ?_
  refine Ox.pure rfl rfl (rp_extract rfl rfl rfl) ?_
  refine Ox.pure rfl rfl (rp_extract rfl rfl rfl) ?_
  refine Ox.pure rfl rfl zas ?_
  refine Ox.pure rfl rfl zas ?_
  refine Ox.fin ?_
  refine ztx ?_
  refine Ox.pure rfl rfl zmv ?_
  refine Ox.pure rfl rfl zbc ?_
  refine Ox.fin ?_
  refine zcf ?_
  refine zsk ?_
  refine ztx ?_
  refine Ox.val rfl rfl zra ?_
  refine Ox.act rfl rfl (acts_call rfl rfl rfl (refCopied_at s hfw _ (hin.ext0 zxc))) ?_
  rintro vu9 wu9 ⟨eu9, s', rfl, hbr', hbls, htr, hO⟩
  have hzu9 := eu9.size
  have hzu9 := eu9.size
  refine Ox.act rfl rfl (acts_alloc rfl rfl) ?_
  rintro vb12 wb12 ⟨eb12, bb12, rfl, hbb12, hBb12⟩
  first | (have hCb12 : Cells wb12 ⟨bb12, 0, none⟩ [_, _, _, _, _] := hBb12.cells) | have hCb12 := Blk.cellsL hBb12
  have hlb12 := hBb12.lt
  have hzb12 := eb12.size
  refine Ox.act rfl rfl (acts_store_all rfl rfl rfl hBb12 rfl rfl rfl (bvc_one s')) ?_
  rintro vs9 ws9 ⟨rfl, qs9, hBs9⟩
  have es9 : Ext [] wb6 ws9 := (show Ext [] wb6 wu9 from zxc).trans (Ext.renew eb12 qs9 hbb12)
  have hzs9 := es9.size
  have hys9 := qs9.size
  have hxs9 := eb12.size
  have hO9 := OB.put (hO.ext0 eb12) hBb12 qs9 hBs9
  have hCs9 := hO9.cells
  have hd' : s'.done = s.done := congrArg Br.done hbr'
  have hp' : s'.par = s.par := congrArg Br.par hbr'
  have hf' : s'.fks = s.fks := congrArg Br.fks hbr'
  have hw1 : s'.bls.length ≤ 1000 := by rw [hbls]; exact hfw.bls
  have hw2 : s'.par.length ≤ 1000 := by rw [hp']; exact hfw.par
  have hw3 : s'.fks.length ≤ 1000 := by rw [hf']; exact hfw.fks
  have hw4 : s'.done.length ≤ 1000 := by rw [hd']; exact hfw.done
  have hi' : no.toNat < s'.bls.length := by rw [hbls]; exact hib
  have hpt := hO.in_.bls.ptr
  refine Ox.fin ?_
  refine Sx.seq (Sx.upto (fun E' w' => (∀ t u, get [(6, .pointer (some ⟨bb6, 0, none⟩)), (12, .pointer (some ⟨bb12, 0, none⟩))] t = some u → get E' t = some u) ∧ Ext [] wb6 w' ∧ ∃ (base : Nat) (p12 : Option Addr) (k12 : Nat), w.heap.size ≤ base ∧ OB bb12 base { s' with bls := s'.bls.set no.toNat (⟨p12, k12, s.bls[no.toNat].l ++ [c]⟩ : Bl) } w' ∧ ∃ A, SlV cc w' p12 A (s.bls[no.toNat].l ++ [c]) k12) ?_ ?_)
  · skip
    (repeat refine Sx.seq ?_)
    refine Sx.walkR rfl (fun _ _ _ _ h => h) [0, 1, 2, 4, 5, 6, 7, 8, 10] [0, 1, 2, 4, 5, 6, 7, 8, 10, 13] (6) (by kernel_rfl) ?_
    intro hq wD eD; have hzD := eD.size
    refine Wx.pure hq rfl rfl rfl rfl zfa ?_
    refine Wx.val hq rfl rfl rfl rfl ([]) zrs ?_
    refine Wx.pure hq rfl rfl rfl rfl zmv ?_
    refine Wx.pure hq rfl rfl rfl rfl zfa ?_
    refine Wx.val hq rfl rfl rfl rfl ([]) zrs ?_
    refine Wx.pure hq rfl rfl rfl rfl zmv ?_
    refine Wx.pure hq rfl rfl rfl rfl (rp_indexAddr no.toNat rfl rfl rfl rfl rfl hbp (by omega) hib) ?_
    refine Wx.val hq rfl rfl rfl rfl ([]) (rv_load rfl rfl (fun u hu => hLb u zxc)) ?_
    refine Wx.val hq rfl rfl rfl rfl ([]) zra ?_
    refine Wx.fork (i := 3) (j := 11) (by kernel_rfl) ?_ ?_
    · refine Go.Eng.Br.mk [(10, [], wD), (8, [], wD), (5, [], wD), (1, [], wD)] rfl rfl rfl ([]) (.keep (fun y hy => .inl hy) (.keep (fun y hy => .inl hy) (.keep (fun y hy => .inl hy) (.keep (fun y hy => .inl hy) (PendK.nil))))) (acts_buildSlice (ps := []) rfl rfl rfl rfl rfl rfl rfl rfl) (fun _ _ h => h.1) [] (5) (by kernel_rfl) ?_
      rintro vn3 wn3 ⟨en3, bn3, rfl, hbn3, hBn3⟩
      first | (have hCn3 : Cells wn3 ⟨bn3, 0, none⟩ [] := hBn3.cells) | have hCn3 := Blk.cellsL hBn3
      have hln3 := hBn3.lt
      have hzn3 := en3.size
      refine Wx.fork (i := 9) (j := 11) (by kernel_rfl) ?_ ?_
      · refine Go.Eng.Br.mk [(10, [], wD), (1, [], wD)] rfl rfl rfl ([]) (.keep (fun y hy => .inl hy) (.drop (by kernel_rfl) (.drop (by kernel_rfl) (.keep (fun y hy => .inl hy) (PendK.nil))))) (acts_append_new (e := 42) (size := 6) (bytes := 48) (base := wD.heap.size) rfl rfl rfl rfl (hBn3.ext (X := []) zxc (by simp)) ((hsb.ext0 zxc).src rfl cc_len cc_one) (by omega) (by omega) (by omega)) (fun _ _ h => h.1) [11, 12, 13, 14] (0) (by kernel_rfl) ?_
        rintro va9 wa9 ⟨ea9, hoa9, hra9⟩
        have hza9 := ea9.size
        have hza9 := ea9.size
        obtain ⟨p9, k9, A9, rfl, _, _⟩ := SlV.of_own (enc := cc) (l := s.bls[no.toNat].l) hoa9 (by omega)
        refine Wx.actNew rfl rfl rfl rfl (acts_buildSlice (ps := [(0, .tmp 53)]) rfl rfl rfl rfl rfl rfl rfl rfl) ?_
        rintro vn11 wn11 en11 ⟨bn11, rfl, hbn11, hBn11⟩
        first | (have hCn11 : Cells wn11 ⟨bn11, 0, none⟩ [_, _, _, _, _, _] := hBn11.cells) | have hCn11 := Blk.cellsL hBn11
        have hln11 := hBn11.lt
        have hzn11 := en11.size
        refine Wx.actX [(1, [], wD)] rfl rfl rfl rfl ((Value.slice p9 s.bls[no.toNat].l.length k9).ownBlock.toList) (.drop (by kernel_rfl) (.keep (fun y hy => .inr (own_lt hoa9 y hy).1) (PendK.nil))) (acts_append (e := 42) (size := 6) (bytes := 48) rfl rfl rfl rfl (own_keep0 hoa9 zxc) (source_slice (m := 1) (news := cc c) rfl rfl (fun _ => rfl) (hCn11.ext0 zxc) (cc_one _)) (by first | omega | (dsimp only; omega)) (by first | omega | (dsimp only; omega)) (by omega)) (fun _ _ h => h.ext) ?_
        rintro va12 wa12 hga12
        obtain ⟨p12, k12, A12, rfl, _, _⟩ := SlV.of_own (enc := cc) (l := s.bls[no.toNat].l ++ [c]) (by have h9 := hga12.own; rw [List.length_append, rowsV_append, rowsV_one]; exact h9) (by simp; omega)
        have ho12 : wa12.ownsRow wD.heap.size 42 6 (.slice p12 (s.bls[no.toNat].l ++ [c]).length k12) (s.bls[no.toNat].l ++ [c]).length (rowsV cc (s.bls[no.toNat].l ++ [c])) := by have h9 := hga12.own; rw [rowsV_append, rowsV_one]; rw [List.length_append] at h9 ⊢; exact h9
        have ea12 : Ext [] ws9 wa12 := hga12.ext0 zxc (fun g hg => by have := (own_lt hoa9 g (by simp [hg])).1; omega)
        have hza12 := ea12.size
        have hP := OB.ext0 (w' := wa12) hO9 zxc
        refine Wx.pure hq rfl rfl rfl rfl (rp_indexAddr no.toNat rfl rfl rfl rfl rfl hpt (by omega) hi') ?_
        refine Wx.actLast rfl rfl rfl rfl (by kernel_rfl) (acts_store_own (enc := blc) blc_len (⟨p12, k12, s.bls[no.toNat].l ++ [c]⟩ : Bl) rfl rfl rfl rfl rfl hP.o1 hpt hi' (blc_one _)) ?_
        rintro vs13 ws13 ⟨rfl, qs13, hos13⟩
        refine Wx.fin ?_
        exact ⟨sub_cons rfl (sub_cons rfl sub_nil), OB.step (v := Value.slice s'.p1 s'.bls.length s'.c1) zxc qs13 hP.o1 (by omega), _, p12, k12, (by omega), OB.set1 hP qs13 hos13, (own_sl_at (own_keep ho12 qs13 (fun g hg hm => own_apart ho12 hP.o1 (by decide) g hg (by simpa using hm))) (by simp; omega))⟩
      · refine Go.Eng.Br.mk [(8, [], wD), (5, [], wD), (1, [], wD)] rfl rfl rfl ([]) (.drop (by kernel_rfl) (.keep (fun y hy => .inl hy) (.keep (fun y hy => .inl hy) (.keep (fun y hy => .inl hy) (PendK.nil))))) (acts_buildSlice (ps := [(0, .tmp 53)]) rfl rfl rfl rfl rfl rfl rfl rfl) (fun _ _ h => h.1) [9, 12, 13, 14] (0) (by kernel_rfl) ?_
        rintro vn11 wn11 ⟨en11, bn11, rfl, hbn11, hBn11⟩
        first | (have hCn11 : Cells wn11 ⟨bn11, 0, none⟩ [_, _, _, _, _, _] := hBn11.cells) | have hCn11 := Blk.cellsL hBn11
        have hln11 := hBn11.lt
        have hzn11 := en11.size
        refine Wx.actNew rfl rfl rfl rfl (acts_append_new (e := 42) (size := 6) (bytes := 48) (base := wD.heap.size) rfl rfl rfl rfl (hBn3.ext (X := []) zxc (by simp)) ((hsb.ext0 zxc).src rfl cc_len cc_one) (by omega) (by omega) (by omega)) ?_
        rintro va9 wa9 ea9 ⟨hoa9, hra9⟩
        have hza9 := ea9.size
        have hza9 := ea9.size
        obtain ⟨p9, k9, A9, rfl, _, _⟩ := SlV.of_own (enc := cc) (l := s.bls[no.toNat].l) hoa9 (by omega)
        refine Wx.actX [(1, [], wD)] rfl rfl rfl rfl ((Value.slice p9 s.bls[no.toNat].l.length k9).ownBlock.toList) (.drop (by kernel_rfl) (.drop (by kernel_rfl) (.keep (fun y hy => .inr (own_lt hoa9 y hy).1) (PendK.nil)))) (acts_append (e := 42) (size := 6) (bytes := 48) rfl rfl rfl rfl (own_keep0 hoa9 zxc) (source_slice (m := 1) (news := cc c) rfl rfl (fun _ => rfl) (hCn11.ext0 zxc) (cc_one _)) (by first | omega | (dsimp only; omega)) (by first | omega | (dsimp only; omega)) (by omega)) (fun _ _ h => h.ext) ?_
        rintro va12 wa12 hga12
        obtain ⟨p12, k12, A12, rfl, _, _⟩ := SlV.of_own (enc := cc) (l := s.bls[no.toNat].l ++ [c]) (by have h9 := hga12.own; rw [List.length_append, rowsV_append, rowsV_one]; exact h9) (by simp; omega)
        have ho12 : wa12.ownsRow wD.heap.size 42 6 (.slice p12 (s.bls[no.toNat].l ++ [c]).length k12) (s.bls[no.toNat].l ++ [c]).length (rowsV cc (s.bls[no.toNat].l ++ [c])) := by have h9 := hga12.own; rw [rowsV_append, rowsV_one]; rw [List.length_append] at h9 ⊢; exact h9
        have ea12 : Ext [] ws9 wa12 := hga12.ext0 zxc (fun g hg => by have := (own_lt hoa9 g (by simp [hg])).1; omega)
        have hza12 := ea12.size
        have hP := OB.ext0 (w' := wa12) hO9 zxc
        refine Wx.pure hq rfl rfl rfl rfl (rp_indexAddr no.toNat rfl rfl rfl rfl rfl hpt (by omega) hi') ?_
        refine Wx.actLast rfl rfl rfl rfl (by kernel_rfl) (acts_store_own (enc := blc) blc_len (⟨p12, k12, s.bls[no.toNat].l ++ [c]⟩ : Bl) rfl rfl rfl rfl rfl hP.o1 hpt hi' (blc_one _)) ?_
        rintro vs13 ws13 ⟨rfl, qs13, hos13⟩
        refine Wx.fin ?_
        exact ⟨sub_cons rfl (sub_cons rfl sub_nil), OB.step (v := Value.slice s'.p1 s'.bls.length s'.c1) zxc qs13 hP.o1 (by omega), _, p12, k12, (by omega), OB.set1 hP qs13 hos13, (own_sl_at (own_keep ho12 qs13 (fun g hg hm => own_apart ho12 hP.o1 (by decide) g hg (by simpa using hm))) (by simp; omega))⟩
    · refine Go.Eng.Br.mk [(8, [], wD), (5, [], wD), (1, [], wD)] rfl rfl rfl ([]) (.drop (by kernel_rfl) (.keep (fun y hy => .inl hy) (.keep (fun y hy => .inl hy) (.keep (fun y hy => .inl hy) (PendK.nil))))) (acts_buildSlice (ps := [(0, .tmp 53)]) rfl rfl rfl rfl rfl rfl rfl rfl) (fun _ _ h => h.1) [3, 9, 12, 13, 14] (0) (by kernel_rfl) ?_
      rintro vn11 wn11 ⟨en11, bn11, rfl, hbn11, hBn11⟩
      first | (have hCn11 : Cells wn11 ⟨bn11, 0, none⟩ [_, _, _, _, _, _] := hBn11.cells) | have hCn11 := Blk.cellsL hBn11
      have hln11 := hBn11.lt
      have hzn11 := en11.size
      refine Wx.actNew rfl rfl rfl rfl (acts_buildSlice (ps := []) rfl rfl rfl rfl rfl rfl rfl rfl) ?_
      rintro vn3 wn3 en3 ⟨bn3, rfl, hbn3, hBn3⟩
      first | (have hCn3 : Cells wn3 ⟨bn3, 0, none⟩ [] := hBn3.cells) | have hCn3 := Blk.cellsL hBn3
      have hln3 := hBn3.lt
      have hzn3 := en3.size
      refine Wx.actNew rfl rfl rfl rfl (acts_append_new (e := 42) (size := 6) (bytes := 48) (base := wD.heap.size) rfl rfl rfl rfl (hBn3.ext (X := []) zxc (by simp)) ((hsb.ext0 zxc).src rfl cc_len cc_one) (by omega) (by omega) (by omega)) ?_
      rintro va9 wa9 ea9 ⟨hoa9, hra9⟩
      have hza9 := ea9.size
      have hza9 := ea9.size
      obtain ⟨p9, k9, A9, rfl, _, _⟩ := SlV.of_own (enc := cc) (l := s.bls[no.toNat].l) hoa9 (by omega)
      refine Wx.actX [(1, [], wD)] rfl rfl rfl rfl ((Value.slice p9 s.bls[no.toNat].l.length k9).ownBlock.toList) (.drop (by kernel_rfl) (.drop (by kernel_rfl) (.keep (fun y hy => .inr (own_lt hoa9 y hy).1) (PendK.nil)))) (acts_append (e := 42) (size := 6) (bytes := 48) rfl rfl rfl rfl (own_keep0 hoa9 zxc) (source_slice (m := 1) (news := cc c) rfl rfl (fun _ => rfl) (hCn11.ext0 zxc) (cc_one _)) (by first | omega | (dsimp only; omega)) (by first | omega | (dsimp only; omega)) (by omega)) (fun _ _ h => h.ext) ?_
      rintro va12 wa12 hga12
      obtain ⟨p12, k12, A12, rfl, _, _⟩ := SlV.of_own (enc := cc) (l := s.bls[no.toNat].l ++ [c]) (by have h9 := hga12.own; rw [List.length_append, rowsV_append, rowsV_one]; exact h9) (by simp; omega)
      have ho12 : wa12.ownsRow wD.heap.size 42 6 (.slice p12 (s.bls[no.toNat].l ++ [c]).length k12) (s.bls[no.toNat].l ++ [c]).length (rowsV cc (s.bls[no.toNat].l ++ [c])) := by have h9 := hga12.own; rw [rowsV_append, rowsV_one]; rw [List.length_append] at h9 ⊢; exact h9
      have ea12 : Ext [] ws9 wa12 := hga12.ext0 zxc (fun g hg => by have := (own_lt hoa9 g (by simp [hg])).1; omega)
      have hza12 := ea12.size
      have hP := OB.ext0 (w' := wa12) hO9 zxc
      refine Wx.pure hq rfl rfl rfl rfl (rp_indexAddr no.toNat rfl rfl rfl rfl rfl hpt (by omega) hi') ?_
      refine Wx.actLast rfl rfl rfl rfl (by kernel_rfl) (acts_store_own (enc := blc) blc_len (⟨p12, k12, s.bls[no.toNat].l ++ [c]⟩ : Bl) rfl rfl rfl rfl rfl hP.o1 hpt hi' (blc_one _)) ?_
      rintro vs13 ws13 ⟨rfl, qs13, hos13⟩
      refine Wx.fin ?_
      exact ⟨sub_cons rfl (sub_cons rfl sub_nil), OB.step (v := Value.slice s'.p1 s'.bls.length s'.c1) zxc qs13 hP.o1 (by omega), _, p12, k12, (by omega), OB.set1 hP qs13 hos13, (own_sl_at (own_keep ho12 qs13 (fun g hg hm => own_apart ho12 hP.o1 (by decide) g hg (by simpa using hm))) (by simp; omega))⟩
  rintro E' wm ⟨hsub, em, base, p12, k12, hbs, hS, A12, hs12⟩
  refine thenE_normal (Sx.weaken ?_ hsub)
  have hzm := em.size
  have hCm := hS.cells
  refine ztx ?_
  refine Ox.val rfl rfl zra ?_
  refine Ox.act rfl rfl (acts_store_all rfl rfl rfl (hBb6.ext (X := []) zxc (by simp)) rfl rfl rfl (bvc_one _)) ?_
  rintro vsz wsz ⟨rfl, qsz, hBsz⟩
  have esz : Ext [] w wsz := Ext.renew zxc qsz (by omega)
  have hOz := hS.other (hBb6.ext (X := []) zxc (by simp)) qsz (by have := hBb6.lt; omega)
  refine Ox.pure rfl rfl zas ?_
  refine Ox.fin ?_
  refine zrt ?_
  have hs14 := sl_keep hs12 qsz (fun hl => by have := sl_off cc_len cc_ns (by decide) (s0 := Bs0) hs12 (hBb6.ext (X := []) (w' := wm) zxc (by simp)) hl; simpa using this)
  have hres := hOz.res ⟨by simpa using hw1, hw2, hw3, hw4⟩ (htr _ (hin.base.ext0 zxc)) (fun x hx => by
    rcases List.mem_or_eq_of_mem_set hx with h | h
    · have h9 : x ∈ s.bls := by rw [← hbls]; exact h
      exact (hin.sub x h9).imp fun _ h9 => h9.ext0 zxc
    · rw [h]; exact ⟨_, hs14⟩)
  refine endE_ret [.agg (bvc _).toArray, .int .i64 0] ⟨⟨⟨bb6, 0, none⟩, rfl, hBsz.cellsL.ldA rfl rfl⟩, rfl, trivial⟩ ⟨zxc, _, by rw [he]; rfl, ?_⟩
  obtain ⟨s9, e9, h9, e8, z9⟩ := hres
  refine ⟨s9, e9, h9, e8.trans ?_, fun h => Nat.le_trans (by omega) (z9 h)⟩
  rw [he]
  show Br.mk s'.base ((s'.bls.set no.toNat (⟨p12, k12, s.bls[no.toNat].l ++ [c]⟩ : Bl)).map Bl.l) s'.par s'.fks s'.done = _
  rw [List.map_set, show s'.base = s.br.base from congrArg Br.base hbr', show s'.bls.map Bl.l = s.br.brs from congrArg Br.brs hbr', show s'.par = s.br.par from congrArg Br.par hbr', show s'.fks = s.br.fks from congrArg Br.fks hbr', show s'.done = s.br.done from congrArg Br.done hbr', brB_eq hib]

end Go.Proofs.Ytfgckcochilpkaa

/- Branches' walks: the reference's conflicts. -/
set_option linter.unusedVariables false
set_option maxRecDepth 100000
set_option maxHeartbeats 4000000
set_option linter.unusedSimpArgs false
namespace Go.Proofs.Ytfgckcochilpkaa
open Go Go.Eng

def keyF (c : Cr) : Fct := ⟨c.key, 0, 0, 0, 0, 0⟩
theorem keyF_take {cs : List Cr} {i : Nat} (h : i < cs.length) : (cs.take (i + 1)).map keyF = (cs.take i).map keyF ++ [keyF cs[i]] := by
  rw [List.take_succ_eq_append_getElem h, List.map_append]; rfl
theorem refKeys_at (cs : List Cr) (q : Option Addr) (B : Addr) (d : Nat) (w : World) (hc : SlV cc w q B cs d) (hl : cs.length ≤ 1000) :
    Calls Try.prog 51 #[.slice q cs.length d] w (Ret fun r w' => Ext [] w w' ∧ OwnF w.heap.size w' r (cs.map keyF)) := by
  have hf := hc.few
  refine calls_of_Sx (args := [.slice q cs.length d]) Try.func51 rfl rfl ?_
  refine ztx ?_
  refine Ox.pure rfl rfl zas ?_
  refine Ox.fin ?_
  refine ztx ?_
  refine Ox.act rfl rfl (acts_buildSlice (ps := []) rfl rfl rfl rfl rfl rfl rfl rfl) ?_
  rintro vn0 wn0 ⟨en0, bn0, rfl, hbn0, hBn0⟩
  first | (have hCn0 : Cells wn0 ⟨bn0, 0, none⟩ [] := hBn0.cells) | have hCn0 := Blk.cellsL hBn0
  have hln0 := hBn0.lt
  have hzn0 := en0.size
  refine Ox.pure rfl rfl zas ?_
  refine Ox.fin ?_
  refine ztx ?_
  refine Ox.pure rfl rfl zas ?_
  refine Ox.fin ?_
  refine zbl ?_
  refine Sx.loop (ι := Nat × Value) (fun i E wr => E = [(0, .slice q cs.length d), (3, i.2), (4, .int .i64 (i.1 : Int))] ∧ i.1 ≤ cs.length ∧ OwnF w.heap.size wr i.2 ((cs.take i.1).map keyF) ∧ Ext [] w wr) (fun i => cs.length - i.1) (0, .slice (some ⟨bn0, 0, none⟩) 0 0)
    (sub_cons rfl (sub_cons rfl (sub_cons rfl sub_nil))) ⟨rfl, Nat.zero_le _, own_built (size := 8) (len := 0) hBn0 (by omega) rfl (by decide), zxc⟩ ?_
  rintro ⟨i, v⟩ E wr ⟨rfl, hi, hown, er⟩
  dsimp only at hi hown ⊢
  have hz := er.size
  by_cases hlt : i < cs.length
  · have hkl : ((cs.take i).map keyF).length = i := by simp; omega
    have hLk : ∀ u, Ext [] w u → Ld Try.prog u 38 (B.add (i * 6 + 0)) (.agg (kc cs[i].key).toArray) := fun u hu => ld_sub (enc := cc) (sub := kc cs[i].key) (i := i) (l := cs) cc_len (hc.row.ext0 hu) hlt 0 rfl rfl (Nat.le_of_ble_eq_true rfl) rfl
    refine ztx ?_
    refine Ox.pure rfl rfl zmv ?_
    refine Ox.pure rfl rfl zmv ?_
    refine Ox.pure rfl rfl (rp_lenS rfl rfl rfl) ?_
    refine Ox.pure rfl rfl zbc ?_
    refine Ox.fin ?_
    refine zct ?_
    refine zsk ?_
    refine zbl ?_
    refine ztx ?_
    refine Ox.pure rfl rfl zmv ?_
    refine Ox.pure rfl rfl zmv ?_
    refine Ox.pure rfl rfl zmv ?_
    refine Ox.pure rfl rfl (rp_indexAddr i rfl rfl rfl rfl rfl hc.ptr rfl hlt) ?_
    refine Ox.pure rfl rfl zfa ?_
    refine Ox.val rfl rfl (rv_load rfl rfl (fun u hu => hLk u zxc)) ?_
    refine Ox.pure rfl rfl (rp_buildS (ps := [(0, .tmp 17)]) rfl rfl rfl rfl rfl) ?_
    refine Ox.act rfl rfl (acts_buildSlice (ps := [(0, .tmp 18)]) rfl rfl rfl rfl rfl rfl rfl rfl) ?_
    rintro vn5 wn5 ⟨en5, bn5, rfl, hbn5, hBn5⟩
    first | (have hCn5 : Cells wn5 ⟨bn5, 0, none⟩ [_, _, _, _, _, _, _, _] := hBn5.cells) | have hCn5 := Blk.cellsL hBn5
    have hln5 := hBn5.lt
    have hzn5 := en5.size
    refine Ox.act rfl rfl (acts_append (e := 64) (size := 8) (bytes := 64) rfl rfl rfl rfl (own_keep0 hown zxc) (source_slice (m := 1) (news := fc (keyF cs[i])) rfl rfl (fun _ => rfl) (hCn5.ext0 zxc) (fc_one _)) (by first | omega | (dsimp only; omega)) (by first | omega | (dsimp only; omega)) (by omega)) ?_
    rintro va5 wa5 hga5
    refine Ox.pure rfl rfl zas ?_
    refine Ox.fin ?_
    refine ztx ?_
    refine Ox.pure rfl rfl zmv ?_
    refine Ox.pure rfl rfl zba ?_
    refine Ox.pure rfl rfl zas ?_
    refine Ox.fin ?_
    refine ⟨(i + 1, va5), _, sub_cons rfl (sub_cons rfl (sub_cons rfl sub_nil)), ⟨rfl, hlt, ?_, hga5.ext0 zxc (fun g hg => (own_lt hown g (by simp [hg])).1)⟩, by dsimp only; omega⟩
    have h9 := hga5.own
    unfold OwnF
    rw [keyF_take hlt, List.length_append, rowsV_append, rowsV_one]
    exact h9
  · rw [List.take_of_length_le (by omega)] at hown
    refine ztx ?_
    refine Ox.pure rfl rfl zmv ?_
    refine Ox.pure rfl rfl zmv ?_
    refine Ox.pure rfl rfl (rp_lenS rfl rfl rfl) ?_
    refine Ox.pure rfl rfl zbc ?_
    refine Ox.fin ?_
    refine zcf ?_
    refine zex ?_
    refine ztx ?_
    refine Ox.pure rfl rfl zmv ?_
    refine Ox.pure rfl rfl zas ?_
    refine Ox.fin ?_
    refine zrt ?_
    exact endE_ret [_] ⟨rfl, trivial⟩ ⟨zxc, own_keep0 hown zxc⟩

theorem refFresh_at (s : Bs) (hf : Formed s.br) (hsm : Small s) (no : Int) (h0 : 0 ≤ no) (h1 : no < (s.bls.length : Int)) (w : World) (hin : BsIn s w) :
    Calls Try.prog 28 #[.agg (bvc s).toArray, .int .i64 no] w (Ret fun r w' => Ext [] w w' ∧ ∃ (fs : List Fct) (p : Option Addr) (A : Addr) (c : Nat), r = .slice p fs.length c ∧ SlV fc w' p A fs c ∧ fs.map Fct.key = freshK s.br no.toNat ∧ fs.length ≤ 1000) := by
  have hbl := br_len s
  have hbp := hin.bls.ptr
  have hbr := hin.bls.row
  have hpp := hin.par.ptr
  have hpr := hin.par.row
  have hkp := hin.fks.ptr
  have hkr := hin.fks.row
  have hib : no.toNat < s.bls.length := by omega
  obtain ⟨v1, v2, v3, v4, v5⟩ := id hf
  have hip : no.toNat < s.par.length := by have : s.par.length = s.br.brs.length := v2; omega
  have hik : no.toNat < s.fks.length := by have : s.fks.length = s.br.brs.length := v3; omega
  obtain ⟨⟨g1, g2⟩, g3, g4⟩ := v5 no.toNat (by omega)
  obtain ⟨fk, hfk⟩ : ∃ fk : Nat, fkB s.br no.toNat = (fk : Int) := ⟨(fkB s.br no.toNat).toNat, by omega⟩
  have hLp : ∀ u, Ext [] w u → Ld Try.prog u 3 (s.A2.add (no.toNat * 1 + 0)) (.int .i64 (parB s.br no.toNat)) := fun u hu => by
    rw [parB_eq hip]; exact ld_field ic_len (hpr.ext0 hu) hip 0 rfl (by decide) rfl
  have hLk : ∀ u, Ext [] w u → Ld Try.prog u 3 (s.A3.add (no.toNat * 1 + 0)) (.int .i64 (fk : Int)) := fun u hu => by
    rw [← hfk, fkB_eq hik]; exact ld_field ic_len (hkr.ext0 hu) hik 0 rfl (by decide) rfl
  refine calls_of_Sx (args := [.agg (bvc s).toArray, .int .i64 no]) Try.func28 rfl rfl ?_
  by_cases hp0 : parB s.br no.toNat < 0
  · have hlb : lenB s.br (parB s.br no.toNat) = s.base.length := by unfold lenB; rw [if_pos hp0]; rfl
    have hfk2 : fk ≤ s.base.length := by omega
    have hfresh : freshK s.br no.toNat = (s.base.drop fk).map Fct.key := by unfold freshK; rw [if_pos hp0, hfk]; rfl
    have hfs := sl_drop fc_len hin.base hfk2
    have hdl : (s.base.drop fk).length = s.base.length - fk := List.length_drop
    have hble := hin.base.le
    have hsmb := hsm.base
    refine ztx ?_
    refine Ox.act rfl rfl (acts_box rfl rfl) ?_
    rintro vb2 wb2 ⟨eb2, bb2, rfl, hbb2, hBb2⟩
    first | (have hCb2 : Cells wb2 ⟨bb2, 0, none⟩ [_, _, _, _, _] := hBb2.cells) | have hCb2 := Blk.cellsL hBb2
    have hlb2 := hBb2.lt
    have hzb2 := eb2.size
    refine Ox.pure rfl rfl zas ?_
    refine Ox.fin ?_
    refine ztx ?_
    refine Ox.pure rfl rfl zfa ?_
    refine Ox.val rfl rfl zrs ?_
    refine Ox.pure rfl rfl zmv ?_
    refine Ox.pure rfl rfl (rp_indexAddr no.toNat rfl rfl rfl rfl rfl hpp (by omega) hip) ?_
    refine Ox.val rfl rfl (rv_load rfl rfl (fun u hu => hLp u zxc)) ?_
    refine Ox.pure rfl rfl zas ?_
    refine Ox.fin ?_
    refine ztx ?_
    refine Ox.pure rfl rfl zmv ?_
    refine Ox.pure rfl rfl zbc ?_
    refine Ox.fin ?_
    refine zct ?_
    (repeat refine Sx.seq ?_)
    refine Sx.walkR rfl (fun _ _ _ _ h => h) [0, 1, 2, 3, 4, 5, 6, 7, 8] [0, 1, 2, 3, 4, 5, 6, 7, 8] (0) (by kernel_rfl) ?_
    intro hq w1 e1; have hz1 := e1.size
    refine Wx.pure hq rfl rfl rfl rfl zfa ?_
    refine Wx.val hq rfl rfl rfl rfl ([]) zrs ?_
    refine Wx.pure hq rfl rfl rfl rfl zfa ?_
    refine Wx.val hq rfl rfl rfl rfl ([]) zrs ?_
    refine Wx.pure hq rfl rfl rfl rfl zmv ?_
    refine Wx.pure hq rfl rfl rfl rfl (rp_indexAddr no.toNat rfl rfl rfl rfl rfl hkp (by omega) hik) ?_
    refine Wx.val hq rfl rfl rfl rfl ([]) (rv_load rfl rfl (fun u hu => hLk u zxc)) ?_
    refine Wx.pure hq rfl rfl rfl rfl (rp_sliceS fk s.base.length rfl rfl rfl rfl rfl rfl (.inr ⟨_, rfl⟩) (.inl ⟨rfl, rfl⟩) hfk2 hble) ?_
    refine Wx.pure hq rfl rfl rfl rfl zas ?_
    refine Wx.fin ?_
    refine zrt ?_
    refine endE_ret [_] ⟨rfl, trivial⟩ ⟨zxc, s.base.drop fk, _, _, _, ?_, hfs.ext0 zxc, hfresh.symm, by omega⟩
    rw [hdl]; rfl
  · have hpn : (parB s.br no.toNat).toNat < s.bls.length := by omega
    obtain ⟨Af, hsf⟩ := hin.sub _ (List.getElem_mem hpn)
    have hpe := brB_eq (s := s) hpn
    have hLq : ∀ u, Ext [] w u → Ld Try.prog u 59 (s.A1.add ((parB s.br no.toNat).toNat * 1 + 0)) (.slice s.bls[(parB s.br no.toNat).toNat].p s.bls[(parB s.br no.toNat).toNat].l.length s.bls[(parB s.br no.toNat).toNat].c) := fun u hu => ld_field blc_len (hbr.ext0 hu) hpn 0 rfl (by decide) rfl
    have hlb : lenB s.br (parB s.br no.toNat) = s.bls[(parB s.br no.toNat).toNat].l.length := by unfold lenB; rw [if_neg hp0]; show (brB s.br _).length = _; rw [hpe]
    have hfk2 : fk ≤ s.bls[(parB s.br no.toNat).toNat].l.length := by omega
    have hfresh : freshK s.br no.toNat = (s.bls[(parB s.br no.toNat).toNat].l.drop fk).map Cr.key := by unfold freshK; rw [if_neg hp0, hfk, hpe]; rfl
    have hfs := sl_drop cc_len hsf hfk2
    have hdl : (s.bls[(parB s.br no.toNat).toNat].l.drop fk).length = s.bls[(parB s.br no.toNat).toNat].l.length - fk := List.length_drop
    have hble := hsf.le
    have hsmb := hsm.brs (parB s.br no.toNat).toNat
    rw [hpe] at hsmb
    have hK : ∀ u, Ext [] w u → Calls Try.prog 51 #[.slice (if s.bls[(parB s.br no.toNat).toNat].c = fk then s.bls[(parB s.br no.toNat).toNat].p else s.bls[(parB s.br no.toNat).toNat].p.map (·.add (fk * 6))) (s.bls[(parB s.br no.toNat).toNat].l.length - fk) (s.bls[(parB s.br no.toNat).toNat].c - fk)] u (Ret fun r w' => Ext [] u w' ∧ OwnF u.heap.size w' r ((s.bls[(parB s.br no.toNat).toNat].l.drop fk).map keyF)) := fun u hu => by
      have h9 := refKeys_at (s.bls[(parB s.br no.toNat).toNat].l.drop fk) _ _ _ u (hfs.ext0 hu) (by omega)
      rw [hdl] at h9
      exact h9
    refine ztx ?_
    refine Ox.act rfl rfl (acts_box rfl rfl) ?_
    rintro vb2 wb2 ⟨eb2, bb2, rfl, hbb2, hBb2⟩
    first | (have hCb2 : Cells wb2 ⟨bb2, 0, none⟩ [_, _, _, _, _] := hBb2.cells) | have hCb2 := Blk.cellsL hBb2
    have hlb2 := hBb2.lt
    have hzb2 := eb2.size
    refine Ox.pure rfl rfl zas ?_
    refine Ox.fin ?_
    refine ztx ?_
    refine Ox.pure rfl rfl zfa ?_
    refine Ox.val rfl rfl zrs ?_
    refine Ox.pure rfl rfl zmv ?_
    refine Ox.pure rfl rfl (rp_indexAddr no.toNat rfl rfl rfl rfl rfl hpp (by omega) hip) ?_
    refine Ox.val rfl rfl (rv_load rfl rfl (fun u hu => hLp u zxc)) ?_
    refine Ox.pure rfl rfl zas ?_
    refine Ox.fin ?_
    refine ztx ?_
    refine Ox.pure rfl rfl zmv ?_
    refine Ox.pure rfl rfl zbc ?_
    refine Ox.fin ?_
    refine zcf ?_
    refine zsk ?_
    (repeat refine Sx.seq ?_)
    refine Sx.walkR rfl (fun _ _ _ _ h => h) [0, 1, 2, 3, 4, 5, 6, 7, 8, 9, 10, 11, 12] [0, 1, 2, 3, 4, 5, 6, 7, 8, 9, 10, 12] (0) (by kernel_rfl) ?_
    intro hq w2 e2; have hz2 := e2.size
    refine Wx.pure hq rfl rfl rfl rfl zfa ?_
    refine Wx.val hq rfl rfl rfl rfl ([]) zrs ?_
    refine Wx.pure hq rfl rfl rfl rfl zmv ?_
    refine Wx.pure hq rfl rfl rfl rfl (rp_indexAddr (parB s.br no.toNat).toNat rfl rfl rfl rfl rfl hbp (by omega) hpn) ?_
    refine Wx.val hq rfl rfl rfl rfl ([]) (rv_load rfl rfl (fun u hu => hLq u zxc)) ?_
    refine Wx.pure hq rfl rfl rfl rfl zfa ?_
    refine Wx.val hq rfl rfl rfl rfl ([]) zrs ?_
    refine Wx.pure hq rfl rfl rfl rfl zmv ?_
    refine Wx.pure hq rfl rfl rfl rfl (rp_indexAddr no.toNat rfl rfl rfl rfl rfl hkp (by omega) hik) ?_
    refine Wx.val hq rfl rfl rfl rfl ([]) (rv_load rfl rfl (fun u hu => hLk u zxc)) ?_
    refine Wx.pure hq rfl rfl rfl rfl (rp_sliceS fk s.bls[(parB s.br no.toNat).toNat].l.length rfl rfl rfl rfl rfl rfl (.inr ⟨_, rfl⟩) (.inl ⟨rfl, rfl⟩) hfk2 hble) ?_
    refine Wx.actNew rfl rfl rfl rfl (acts_call rfl rfl rfl (hK _ zxc)) ?_
    rintro v3 w3 e3 hv4
    have hz3 := e3.size
    obtain ⟨p4, c4, A4, rfl, hs4, _⟩ := hv4.sl (by rw [List.length_map]; omega)
    refine Wx.pure hq rfl rfl rfl rfl zas ?_
    refine Wx.fin ?_
    refine zrt ?_
    refine endE_ret [_] ⟨rfl, trivial⟩ ⟨zxc, (s.bls[(parB s.br no.toNat).toNat].l.drop fk).map keyF, _, _, _, rfl, hs4.ext0 zxc, ?_, by rw [List.length_map]; omega⟩
    rw [hfresh, List.map_map]; rfl

end Go.Proofs.Ytfgckcochilpkaa
