/- The law BranchesAny: branches are merged in any order: for every branching, two numbers and a key, no condition. -/
import Derived.Test.YtfgckcochilpkaaRows
import Derived.Test.YtfgckcochilpkaaWBP8
set_option linter.unusedVariables false
set_option maxRecDepth 100000
set_option maxHeartbeats 4000000
set_option linter.unusedSimpArgs false
namespace Go.Proofs.Ytfgckcochilpkaa
open Go Go.Eng
theorem anyLaw (s : Bs) (i k : Int) (key : Ky) (W : World) (hin : BsIn s W) :
    Calls Try.prog 9 #[.agg (bvc s).toArray, .int .i64 i, .int .i64 k, .agg (kc key).toArray] W (Ret fun r w' => Ext [] W w' ∧ r = .bool true) := by
  have hbl := br_len s
  have hpf := hin.par.few
  have hpp := hin.par.ptr
  have hpr := hin.par.row
  have hLp : ∀ u, Ext [] W u → ∀ j : Nat, j < s.par.length → Ld Try.prog u 3 (s.A2.add (j * 1 + 0)) (.int .i64 (parB s.br j)) := fun u hu j h => by
    rw [parB_eq h]; exact ld_field ic_len (hpr.ext0 hu) h 0 rfl (by decide) rfl
  refine calls_of_Sx (args := [.agg (bvc s).toArray, .int .i64 i, .int .i64 k, .agg (kc key).toArray]) Try.func9 rfl rfl ?_
  by_cases hg : FewB s.br ∧ 0 ≤ i ∧ 0 ≤ k ∧ i < (s.par.length : Int) ∧ k < (s.par.length : Int); rotate_left
  · 
    refine ztx ?_
    refine Ox.act rfl rfl (acts_box rfl rfl) ?_
    rintro vb4 wb4 ⟨eb4, bb4, rfl, hbb4, hBb4⟩
    first | (have hCb4 : Cells wb4 ⟨bb4, 0, none⟩ [_, _, _, _, _] := hBb4.cells) | have hCb4 := Blk.cellsL hBb4
    have hlb4 := hBb4.lt
    have hzb4 := eb4.size
    refine Ox.act rfl rfl (acts_box rfl rfl) ?_
    rintro vb7 wb7 ⟨eb7, bb7, rfl, hbb7, hBb7⟩
    first | (have hCb7 : Cells wb7 ⟨bb7, 0, none⟩ [_, _, _] := hBb7.cells) | have hCb7 := Blk.cellsL hBb7
    have hlb7 := hBb7.lt
    have hzb7 := eb7.size
    refine Ox.pure rfl rfl zas ?_
    refine Ox.fin ?_
    refine ztx ?_
    refine Ox.act rfl rfl (acts_call rfl rfl rfl (saneB_at _)) ?_
    rintro v1 w1 ⟨e1, rfl⟩
    have hz1 := e1.size
    refine Ox.pure rfl rfl (rp_not rfl rfl) ?_
    refine Ox.fin ?_
    refine zcf ?_
    refine zsk ?_
    (repeat refine Sx.seq ?_)
    refine Sx.walkR rfl (fun _ _ _ _ h => h) [0, 1, 2, 3, 4, 5, 6, 7, 8, 9, 10, 11, 12, 13, 14, 15, 16, 17, 18, 19, 20, 21, 22, 23, 24, 25, 26, 27, 28, 29, 30, 31, 32, 33, 34, 35, 36, 37] [0, 2, 3, 4, 5, 6, 7, 8, 9, 10, 11, 12, 13, 14, 15, 16, 17, 18, 19, 20, 21, 22, 23, 24, 25, 26, 27, 28, 29, 30, 31, 32, 33, 34, 35, 36, 37] (0) (by kernel_rfl) ?_
    intro hq w2 e2; have hz2 := e2.size
    refine Wx.val hq rfl rfl rfl rfl ([]) zra ?_
    by_cases hs3 : FewB s.br; rotate_left
    · refine Wx.actNew rfl rfl rfl rfl (acts_call rfl rfl rfl (ref_FewB s _ (hin.ext0 zxc))) ?_
      rintro v4 w4 e4 rfl
      have hz4 := e4.size
      first | rw [decide_eq_true (show FewB s.br by assumption)] | rw [decide_eq_false (show ¬ FewB s.br by assumption)]
      refine Wx.pure hq rfl rfl rfl rfl (rp_not rfl rfl) ?_
      refine Wx.pure hq rfl rfl rfl rfl zmv ?_
      refine Wx.skip hq rfl rfl rfl rfl ?_
      refine Wx.skip hq rfl rfl rfl rfl ?_
      refine Wx.pure hq rfl rfl rfl rfl zpk ?_
      refine Wx.pure hq rfl rfl rfl rfl zmv ?_
      refine Wx.skip hq rfl rfl rfl rfl ?_
      refine Wx.skip hq rfl rfl rfl rfl ?_
      refine Wx.pure hq rfl rfl rfl rfl zpk ?_
      refine Wx.pure hq rfl rfl rfl rfl zmv ?_
      refine Wx.skip hq rfl rfl rfl rfl ?_
      refine Wx.skip hq rfl rfl rfl rfl ?_
      refine Wx.skip hq rfl rfl rfl rfl ?_
      refine Wx.skip hq rfl rfl rfl rfl ?_
      refine Wx.skip hq rfl rfl rfl rfl ?_
      refine Wx.pure hq rfl rfl rfl rfl zpk ?_
      refine Wx.pure hq rfl rfl rfl rfl zmv ?_
      refine Wx.skip hq rfl rfl rfl rfl ?_
      refine Wx.skip hq rfl rfl rfl rfl ?_
      refine Wx.skip hq rfl rfl rfl rfl ?_
      refine Wx.skip hq rfl rfl rfl rfl ?_
      refine Wx.skip hq rfl rfl rfl rfl ?_
      refine Wx.pure hq rfl rfl rfl rfl zpk ?_
      refine Wx.pure hq rfl rfl rfl rfl zmv ?_
      refine Wx.skip hq rfl rfl rfl rfl ?_
      refine Wx.skip hq rfl rfl rfl rfl ?_
      refine Wx.skip hq rfl rfl rfl rfl ?_
      refine Wx.skip hq rfl rfl rfl rfl ?_
      refine Wx.skip hq rfl rfl rfl rfl ?_
      refine Wx.skip hq rfl rfl rfl rfl ?_
      refine Wx.skip hq rfl rfl rfl rfl ?_
      refine Wx.skip hq rfl rfl rfl rfl ?_
      refine Wx.skip hq rfl rfl rfl rfl ?_
      refine Wx.skip hq rfl rfl rfl rfl ?_
      refine Wx.skip hq rfl rfl rfl rfl ?_
      refine Wx.pure hq rfl rfl rfl rfl zpk ?_
      refine Wx.fin ?_
      refine zct ?_
      refine ztx ?_
      refine Ox.pure rfl rfl zas ?_
      refine Ox.fin ?_
      refine zrt ?_
      exact endE_ret [_] ⟨rfl, trivial⟩ ⟨zxc, rfl⟩
    refine Wx.actNew rfl rfl rfl rfl (acts_call rfl rfl rfl (ref_FewB s _ (hin.ext0 zxc))) ?_
    rintro v5 w5 e5 rfl
    have hz5 := e5.size
    first | rw [decide_eq_true (show FewB s.br by assumption)] | rw [decide_eq_false (show ¬ FewB s.br by assumption)]
    refine Wx.pure hq rfl rfl rfl rfl (rp_not rfl rfl) ?_
    refine Wx.pure hq rfl rfl rfl rfl zmv ?_
    refine Wx.pure hq rfl rfl rfl rfl zmv ?_
    by_cases hs6 : 0 ≤ i; rotate_left
    · refine Wx.pure hq rfl rfl rfl rfl zbc ?_
      refine Wx.pure hq rfl rfl rfl rfl zpk ?_
      refine Wx.pure hq rfl rfl rfl rfl zmv ?_
      refine Wx.skip hq rfl rfl rfl rfl ?_
      refine Wx.skip hq rfl rfl rfl rfl ?_
      refine Wx.pure hq rfl rfl rfl rfl zpk ?_
      refine Wx.pure hq rfl rfl rfl rfl zmv ?_
      refine Wx.skip hq rfl rfl rfl rfl ?_
      refine Wx.skip hq rfl rfl rfl rfl ?_
      refine Wx.skip hq rfl rfl rfl rfl ?_
      refine Wx.skip hq rfl rfl rfl rfl ?_
      refine Wx.skip hq rfl rfl rfl rfl ?_
      refine Wx.pure hq rfl rfl rfl rfl zpk ?_
      refine Wx.pure hq rfl rfl rfl rfl zmv ?_
      refine Wx.skip hq rfl rfl rfl rfl ?_
      refine Wx.skip hq rfl rfl rfl rfl ?_
      refine Wx.skip hq rfl rfl rfl rfl ?_
      refine Wx.skip hq rfl rfl rfl rfl ?_
      refine Wx.skip hq rfl rfl rfl rfl ?_
      refine Wx.pure hq rfl rfl rfl rfl zpk ?_
      refine Wx.pure hq rfl rfl rfl rfl zmv ?_
      refine Wx.skip hq rfl rfl rfl rfl ?_
      refine Wx.skip hq rfl rfl rfl rfl ?_
      refine Wx.skip hq rfl rfl rfl rfl ?_
      refine Wx.skip hq rfl rfl rfl rfl ?_
      refine Wx.skip hq rfl rfl rfl rfl ?_
      refine Wx.skip hq rfl rfl rfl rfl ?_
      refine Wx.skip hq rfl rfl rfl rfl ?_
      refine Wx.skip hq rfl rfl rfl rfl ?_
      refine Wx.skip hq rfl rfl rfl rfl ?_
      refine Wx.skip hq rfl rfl rfl rfl ?_
      refine Wx.skip hq rfl rfl rfl rfl ?_
      refine Wx.pure hq rfl rfl rfl rfl zpk ?_
      refine Wx.fin ?_
      refine zct ?_
      refine ztx ?_
      refine Ox.pure rfl rfl zas ?_
      refine Ox.fin ?_
      refine zrt ?_
      exact endE_ret [_] ⟨rfl, trivial⟩ ⟨zxc, rfl⟩
    refine Wx.pure hq rfl rfl rfl rfl zbc ?_
    refine Wx.pure hq rfl rfl rfl rfl zpk ?_
    refine Wx.pure hq rfl rfl rfl rfl zmv ?_
    refine Wx.pure hq rfl rfl rfl rfl zmv ?_
    by_cases hs7 : 0 ≤ k; rotate_left
    · refine Wx.pure hq rfl rfl rfl rfl zbc ?_
      refine Wx.pure hq rfl rfl rfl rfl zpk ?_
      refine Wx.pure hq rfl rfl rfl rfl zmv ?_
      refine Wx.skip hq rfl rfl rfl rfl ?_
      refine Wx.skip hq rfl rfl rfl rfl ?_
      refine Wx.skip hq rfl rfl rfl rfl ?_
      refine Wx.skip hq rfl rfl rfl rfl ?_
      refine Wx.skip hq rfl rfl rfl rfl ?_
      refine Wx.pure hq rfl rfl rfl rfl zpk ?_
      refine Wx.pure hq rfl rfl rfl rfl zmv ?_
      refine Wx.skip hq rfl rfl rfl rfl ?_
      refine Wx.skip hq rfl rfl rfl rfl ?_
      refine Wx.skip hq rfl rfl rfl rfl ?_
      refine Wx.skip hq rfl rfl rfl rfl ?_
      refine Wx.skip hq rfl rfl rfl rfl ?_
      refine Wx.pure hq rfl rfl rfl rfl zpk ?_
      refine Wx.pure hq rfl rfl rfl rfl zmv ?_
      refine Wx.skip hq rfl rfl rfl rfl ?_
      refine Wx.skip hq rfl rfl rfl rfl ?_
      refine Wx.skip hq rfl rfl rfl rfl ?_
      refine Wx.skip hq rfl rfl rfl rfl ?_
      refine Wx.skip hq rfl rfl rfl rfl ?_
      refine Wx.skip hq rfl rfl rfl rfl ?_
      refine Wx.skip hq rfl rfl rfl rfl ?_
      refine Wx.skip hq rfl rfl rfl rfl ?_
      refine Wx.skip hq rfl rfl rfl rfl ?_
      refine Wx.skip hq rfl rfl rfl rfl ?_
      refine Wx.skip hq rfl rfl rfl rfl ?_
      refine Wx.pure hq rfl rfl rfl rfl zpk ?_
      refine Wx.fin ?_
      refine zct ?_
      refine ztx ?_
      refine Ox.pure rfl rfl zas ?_
      refine Ox.fin ?_
      refine zrt ?_
      exact endE_ret [_] ⟨rfl, trivial⟩ ⟨zxc, rfl⟩
    refine Wx.pure hq rfl rfl rfl rfl zbc ?_
    refine Wx.pure hq rfl rfl rfl rfl zpk ?_
    refine Wx.pure hq rfl rfl rfl rfl zmv ?_
    refine Wx.pure hq rfl rfl rfl rfl zmv ?_
    refine Wx.pure hq rfl rfl rfl rfl zfa ?_
    refine Wx.val hq rfl rfl rfl rfl ([]) zrs ?_
    refine Wx.pure hq rfl rfl rfl rfl (rp_lenS rfl rfl rfl) ?_
    by_cases hs8 : i < (s.par.length : Int); rotate_left
    · refine Wx.pure hq rfl rfl rfl rfl zbc ?_
      refine Wx.pure hq rfl rfl rfl rfl zpk ?_
      refine Wx.pure hq rfl rfl rfl rfl zmv ?_
      refine Wx.skip hq rfl rfl rfl rfl ?_
      refine Wx.skip hq rfl rfl rfl rfl ?_
      refine Wx.skip hq rfl rfl rfl rfl ?_
      refine Wx.skip hq rfl rfl rfl rfl ?_
      refine Wx.skip hq rfl rfl rfl rfl ?_
      refine Wx.pure hq rfl rfl rfl rfl zpk ?_
      refine Wx.pure hq rfl rfl rfl rfl zmv ?_
      refine Wx.skip hq rfl rfl rfl rfl ?_
      refine Wx.skip hq rfl rfl rfl rfl ?_
      refine Wx.skip hq rfl rfl rfl rfl ?_
      refine Wx.skip hq rfl rfl rfl rfl ?_
      refine Wx.skip hq rfl rfl rfl rfl ?_
      refine Wx.skip hq rfl rfl rfl rfl ?_
      refine Wx.skip hq rfl rfl rfl rfl ?_
      refine Wx.skip hq rfl rfl rfl rfl ?_
      refine Wx.skip hq rfl rfl rfl rfl ?_
      refine Wx.skip hq rfl rfl rfl rfl ?_
      refine Wx.skip hq rfl rfl rfl rfl ?_
      refine Wx.pure hq rfl rfl rfl rfl zpk ?_
      refine Wx.fin ?_
      refine zct ?_
      refine ztx ?_
      refine Ox.pure rfl rfl zas ?_
      refine Ox.fin ?_
      refine zrt ?_
      exact endE_ret [_] ⟨rfl, trivial⟩ ⟨zxc, rfl⟩
    refine Wx.pure hq rfl rfl rfl rfl zbc ?_
    refine Wx.pure hq rfl rfl rfl rfl zpk ?_
    refine Wx.pure hq rfl rfl rfl rfl zmv ?_
    refine Wx.pure hq rfl rfl rfl rfl zmv ?_
    refine Wx.pure hq rfl rfl rfl rfl zfa ?_
    refine Wx.val hq rfl rfl rfl rfl ([]) zrs ?_
    refine Wx.pure hq rfl rfl rfl rfl (rp_lenS rfl rfl rfl) ?_
    by_cases hs9 : k < (s.par.length : Int); rotate_left
    · refine Wx.pure hq rfl rfl rfl rfl zbc ?_
      refine Wx.pure hq rfl rfl rfl rfl zpk ?_
      refine Wx.pure hq rfl rfl rfl rfl zmv ?_
      refine Wx.skip hq rfl rfl rfl rfl ?_
      refine Wx.skip hq rfl rfl rfl rfl ?_
      refine Wx.skip hq rfl rfl rfl rfl ?_
      refine Wx.skip hq rfl rfl rfl rfl ?_
      refine Wx.skip hq rfl rfl rfl rfl ?_
      refine Wx.skip hq rfl rfl rfl rfl ?_
      refine Wx.skip hq rfl rfl rfl rfl ?_
      refine Wx.skip hq rfl rfl rfl rfl ?_
      refine Wx.skip hq rfl rfl rfl rfl ?_
      refine Wx.skip hq rfl rfl rfl rfl ?_
      refine Wx.skip hq rfl rfl rfl rfl ?_
      refine Wx.pure hq rfl rfl rfl rfl zpk ?_
      refine Wx.fin ?_
      refine zct ?_
      refine ztx ?_
      refine Ox.pure rfl rfl zas ?_
      refine Ox.fin ?_
      refine zrt ?_
      exact endE_ret [_] ⟨rfl, trivial⟩ ⟨zxc, rfl⟩
    refine Wx.pure hq rfl rfl rfl rfl zbc ?_
    exact absurd ⟨by assumption, by assumption, by assumption, by assumption, by assumption⟩ hg
  obtain ⟨hfew, hi0, hk0, hip, hkp⟩ := id hg
  by_cases hpar : parB s.br i.toNat = parB s.br k.toNat; rotate_left
  · refine ztx ?_
    refine Ox.act rfl rfl (acts_box rfl rfl) ?_
    rintro vb4 wb4 ⟨eb4, bb4, rfl, hbb4, hBb4⟩
    first | (have hCb4 : Cells wb4 ⟨bb4, 0, none⟩ [_, _, _, _, _] := hBb4.cells) | have hCb4 := Blk.cellsL hBb4
    have hlb4 := hBb4.lt
    have hzb4 := eb4.size
    refine Ox.act rfl rfl (acts_box rfl rfl) ?_
    rintro vb7 wb7 ⟨eb7, bb7, rfl, hbb7, hBb7⟩
    first | (have hCb7 : Cells wb7 ⟨bb7, 0, none⟩ [_, _, _] := hBb7.cells) | have hCb7 := Blk.cellsL hBb7
    have hlb7 := hBb7.lt
    have hzb7 := eb7.size
    refine Ox.pure rfl rfl zas ?_
    refine Ox.fin ?_
    refine ztx ?_
    refine Ox.act rfl rfl (acts_call rfl rfl rfl (saneB_at _)) ?_
    rintro v10 w10 ⟨e10, rfl⟩
    have hz10 := e10.size
    refine Ox.pure rfl rfl (rp_not rfl rfl) ?_
    refine Ox.fin ?_
    refine zcf ?_
    refine zsk ?_
    (repeat refine Sx.seq ?_)
    refine Sx.walkR rfl (fun _ _ _ _ h => h) [0, 1, 2, 3, 4, 5, 6, 7, 8, 9, 10, 11, 12, 13, 14, 15, 16, 17, 18, 19, 20, 21, 22, 23, 24, 25, 26, 27, 28, 29, 30, 31, 32, 33, 34, 35, 36, 37] [0, 2, 3, 4, 5, 6, 7, 8, 9, 10, 11, 12, 13, 14, 15, 16, 17, 18, 19, 20, 21, 22, 23, 24, 25, 26, 27, 28, 29, 30, 31, 32, 33, 34, 35, 36, 37] (0) (by kernel_rfl) ?_
    intro hq w11 e11; have hz11 := e11.size
    refine Wx.val hq rfl rfl rfl rfl ([]) zra ?_
    refine Wx.actNew rfl rfl rfl rfl (acts_call rfl rfl rfl (ref_FewB s _ (hin.ext0 zxc))) ?_
    rintro v12 w12 e12 rfl
    have hz12 := e12.size
    rw [decide_eq_true hfew]
    refine Wx.pure hq rfl rfl rfl rfl (rp_not rfl rfl) ?_
    refine Wx.pure hq rfl rfl rfl rfl zmv ?_
    first | (refine Wx.skip hq rfl rfl rfl rfl ?_) | (refine Wx.pure hq rfl rfl rfl rfl zmv ?_)
    first | (refine Wx.skip hq rfl rfl rfl rfl ?_) | (refine Wx.pure hq rfl rfl rfl rfl zbc ?_)
    refine Wx.pure hq rfl rfl rfl rfl zpk ?_
    refine Wx.pure hq rfl rfl rfl rfl zmv ?_
    first | (refine Wx.skip hq rfl rfl rfl rfl ?_) | (refine Wx.pure hq rfl rfl rfl rfl zmv ?_)
    first | (refine Wx.skip hq rfl rfl rfl rfl ?_) | (refine Wx.pure hq rfl rfl rfl rfl zbc ?_)
    refine Wx.pure hq rfl rfl rfl rfl zpk ?_
    refine Wx.pure hq rfl rfl rfl rfl zmv ?_
    first | (refine Wx.skip hq rfl rfl rfl rfl ?_) | (refine Wx.pure hq rfl rfl rfl rfl zmv ?_)
    first | (refine Wx.skip hq rfl rfl rfl rfl ?_) | (refine Wx.pure hq rfl rfl rfl rfl zfa ?_)
    first | (refine Wx.skip hq rfl rfl rfl rfl ?_) | (refine Wx.val hq rfl rfl rfl rfl ([]) zrs ?_)
    first | (refine Wx.skip hq rfl rfl rfl rfl ?_) | (refine Wx.pure hq rfl rfl rfl rfl (rp_lenS rfl rfl rfl) ?_)
    first | (refine Wx.skip hq rfl rfl rfl rfl ?_) | (refine Wx.pure hq rfl rfl rfl rfl zbc ?_)
    refine Wx.pure hq rfl rfl rfl rfl zpk ?_
    refine Wx.pure hq rfl rfl rfl rfl zmv ?_
    first | (refine Wx.skip hq rfl rfl rfl rfl ?_) | (refine Wx.pure hq rfl rfl rfl rfl zmv ?_)
    first | (refine Wx.skip hq rfl rfl rfl rfl ?_) | (refine Wx.pure hq rfl rfl rfl rfl zfa ?_)
    first | (refine Wx.skip hq rfl rfl rfl rfl ?_) | (refine Wx.val hq rfl rfl rfl rfl ([]) zrs ?_)
    first | (refine Wx.skip hq rfl rfl rfl rfl ?_) | (refine Wx.pure hq rfl rfl rfl rfl (rp_lenS rfl rfl rfl) ?_)
    first | (refine Wx.skip hq rfl rfl rfl rfl ?_) | (refine Wx.pure hq rfl rfl rfl rfl zbc ?_)
    refine Wx.pure hq rfl rfl rfl rfl zpk ?_
    refine Wx.pure hq rfl rfl rfl rfl zmv ?_
    first | (refine Wx.skip hq rfl rfl rfl rfl ?_) | (refine Wx.pure hq rfl rfl rfl rfl zfa ?_)
    first | (refine Wx.skip hq rfl rfl rfl rfl ?_) | (refine Wx.val hq rfl rfl rfl rfl ([]) zrs ?_)
    first | (refine Wx.skip hq rfl rfl rfl rfl ?_) | (refine Wx.pure hq rfl rfl rfl rfl zmv ?_)
    first | (refine Wx.skip hq rfl rfl rfl rfl ?_) | (refine Wx.pure hq rfl rfl rfl rfl (rp_indexAddr i.toNat rfl rfl rfl rfl rfl hpp (by omega) (by omega)) ?_)
    first | (refine Wx.skip hq rfl rfl rfl rfl ?_) | (refine Wx.val hq rfl rfl rfl rfl ([]) (rv_load rfl rfl (fun u hu => hLp u zxc i.toNat (by omega))) ?_)
    first | (refine Wx.skip hq rfl rfl rfl rfl ?_) | (refine Wx.pure hq rfl rfl rfl rfl zfa ?_)
    first | (refine Wx.skip hq rfl rfl rfl rfl ?_) | (refine Wx.val hq rfl rfl rfl rfl ([]) zrs ?_)
    first | (refine Wx.skip hq rfl rfl rfl rfl ?_) | (refine Wx.pure hq rfl rfl rfl rfl zmv ?_)
    first | (refine Wx.skip hq rfl rfl rfl rfl ?_) | (refine Wx.pure hq rfl rfl rfl rfl (rp_indexAddr k.toNat rfl rfl rfl rfl rfl hpp (by omega) (by omega)) ?_)
    first | (refine Wx.skip hq rfl rfl rfl rfl ?_) | (refine Wx.val hq rfl rfl rfl rfl ([]) (rv_load rfl rfl (fun u hu => hLp u zxc k.toNat (by omega))) ?_)
    first | (refine Wx.skip hq rfl rfl rfl rfl ?_) | (refine Wx.pure hq rfl rfl rfl rfl zbc ?_)
    refine Wx.pure hq rfl rfl rfl rfl zpk ?_
    refine Wx.fin ?_
    refine zct ?_
    refine ztx ?_
    refine Ox.pure rfl rfl zas ?_
    refine Ox.fin ?_
    refine zrt ?_
    exact endE_ret [_] ⟨rfl, trivial⟩ ⟨zxc, rfl⟩
  obtain ⟨hm, hw⟩ := small_of rfl (few_small hfew)
  by_cases h1 : (mergeB s.br i).2.2 = 0; rotate_left
  · refine ztx ?_
    refine Ox.act rfl rfl (acts_box rfl rfl) ?_
    rintro vb4 wb4 ⟨eb4, bb4, rfl, hbb4, hBb4⟩
    first | (have hCb4 : Cells wb4 ⟨bb4, 0, none⟩ [_, _, _, _, _] := hBb4.cells) | have hCb4 := Blk.cellsL hBb4
    have hlb4 := hBb4.lt
    have hzb4 := eb4.size
    refine Ox.act rfl rfl (acts_box rfl rfl) ?_
    rintro vb7 wb7 ⟨eb7, bb7, rfl, hbb7, hBb7⟩
    first | (have hCb7 : Cells wb7 ⟨bb7, 0, none⟩ [_, _, _] := hBb7.cells) | have hCb7 := Blk.cellsL hBb7
    have hlb7 := hBb7.lt
    have hzb7 := eb7.size
    refine Ox.pure rfl rfl zas ?_
    refine Ox.fin ?_
    refine ztx ?_
    refine Ox.act rfl rfl (acts_call rfl rfl rfl (saneB_at _)) ?_
    rintro v13 w13 ⟨e13, rfl⟩
    have hz13 := e13.size
    refine Ox.pure rfl rfl (rp_not rfl rfl) ?_
    refine Ox.fin ?_
    refine zcf ?_
    refine zsk ?_
    (repeat refine Sx.seq ?_)
    refine Sx.walkR rfl (fun _ _ _ _ h => h) [0, 1, 2, 3, 4, 5, 6, 7, 8, 9, 10, 11, 12, 13, 14, 15, 16, 17, 18, 19, 20, 21, 22, 23, 24, 25, 26, 27, 28, 29, 30, 31, 32, 33, 34, 35, 36, 37] [0, 2, 3, 4, 5, 6, 7, 8, 9, 10, 11, 12, 13, 14, 15, 16, 17, 18, 19, 20, 21, 22, 23, 24, 25, 26, 27, 28, 29, 30, 31, 32, 33, 34, 35, 36, 37] (0) (by kernel_rfl) ?_
    intro hq w14 e14; have hz14 := e14.size
    refine Wx.val hq rfl rfl rfl rfl ([]) zra ?_
    refine Wx.actNew rfl rfl rfl rfl (acts_call rfl rfl rfl (ref_FewB s _ (hin.ext0 zxc))) ?_
    rintro v15 w15 e15 rfl
    have hz15 := e15.size
    rw [decide_eq_true hfew]
    refine Wx.pure hq rfl rfl rfl rfl (rp_not rfl rfl) ?_
    refine Wx.pure hq rfl rfl rfl rfl zmv ?_
    first | (refine Wx.skip hq rfl rfl rfl rfl ?_) | (refine Wx.pure hq rfl rfl rfl rfl zmv ?_)
    first | (refine Wx.skip hq rfl rfl rfl rfl ?_) | (refine Wx.pure hq rfl rfl rfl rfl zbc ?_)
    refine Wx.pure hq rfl rfl rfl rfl zpk ?_
    refine Wx.pure hq rfl rfl rfl rfl zmv ?_
    first | (refine Wx.skip hq rfl rfl rfl rfl ?_) | (refine Wx.pure hq rfl rfl rfl rfl zmv ?_)
    first | (refine Wx.skip hq rfl rfl rfl rfl ?_) | (refine Wx.pure hq rfl rfl rfl rfl zbc ?_)
    refine Wx.pure hq rfl rfl rfl rfl zpk ?_
    refine Wx.pure hq rfl rfl rfl rfl zmv ?_
    first | (refine Wx.skip hq rfl rfl rfl rfl ?_) | (refine Wx.pure hq rfl rfl rfl rfl zmv ?_)
    first | (refine Wx.skip hq rfl rfl rfl rfl ?_) | (refine Wx.pure hq rfl rfl rfl rfl zfa ?_)
    first | (refine Wx.skip hq rfl rfl rfl rfl ?_) | (refine Wx.val hq rfl rfl rfl rfl ([]) zrs ?_)
    first | (refine Wx.skip hq rfl rfl rfl rfl ?_) | (refine Wx.pure hq rfl rfl rfl rfl (rp_lenS rfl rfl rfl) ?_)
    first | (refine Wx.skip hq rfl rfl rfl rfl ?_) | (refine Wx.pure hq rfl rfl rfl rfl zbc ?_)
    refine Wx.pure hq rfl rfl rfl rfl zpk ?_
    refine Wx.pure hq rfl rfl rfl rfl zmv ?_
    first | (refine Wx.skip hq rfl rfl rfl rfl ?_) | (refine Wx.pure hq rfl rfl rfl rfl zmv ?_)
    first | (refine Wx.skip hq rfl rfl rfl rfl ?_) | (refine Wx.pure hq rfl rfl rfl rfl zfa ?_)
    first | (refine Wx.skip hq rfl rfl rfl rfl ?_) | (refine Wx.val hq rfl rfl rfl rfl ([]) zrs ?_)
    first | (refine Wx.skip hq rfl rfl rfl rfl ?_) | (refine Wx.pure hq rfl rfl rfl rfl (rp_lenS rfl rfl rfl) ?_)
    first | (refine Wx.skip hq rfl rfl rfl rfl ?_) | (refine Wx.pure hq rfl rfl rfl rfl zbc ?_)
    refine Wx.pure hq rfl rfl rfl rfl zpk ?_
    refine Wx.pure hq rfl rfl rfl rfl zmv ?_
    first | (refine Wx.skip hq rfl rfl rfl rfl ?_) | (refine Wx.pure hq rfl rfl rfl rfl zfa ?_)
    first | (refine Wx.skip hq rfl rfl rfl rfl ?_) | (refine Wx.val hq rfl rfl rfl rfl ([]) zrs ?_)
    first | (refine Wx.skip hq rfl rfl rfl rfl ?_) | (refine Wx.pure hq rfl rfl rfl rfl zmv ?_)
    first | (refine Wx.skip hq rfl rfl rfl rfl ?_) | (refine Wx.pure hq rfl rfl rfl rfl (rp_indexAddr i.toNat rfl rfl rfl rfl rfl hpp (by omega) (by omega)) ?_)
    first | (refine Wx.skip hq rfl rfl rfl rfl ?_) | (refine Wx.val hq rfl rfl rfl rfl ([]) (rv_load rfl rfl (fun u hu => hLp u zxc i.toNat (by omega))) ?_)
    first | (refine Wx.skip hq rfl rfl rfl rfl ?_) | (refine Wx.pure hq rfl rfl rfl rfl zfa ?_)
    first | (refine Wx.skip hq rfl rfl rfl rfl ?_) | (refine Wx.val hq rfl rfl rfl rfl ([]) zrs ?_)
    first | (refine Wx.skip hq rfl rfl rfl rfl ?_) | (refine Wx.pure hq rfl rfl rfl rfl zmv ?_)
    first | (refine Wx.skip hq rfl rfl rfl rfl ?_) | (refine Wx.pure hq rfl rfl rfl rfl (rp_indexAddr k.toNat rfl rfl rfl rfl rfl hpp (by omega) (by omega)) ?_)
    first | (refine Wx.skip hq rfl rfl rfl rfl ?_) | (refine Wx.val hq rfl rfl rfl rfl ([]) (rv_load rfl rfl (fun u hu => hLp u zxc k.toNat (by omega))) ?_)
    first | (refine Wx.skip hq rfl rfl rfl rfl ?_) | (refine Wx.pure hq rfl rfl rfl rfl zbc ?_)
    refine Wx.pure hq rfl rfl rfl rfl zpk ?_
    refine Wx.fin ?_
    refine zcf ?_
    refine zsk ?_
    refine ztx ?_
    refine Ox.val rfl rfl zra ?_
    refine Ox.pure rfl rfl zmv ?_
    refine Ox.act rfl rfl (acts_call rfl rfl rfl (merge_br s hm hw i _ (hin.ext0 zxc))) ?_
    rintro vu5 wu5 ⟨eu5, v5, p5, A5, c5, rfl, ⟨s5, rfl, hi5, hb5, hz5⟩, hk5⟩
    have hzu5 := eu5.size
    refine Ox.pure rfl rfl zmv ?_
    refine Ox.pure rfl rfl (rp_extract rfl rfl rfl) ?_
    refine Ox.pure rfl rfl (rp_extract rfl rfl rfl) ?_
    refine Ox.pure rfl rfl (rp_extract rfl rfl rfl) ?_
    refine Ox.act rfl rfl (acts_alloc rfl rfl) ?_
    rintro va5 wa5 ⟨ea5, ba5, rfl, hba5, hBa5⟩
    first | (have hCa5 : Cells wa5 ⟨ba5, 0, none⟩ [_, _, _, _, _] := hBa5.cells) | have hCa5 := Blk.cellsL hBa5
    have hla5 := hBa5.lt
    have hza5 := ea5.size
    refine Ox.act rfl rfl (acts_store_all rfl rfl rfl hBa5 rfl (by first | rfl | assumption) (by first | rfl | assumption) (by (first | assumption | exact List.all_eq_true.mp rfl | simp [Value.cells, Value.oneCell']))) ?_
    rintro vc5 wc5 ⟨rfl, qc5, hBc5⟩
    have ec5 := Ext.renew ea5 qc5 hba5
    have hzc5 := ec5.size
    have hlc5 := hBc5.lt
    first | (have hCc5 : Cells wc5 ⟨ba5, 0, none⟩ [_, _, _, _, _] := hBc5.cells) | have hCc5 := Blk.cellsL hBc5
    refine Ox.pure rfl rfl zas ?_
    refine Ox.pure rfl rfl zas ?_
    refine Ox.fin ?_
    refine ztx ?_
    refine Ox.pure rfl rfl zmv ?_
    refine Ox.pure rfl rfl zbc ?_
    refine Ox.fin ?_
    refine zct ?_
    refine ztx ?_
    refine Ox.pure rfl rfl zas ?_
    refine Ox.fin ?_
    refine zrt ?_
    exact endE_ret [_] ⟨rfl, trivial⟩ ⟨zxc, rfl⟩
  have hv1 : ValidB (mergeB s.br i).1 := by obtain ⟨a1, a2, a3, a4, a5, a6⟩ := mergeB_ok h1; rw [a6]; exact (mergedB_keep a1 a2 a5).1
  have hbd1 := bd_merge (few_bd hfew) h1
  refine ztx ?_
  refine Ox.act rfl rfl (acts_box rfl rfl) ?_
  rintro vb4 wb4 ⟨eb4, bb4, rfl, hbb4, hBb4⟩
  first | (have hCb4 : Cells wb4 ⟨bb4, 0, none⟩ [_, _, _, _, _] := hBb4.cells) | have hCb4 := Blk.cellsL hBb4
  have hlb4 := hBb4.lt
  have hzb4 := eb4.size
  refine Ox.act rfl rfl (acts_box rfl rfl) ?_
  rintro vb7 wb7 ⟨eb7, bb7, rfl, hbb7, hBb7⟩
  first | (have hCb7 : Cells wb7 ⟨bb7, 0, none⟩ [_, _, _] := hBb7.cells) | have hCb7 := Blk.cellsL hBb7
  have hlb7 := hBb7.lt
  have hzb7 := eb7.size
  refine Ox.pure rfl rfl zas ?_
  refine Ox.fin ?_
  refine ztx ?_
  refine Ox.act rfl rfl (acts_call rfl rfl rfl (saneB_at _)) ?_
  rintro v16 w16 ⟨e16, rfl⟩
  have hz16 := e16.size
  refine Ox.pure rfl rfl (rp_not rfl rfl) ?_
  refine Ox.fin ?_
  refine zcf ?_
  refine zsk ?_
  (repeat refine Sx.seq ?_)
  refine Sx.walkR rfl (fun _ _ _ _ h => h) [0, 1, 2, 3, 4, 5, 6, 7, 8, 9, 10, 11, 12, 13, 14, 15, 16, 17, 18, 19, 20, 21, 22, 23, 24, 25, 26, 27, 28, 29, 30, 31, 32, 33, 34, 35, 36, 37] [0, 2, 3, 4, 5, 6, 7, 8, 9, 10, 11, 12, 13, 14, 15, 16, 17, 18, 19, 20, 21, 22, 23, 24, 25, 26, 27, 28, 29, 30, 31, 32, 33, 34, 35, 36, 37] (0) (by kernel_rfl) ?_
  intro hq w17 e17; have hz17 := e17.size
  refine Wx.val hq rfl rfl rfl rfl ([]) zra ?_
  refine Wx.actNew rfl rfl rfl rfl (acts_call rfl rfl rfl (ref_FewB s _ (hin.ext0 zxc))) ?_
  rintro v18 w18 e18 rfl
  have hz18 := e18.size
  rw [decide_eq_true hfew]
  refine Wx.pure hq rfl rfl rfl rfl (rp_not rfl rfl) ?_
  refine Wx.pure hq rfl rfl rfl rfl zmv ?_
  first | (refine Wx.skip hq rfl rfl rfl rfl ?_) | (refine Wx.pure hq rfl rfl rfl rfl zmv ?_)
  first | (refine Wx.skip hq rfl rfl rfl rfl ?_) | (refine Wx.pure hq rfl rfl rfl rfl zbc ?_)
  refine Wx.pure hq rfl rfl rfl rfl zpk ?_
  refine Wx.pure hq rfl rfl rfl rfl zmv ?_
  first | (refine Wx.skip hq rfl rfl rfl rfl ?_) | (refine Wx.pure hq rfl rfl rfl rfl zmv ?_)
  first | (refine Wx.skip hq rfl rfl rfl rfl ?_) | (refine Wx.pure hq rfl rfl rfl rfl zbc ?_)
  refine Wx.pure hq rfl rfl rfl rfl zpk ?_
  refine Wx.pure hq rfl rfl rfl rfl zmv ?_
  first | (refine Wx.skip hq rfl rfl rfl rfl ?_) | (refine Wx.pure hq rfl rfl rfl rfl zmv ?_)
  first | (refine Wx.skip hq rfl rfl rfl rfl ?_) | (refine Wx.pure hq rfl rfl rfl rfl zfa ?_)
  first | (refine Wx.skip hq rfl rfl rfl rfl ?_) | (refine Wx.val hq rfl rfl rfl rfl ([]) zrs ?_)
  first | (refine Wx.skip hq rfl rfl rfl rfl ?_) | (refine Wx.pure hq rfl rfl rfl rfl (rp_lenS rfl rfl rfl) ?_)
  first | (refine Wx.skip hq rfl rfl rfl rfl ?_) | (refine Wx.pure hq rfl rfl rfl rfl zbc ?_)
  refine Wx.pure hq rfl rfl rfl rfl zpk ?_
  refine Wx.pure hq rfl rfl rfl rfl zmv ?_
  first | (refine Wx.skip hq rfl rfl rfl rfl ?_) | (refine Wx.pure hq rfl rfl rfl rfl zmv ?_)
  first | (refine Wx.skip hq rfl rfl rfl rfl ?_) | (refine Wx.pure hq rfl rfl rfl rfl zfa ?_)
  first | (refine Wx.skip hq rfl rfl rfl rfl ?_) | (refine Wx.val hq rfl rfl rfl rfl ([]) zrs ?_)
  first | (refine Wx.skip hq rfl rfl rfl rfl ?_) | (refine Wx.pure hq rfl rfl rfl rfl (rp_lenS rfl rfl rfl) ?_)
  first | (refine Wx.skip hq rfl rfl rfl rfl ?_) | (refine Wx.pure hq rfl rfl rfl rfl zbc ?_)
  refine Wx.pure hq rfl rfl rfl rfl zpk ?_
  refine Wx.pure hq rfl rfl rfl rfl zmv ?_
  first | (refine Wx.skip hq rfl rfl rfl rfl ?_) | (refine Wx.pure hq rfl rfl rfl rfl zfa ?_)
  first | (refine Wx.skip hq rfl rfl rfl rfl ?_) | (refine Wx.val hq rfl rfl rfl rfl ([]) zrs ?_)
  first | (refine Wx.skip hq rfl rfl rfl rfl ?_) | (refine Wx.pure hq rfl rfl rfl rfl zmv ?_)
  first | (refine Wx.skip hq rfl rfl rfl rfl ?_) | (refine Wx.pure hq rfl rfl rfl rfl (rp_indexAddr i.toNat rfl rfl rfl rfl rfl hpp (by omega) (by omega)) ?_)
  first | (refine Wx.skip hq rfl rfl rfl rfl ?_) | (refine Wx.val hq rfl rfl rfl rfl ([]) (rv_load rfl rfl (fun u hu => hLp u zxc i.toNat (by omega))) ?_)
  first | (refine Wx.skip hq rfl rfl rfl rfl ?_) | (refine Wx.pure hq rfl rfl rfl rfl zfa ?_)
  first | (refine Wx.skip hq rfl rfl rfl rfl ?_) | (refine Wx.val hq rfl rfl rfl rfl ([]) zrs ?_)
  first | (refine Wx.skip hq rfl rfl rfl rfl ?_) | (refine Wx.pure hq rfl rfl rfl rfl zmv ?_)
  first | (refine Wx.skip hq rfl rfl rfl rfl ?_) | (refine Wx.pure hq rfl rfl rfl rfl (rp_indexAddr k.toNat rfl rfl rfl rfl rfl hpp (by omega) (by omega)) ?_)
  first | (refine Wx.skip hq rfl rfl rfl rfl ?_) | (refine Wx.val hq rfl rfl rfl rfl ([]) (rv_load rfl rfl (fun u hu => hLp u zxc k.toNat (by omega))) ?_)
  first | (refine Wx.skip hq rfl rfl rfl rfl ?_) | (refine Wx.pure hq rfl rfl rfl rfl zbc ?_)
  refine Wx.pure hq rfl rfl rfl rfl zpk ?_
  refine Wx.fin ?_
  refine zcf ?_
  refine zsk ?_
  refine ztx ?_
  refine Ox.val rfl rfl zra ?_
  refine Ox.pure rfl rfl zmv ?_
  refine Ox.act rfl rfl (acts_call rfl rfl rfl (merge_br s hm hw i _ (hin.ext0 zxc))) ?_
  rintro vu5 wu5 ⟨eu5, v5, p5, A5, c5, rfl, ⟨s5, rfl, hi5, hb5, hz5⟩, hk5⟩
  have hzu5 := eu5.size
  refine Ox.pure rfl rfl zmv ?_
  refine Ox.pure rfl rfl (rp_extract rfl rfl rfl) ?_
  refine Ox.pure rfl rfl (rp_extract rfl rfl rfl) ?_
  refine Ox.pure rfl rfl (rp_extract rfl rfl rfl) ?_
  refine Ox.act rfl rfl (acts_alloc rfl rfl) ?_
  rintro va5 wa5 ⟨ea5, ba5, rfl, hba5, hBa5⟩
  first | (have hCa5 : Cells wa5 ⟨ba5, 0, none⟩ [_, _, _, _, _] := hBa5.cells) | have hCa5 := Blk.cellsL hBa5
  have hla5 := hBa5.lt
  have hza5 := ea5.size
  refine Ox.act rfl rfl (acts_store_all rfl rfl rfl hBa5 rfl (by first | rfl | assumption) (by first | rfl | assumption) (by (first | assumption | exact List.all_eq_true.mp rfl | simp [Value.cells, Value.oneCell']))) ?_
  rintro vc5 wc5 ⟨rfl, qc5, hBc5⟩
  have ec5 := Ext.renew ea5 qc5 hba5
  have hzc5 := ec5.size
  have hlc5 := hBc5.lt
  first | (have hCc5 : Cells wc5 ⟨ba5, 0, none⟩ [_, _, _, _, _] := hBc5.cells) | have hCc5 := Blk.cellsL hBc5
  refine Ox.pure rfl rfl zas ?_
  refine Ox.pure rfl rfl zas ?_
  refine Ox.fin ?_
  refine ztx ?_
  refine Ox.pure rfl rfl zmv ?_
  refine Ox.pure rfl rfl zbc ?_
  refine Ox.fin ?_
  refine zcf ?_
  refine zsk ?_
  obtain ⟨hm5, hw5⟩ := small_of hb5 (hbd1.small (by omega) hv1)
  by_cases h2 : (mergeB (mergeB s.br i).1 k).2.2 = 0; rotate_left
  · refine ztx ?_
    refine Ox.val rfl rfl zra ?_
    refine Ox.pure rfl rfl zmv ?_
    refine Ox.act rfl rfl (acts_call rfl rfl rfl (merge_br s5 hm5 hw5 k _ (hi5.ext0 zxc))) ?_
    rintro vu8 wu8 ⟨eu8, v8, p8, A8, c8, rfl, ⟨s8, rfl, hi8, hb8, hz8⟩, hk8⟩
    have hzu8 := eu8.size
    rw [hb5] at hb8 ⊢
    refine Ox.pure rfl rfl zmv ?_
    refine Ox.pure rfl rfl (rp_extract rfl rfl rfl) ?_
    refine Ox.pure rfl rfl (rp_extract rfl rfl rfl) ?_
    refine Ox.pure rfl rfl (rp_extract rfl rfl rfl) ?_
    refine Ox.act rfl rfl (acts_store_all rfl rfl rfl (hBc5.ext (X := []) zxc (by simp)) rfl rfl rfl (by (first | assumption | exact List.all_eq_true.mp rfl | simp [Value.cells, Value.oneCell']))) ?_
    rintro vc8 wc8 ⟨rfl, qc8, hBc8⟩
    have ec8 : Ext [] wu5 wc8 := Ext.renew zxc qc8 (by omega)
    have hzc8 := ec8.size
    have hCc8 : Cells wc8 ⟨ba5, 0, none⟩ (bvc s8) := hBc8.cellsL
    have hi8 := hi8.keep (s0 := s5) (hBc5.ext (X := []) zxc (by simp)) (fun h => by have := hz8 h; have := hBc5.lt; omega) qc8
    refine Ox.pure rfl rfl zas ?_
    refine Ox.fin ?_
    refine ztx ?_
    refine Ox.pure rfl rfl zmv ?_
    refine Ox.pure rfl rfl zbc ?_
    refine Ox.fin ?_
    refine zct ?_
    refine ztx ?_
    refine Ox.pure rfl rfl zas ?_
    refine Ox.fin ?_
    refine zrt ?_
    exact endE_ret [_] ⟨rfl, trivial⟩ ⟨zxc, rfl⟩
  have hB := any_order hpar h1 h2
  have hv2 : ValidB (mergeB (mergeB s.br i).1 k).1 := by obtain ⟨a1, a2, a3, a4, a5, a6⟩ := mergeB_ok h2; rw [a6]; exact (mergedB_keep a1 a2 a5).1
  have hbd2 := bd_merge hbd1 h2
  have hv3 : ValidB (mergeB s.br k).1 := by obtain ⟨a1, a2, a3, a4, a5, a6⟩ := mergeB_ok hB.ok2; rw [a6]; exact (mergedB_keep a1 a2 a5).1
  have hbd3 := bd_merge (few_bd hfew) hB.ok2
  have hv4 : ValidB (mergeB (mergeB s.br k).1 i).1 := by obtain ⟨a1, a2, a3, a4, a5, a6⟩ := mergeB_ok hB.ok3; rw [a6]; exact (mergedB_keep a1 a2 a5).1
  have hbd4 := bd_merge hbd3 hB.ok3
  have hok2 := hB.ok2
  have hok3 := hB.ok3
  have hfx := hB.fx
  have hfy := hB.fy
  have hln := hB.len
  refine ztx ?_
  refine Ox.val rfl rfl zra ?_
  refine Ox.pure rfl rfl zmv ?_
  refine Ox.act rfl rfl (acts_call rfl rfl rfl (merge_br s5 hm5 hw5 k _ (hi5.ext0 zxc))) ?_
  rintro vu8 wu8 ⟨eu8, v8, p8, A8, c8, rfl, ⟨s8, rfl, hi8, hb8, hz8⟩, hk8⟩
  have hzu8 := eu8.size
  rw [hb5] at hb8 ⊢
  refine Ox.pure rfl rfl zmv ?_
  refine Ox.pure rfl rfl (rp_extract rfl rfl rfl) ?_
  refine Ox.pure rfl rfl (rp_extract rfl rfl rfl) ?_
  refine Ox.pure rfl rfl (rp_extract rfl rfl rfl) ?_
  refine Ox.act rfl rfl (acts_store_all rfl rfl rfl (hBc5.ext (X := []) zxc (by simp)) rfl rfl rfl (by (first | assumption | exact List.all_eq_true.mp rfl | simp [Value.cells, Value.oneCell']))) ?_
  rintro vc8 wc8 ⟨rfl, qc8, hBc8⟩
  have ec8 : Ext [] wu5 wc8 := Ext.renew zxc qc8 (by omega)
  have hzc8 := ec8.size
  have hCc8 : Cells wc8 ⟨ba5, 0, none⟩ (bvc s8) := hBc8.cellsL
  have hi8 := hi8.keep (s0 := s5) (hBc5.ext (X := []) zxc (by simp)) (fun h => by have := hz8 h; have := hBc5.lt; omega) qc8
  refine Ox.pure rfl rfl zas ?_
  refine Ox.fin ?_
  refine ztx ?_
  refine Ox.pure rfl rfl zmv ?_
  refine Ox.pure rfl rfl zbc ?_
  refine Ox.fin ?_
  refine zcf ?_
  refine zsk ?_
  refine ztx ?_
  refine Ox.val rfl rfl zra ?_
  refine Ox.pure rfl rfl zmv ?_
  refine Ox.act rfl rfl (acts_call rfl rfl rfl (merge_br s hm hw k _ (hin.ext0 zxc))) ?_
  rintro vu11 wu11 ⟨eu11, v11, p11, A11, c11, rfl, ⟨s11, rfl, hi11, hb11, hz11⟩, hk11⟩
  have hzu11 := eu11.size
  refine Ox.pure rfl rfl zmv ?_
  refine Ox.pure rfl rfl (rp_extract rfl rfl rfl) ?_
  refine Ox.pure rfl rfl (rp_extract rfl rfl rfl) ?_
  refine Ox.pure rfl rfl (rp_extract rfl rfl rfl) ?_
  refine Ox.act rfl rfl (acts_alloc rfl rfl) ?_
  rintro va11 wa11 ⟨ea11, ba11, rfl, hba11, hBa11⟩
  first | (have hCa11 : Cells wa11 ⟨ba11, 0, none⟩ [_, _, _, _, _] := hBa11.cells) | have hCa11 := Blk.cellsL hBa11
  have hla11 := hBa11.lt
  have hza11 := ea11.size
  refine Ox.act rfl rfl (acts_store_all rfl rfl rfl hBa11 rfl (by first | rfl | assumption) (by first | rfl | assumption) (by (first | assumption | exact List.all_eq_true.mp rfl | simp [Value.cells, Value.oneCell']))) ?_
  rintro vc11 wc11 ⟨rfl, qc11, hBc11⟩
  have ec11 := Ext.renew ea11 qc11 hba11
  have hzc11 := ec11.size
  have hlc11 := hBc11.lt
  first | (have hCc11 : Cells wc11 ⟨ba11, 0, none⟩ [_, _, _, _, _] := hBc11.cells) | have hCc11 := Blk.cellsL hBc11
  refine Ox.pure rfl rfl zas ?_
  refine Ox.pure rfl rfl zas ?_
  refine Ox.fin ?_
  refine ztx ?_
  refine Ox.pure rfl rfl zmv ?_
  refine Ox.pure rfl rfl zbc ?_
  refine Ox.fin ?_
  refine zcf ?_
  refine zsk ?_
  obtain ⟨hm8, hw8⟩ := small_of hb8 (hbd2.small (by omega) hv2)
  obtain ⟨hm11, hw11⟩ := small_of hb11 (hbd3.small (by omega) hv3)
  refine ztx ?_
  refine Ox.val rfl rfl zra ?_
  refine Ox.pure rfl rfl zmv ?_
  refine Ox.act rfl rfl (acts_call rfl rfl rfl (merge_br s11 hm11 hw11 i _ (hi11.ext0 zxc))) ?_
  rintro vu14 wu14 ⟨eu14, v14, p14, A14, c14, rfl, ⟨s14, rfl, hi14, hb14, hz14⟩, hk14⟩
  have hzu14 := eu14.size
  rw [hb11] at hb14 ⊢
  refine Ox.pure rfl rfl zmv ?_
  refine Ox.pure rfl rfl (rp_extract rfl rfl rfl) ?_
  refine Ox.pure rfl rfl (rp_extract rfl rfl rfl) ?_
  refine Ox.pure rfl rfl (rp_extract rfl rfl rfl) ?_
  refine Ox.act rfl rfl (acts_store_all rfl rfl rfl (hBc11.ext (X := []) zxc (by simp)) rfl rfl rfl (by (first | assumption | exact List.all_eq_true.mp rfl | simp [Value.cells, Value.oneCell']))) ?_
  rintro vc14 wc14 ⟨rfl, qc14, hBc14⟩
  have ec14 : Ext [] wu11 wc14 := Ext.renew zxc qc14 (by omega)
  have hzc14 := ec14.size
  have hCc14 : Cells wc14 ⟨ba11, 0, none⟩ (bvc s14) := hBc14.cellsL
  have hi14 := hi14.keep (s0 := s11) (hBc11.ext (X := []) zxc (by simp)) (fun h => by have := hz14 h; have := hBc11.lt; omega) qc14
  refine Ox.pure rfl rfl zas ?_
  refine Ox.fin ?_
  refine ztx ?_
  refine Ox.pure rfl rfl zmv ?_
  refine Ox.pure rfl rfl zbc ?_
  refine Ox.fin ?_
  refine zcf ?_
  refine zsk ?_
  obtain ⟨hm14, hw14⟩ := small_of hb14 (hbd4.small (by omega) hv4)
  have hal : ∀ q : Ky, pointsL (factsB (mergeB (mergeB s.br i).1 k).1 (parB s.br i.toNat)).1 q 0 1024 16777217 = pointsL (factsB (mergeB (mergeB s.br k).1 i).1 (parB s.br i.toNat)).1 q 0 1024 16777217 := fun q => hB.alike 16777217 (by omega) q 0 1024
  (repeat refine Sx.seq ?_)
  refine Sx.walkR rfl (fun _ _ _ _ h => h) [0, 1, 2, 3, 4, 5, 6, 7, 8, 9, 10, 11] [0, 1, 2, 3, 4, 5, 7, 8, 9, 10, 11] (0) (by kernel_rfl) ?_
  intro hq w19 e19; have hz19 := e19.size
  refine Wx.val hq rfl rfl rfl rfl ([]) zra ?_
  refine Wx.pure hq rfl rfl rfl rfl zfa ?_
  refine Wx.val hq rfl rfl rfl rfl ([]) zrs ?_
  refine Wx.pure hq rfl rfl rfl rfl zmv ?_
  refine Wx.pure hq rfl rfl rfl rfl (rp_indexAddr i.toNat rfl rfl rfl rfl rfl hpp (by omega) (by omega)) ?_
  refine Wx.val hq rfl rfl rfl rfl ([]) (rv_load rfl rfl (fun u hu => hLp u zxc i.toNat (by omega))) ?_
  refine Wx.actNew rfl rfl rfl rfl (acts_call rfl rfl rfl (facts_br s8 hm8 (parB s.br i.toNat) _ (hi8.ext0 zxc))) ?_
  rintro v20 w20 e20 ⟨p17, A17, c17, rfl, hs17⟩
  have hz20 := e20.size
  rw [hb8] at hs17 ⊢
  refine Wx.pure hq rfl rfl rfl rfl zmv ?_
  refine Wx.pure hq rfl rfl rfl rfl (rp_extract rfl rfl rfl) ?_
  refine Wx.pure hq rfl rfl rfl rfl (rp_extract rfl rfl rfl) ?_
  refine Wx.pure hq rfl rfl rfl rfl zas ?_
  refine Wx.pure hq rfl rfl rfl rfl zas ?_
  refine Wx.fin ?_
  (repeat refine Sx.seq ?_)
  refine Sx.walkR rfl (fun _ _ _ _ h => h) [0, 1, 2, 3, 4, 5, 6, 7, 8, 9, 10, 11] [0, 1, 2, 3, 4, 5, 7, 8, 9, 10, 11] (0) (by kernel_rfl) ?_
  intro hq w21 e21; have hz21 := e21.size
  refine Wx.val hq rfl rfl rfl rfl ([]) zra ?_
  refine Wx.pure hq rfl rfl rfl rfl zfa ?_
  refine Wx.val hq rfl rfl rfl rfl ([]) zrs ?_
  refine Wx.pure hq rfl rfl rfl rfl zmv ?_
  refine Wx.pure hq rfl rfl rfl rfl (rp_indexAddr i.toNat rfl rfl rfl rfl rfl hpp (by omega) (by omega)) ?_
  refine Wx.val hq rfl rfl rfl rfl ([]) (rv_load rfl rfl (fun u hu => hLp u zxc i.toNat (by omega))) ?_
  refine Wx.actNew rfl rfl rfl rfl (acts_call rfl rfl rfl (facts_br s14 hm14 (parB s.br i.toNat) _ (hi14.ext0 zxc))) ?_
  rintro v22 w22 e22 ⟨p18, A18, c18, rfl, hs18⟩
  have hz22 := e22.size
  rw [hb14] at hs18 ⊢
  refine Wx.pure hq rfl rfl rfl rfl zmv ?_
  refine Wx.pure hq rfl rfl rfl rfl (rp_extract rfl rfl rfl) ?_
  refine Wx.pure hq rfl rfl rfl rfl (rp_extract rfl rfl rfl) ?_
  refine Wx.pure hq rfl rfl rfl rfl zas ?_
  refine Wx.pure hq rfl rfl rfl rfl zas ?_
  refine Wx.fin ?_
  refine ztx ?_
  refine Ox.pure rfl rfl zmv ?_
  refine Ox.pure rfl rfl zbc ?_
  refine Ox.pure rfl rfl zmv ?_
  first | (refine Ox.skip rfl rfl ?_) | (refine Ox.pure rfl rfl zmv ?_)
  first | (refine Ox.skip rfl rfl ?_) | (refine Ox.pure rfl rfl zbc ?_)
  refine Ox.pure rfl rfl zpk ?_
  refine Ox.pure rfl rfl zmv ?_
  first | (refine Ox.skip rfl rfl ?_) | (refine Ox.pure rfl rfl zmv ?_)
  first | (refine Ox.skip rfl rfl ?_) | (refine Ox.pure rfl rfl (rp_lenS rfl rfl rfl) ?_)
  first | (refine Ox.skip rfl rfl ?_) | (refine Ox.pure rfl rfl zmv ?_)
  first | (refine Ox.skip rfl rfl ?_) | (refine Ox.pure rfl rfl (rp_lenS rfl rfl rfl) ?_)
  first | (refine Ox.skip rfl rfl ?_) | (refine Ox.pure rfl rfl zbc ?_)
  refine Ox.pure rfl rfl zpk ?_
  refine Ox.pure rfl rfl zmv ?_
  first | (refine Ox.skip rfl rfl ?_) | (refine Ox.pure rfl rfl zmv ?_)
  first | (refine Ox.skip rfl rfl ?_) | (refine Ox.pure rfl rfl zmv ?_)
  first | (refine Ox.skip rfl rfl ?_) | (refine Ox.val rfl rfl zra ?_)
  first | (refine Ox.skip rfl rfl ?_) | (refine Ox.act rfl rfl (acts_call rfl rfl rfl (alike_at (factsB (mergeB (mergeB s.br i).1 k).1 (parB s.br i.toNat)).1 (factsB (mergeB (mergeB s.br k).1 i).1 (parB s.br i.toNat)).1 key p17 p18 A17 A18 c17 c18 _ (hs17.ext0 zxc) (hs18.ext0 zxc))) ?_; rintro v23 w23 ⟨e23, rfl⟩; have hz23 := e23.size; rw [decide_eq_true (hal key)])
  first | (refine Ox.skip rfl rfl ?_) | (refine Ox.pure rfl rfl (rp_not rfl rfl) ?_)
  refine Ox.pure rfl rfl zpk ?_
  refine Ox.fin ?_
  refine zcf ?_
  refine zsk ?_
  refine ztx ?_
  refine Ox.pure rfl rfl zmv ?_
  refine Ox.pure rfl rfl (rp_lenS rfl rfl rfl) ?_
  refine Ox.pure rfl rfl zmv ?_
  refine Ox.fin ?_
  refine zbl ?_
  generalize hL : (factsB (mergeB (mergeB s.br i).1 k).1 (parB s.br i.toNat)).1 = L at *
  generalize hM : (factsB (mergeB (mergeB s.br k).1 i).1 (parB s.br i.toNat)).1 = M at *
  have hlf := hs17.few
  refine Sx.loop (ι := Nat) (fun j E wr => E = [(15, .slice p17 L.length c17), (17, .slice p18 M.length c18), (137, .slice p17 L.length c17), (138, .int .i64 (L.length : Int)), (139, .int .i64 (j : Int))] ∧ j ≤ L.length ∧ Ext [] W wr ∧ SlV fc wr p17 A17 L c17 ∧ SlV fc wr p18 A18 M c18) (fun j => L.length - j) 0
    (sub_cons rfl (sub_cons rfl (sub_cons rfl (sub_cons rfl (sub_cons rfl sub_nil))))) ⟨rfl, Nat.zero_le _, zxc, hs17.ext0 zxc, hs18.ext0 zxc⟩ ?_
  rintro j E wr ⟨rfl, hj, er, hs17, hs18⟩
  have hz := er.size
  by_cases hlt : j < L.length
  · 
    refine ztx ?_
    refine Ox.pure rfl rfl zbc ?_
    refine Ox.fin ?_
    refine zct ?_
    refine zsk ?_
    refine zbl ?_
    refine ztx ?_
    refine Ox.pure rfl rfl (rp_indexAddr j rfl rfl rfl rfl rfl hs17.ptr rfl hlt) ?_
    refine Ox.val rfl rfl (rv_load rfl rfl (fun u hu => ld_elem fc_len (hs17.row.ext0 zxc) hlt rfl rfl)) ?_
    refine Ox.act rfl rfl (acts_alloc rfl rfl) ?_
    rintro va23 wa23 ⟨ea23, ba23, rfl, hba23, hBa23⟩
    first | (have hCa23 : Cells wa23 ⟨ba23, 0, none⟩ [_, _, _, _, _, _, _, _] := hBa23.cells) | have hCa23 := Blk.cellsL hBa23
    have hla23 := hBa23.lt
    have hza23 := ea23.size
    refine Ox.act rfl rfl (acts_store_all rfl rfl rfl hBa23 rfl (by first | rfl | assumption) (by first | rfl | assumption) (by (first | assumption | exact List.all_eq_true.mp rfl | simp [Value.cells, Value.oneCell']))) ?_
    rintro vc23 wc23 ⟨rfl, qc23, hBc23⟩
    have ec23 := Ext.renew ea23 qc23 hba23
    have hzc23 := ec23.size
    have hlc23 := hBc23.lt
    first | (have hCc23 : Cells wc23 ⟨ba23, 0, none⟩ [_, _, _, _, _, _, _, _] := hBc23.cells) | have hCc23 := Blk.cellsL hBc23
    refine Ox.fin ?_
    refine ztx ?_
    refine Ox.pure rfl rfl zmv ?_
    refine Ox.pure rfl rfl zmv ?_
    refine Ox.pure rfl rfl zfa ?_
    refine Ox.val rfl rfl zra ?_
    refine Ox.act rfl rfl (acts_call rfl rfl rfl (alike_at L M L[j].key p17 p18 A17 A18 c17 c18 _ (hs17.ext0 zxc) (hs18.ext0 zxc))) ?_
    rintro v24 w24 ⟨e24, rfl⟩
    have hz24 := e24.size
    rw [decide_eq_true (hal L[j].key)]
    refine Ox.pure rfl rfl (rp_not rfl rfl) ?_
    refine Ox.fin ?_
    refine zcf ?_
    refine zsk ?_
    refine ztx ?_
    refine Ox.pure rfl rfl zba ?_
    refine Ox.pure rfl rfl zmv ?_
    refine Ox.fin ?_
    exact ⟨j + 1, _, sub_cons rfl (sub_cons rfl (sub_cons rfl (sub_cons rfl (sub_cons rfl sub_nil)))), ⟨rfl, hlt, zxc, hs17.ext0 zxc, hs18.ext0 zxc⟩, by omega⟩
  · refine ztx ?_
    refine Ox.pure rfl rfl zbc ?_
    refine Ox.fin ?_
    refine zcf ?_
    refine zex ?_
    refine ztx ?_
    refine Ox.pure rfl rfl zas ?_
    refine Ox.fin ?_
    refine zrt ?_
    exact endE_ret [_] ⟨rfl, trivial⟩ ⟨zxc, rfl⟩

open Go.ChangeShapes Go.WideShapes Go.ChangeAt Go.RowKit in
theorem lawContract (H : Type) (enc : TypeId × Value → H) (W : World) (base : Nat) (args : Array Value) (ds gs : List (DataW H)) (before : List MemPlace)
    (hval : ∀ (j : Nat) t v, Try.f9.params[j]? = some t → args[j]? = some v → Value.okWide Try.prog W .any base t v)
    (hW : DataW.Whole enc Try.prog Try.f9.params.toList Rows.branchesAnySpec.vars false W args.toList ds gs before)
    (hw : (DataW.weightsEach Try.prog (Try.f9.params.toList ++ Rows.branchesAnySpec.plain.varTypes Try.prog) (ds ++ gs)).all (· ≤ reachBytes) = true) :
    Calls Try.prog 9 args W fun e W' => ∃ v, e = .returned v ∧ Rows.branchesAnySpec.post enc Try.prog Try.f9 false true false false W args v W' := by
  obtain ⟨p, q, hA, hV, rfl, hz, hn⟩ := id hW
  obtain ⟨rfl, rfl⟩ := trodVars_none hV
  have hA' : DataW.TrodAll enc Try.prog W 0 (fun _ => true) true [27, 3, 3, 38] args.toList ds p := hA
  obtain ⟨v0, vs0, d0, ds0, p0, q0, hargs, rfl, rfl, h0, r0⟩ := trodAll_cons hA'
  obtain ⟨v1, vs1, d1, ds1, p1, q1, rfl, rfl, rfl, h1, r1⟩ := trodAll_cons r0
  obtain ⟨v2, vs2, d2, ds2, p2, q2, rfl, rfl, rfl, h2, r2⟩ := trodAll_cons r1
  obtain ⟨v3, vs3, d3, ds3, p3, q3, rfl, rfl, rfl, h3, r3⟩ := trodAll_cons r2
  obtain ⟨rfl, rfl, rfl⟩ := trodAll_nil r3
  obtain rfl : args = #[v0, v1, v2, v3] := by cases args; simp_all
  have hw' : ∀ x ∈ DataW.weightsEach Try.prog [27, 3, 3, 38] [d0, d1, d2, d3], x ≤ reachBytes := by
    have hw2 : (DataW.weightsEach Try.prog [27, 3, 3, 38] [d0, d1, d2, d3]).all (· ≤ reachBytes) = true := hw
    simpa [List.all_eq_true] using hw2
  simp only [DataW.weightsEach, List.mem_append] at hw'
  obtain ⟨s, rfl, hin0⟩ := arg_bran h0 (fun x hx => hw' x (.inl hx))
  obtain ⟨i, rfl, _, _, hb1⟩ := open_int undI (hval 1 3 v1 rfl rfl) h1
  obtain ⟨k, rfl, _, _, hb2⟩ := open_int undI (hval 2 3 v2 rfl rfl) h2
  obtain ⟨key, hf3, rfl⟩ := arg_key h3
  refine (anyLaw s i k key W hin0).mono fun e W' he => ?_
  cases e with
  | returned r =>
    obtain ⟨hx, rfl⟩ := he
    exact ⟨_, rfl, post_true (by kernel_rfl) (by kernel_rfl) rfl hW rfl rfl rfl rfl rfl hx⟩
  | panicked c => exact he.elim
  | outgrown => exact he.elim

open Go.ChangeShapes Go.WideShapes Go.ChangeAt Go.RowKit in
set_option maxRecDepth 100000 in
theorem lifted (os : Os) (started : os.Started) (H : Type) (enc : TypeId × Value → H) :
    ReturnsInHanded {} Try.checked os 9 .any (Rows.branchesAnySpec.pre6 enc Try.prog Try.f9 [] false) (Rows.branchesAnySpec.post enc Try.prog Try.f9 false true false false) := by
  refine returnsInHanded_of_change_sized (C := Try.checked) (by kernel_rfl) started (by kernel_rfl) Try.func9
    (ChangeSpec.witness6 (enc := enc) (C := Try.checked) (s := Rows.branchesAnySpec) false ⟨#[], #[.agg #[.slice none 0 0, .slice none 0 0, .slice none 0 0, .slice none 0 0, .slice none 0 0], .int .i64 0, .int .i64 0, .agg #[.int .i64 0, .int .i64 0, .int .i64 0]], []⟩ 8 (by kernel_rfl) (by kernel_rfl) (by kernel_rfl) (by kernel_rfl)) ?_
  intro W base args ds gs before hval hW _ hw _
  exact lawContract H enc W base args ds gs before hval hW hw

theorem over : Rows.branchesAnyRow.holds Try.pinned (OpenSpec.ofChange Rows.branchesAnySpec) :=
  OpenClaim.holds_of_wide 9 Try.f9 rfl rfl rfl rfl rfl rfl rfl ⟨rfl, rfl, rfl, rfl, rfl⟩ rfl rfl rfl rfl rfl (by kernel_rfl) Try.func9 (by kernel_rfl)
    (of_decide_eq_true (by kernel_rfl)) (by unfold Func.isWrapper; first | (rw [if_pos (by decide +kernel)]; kernel_rfl) | (rw [if_neg (by decide +kernel)]; exact ⟨rfl, rfl⟩))
    (fun os started H enc _ => lifted os started H enc)

theorem proved : Rows.BranchesAnySaid := over

end Go.Proofs.Ytfgckcochilpkaa
