/- Texts of one proof, put together: BranQ, BranWS, EngC, EngX, EngZ, FactS, FactT, FactU, BranWA. -/
import Derived.Test.YtfgckcochilpkaaRows
import Derived.WalkKit
import Derived.ProofKit
import Derived.OpenShut
import Derived.JoinedCond
import Derived.DataShut
import Derived.SizedLaws
import Derived.Carry
import Derived.Test.YtfgckcochilpkaaWAP6
/- Branches' walks: what the statements use; the chapter's examples hold. -/
set_option linter.unusedVariables false
set_option maxRecDepth 100000
set_option maxHeartbeats 4000000
set_option linter.unusedSimpArgs false
namespace Go.Proofs.Ytfgckcochilpkaa
open Go Go.Eng

/-! ## Small branchings -/
def SmallB (b : Br) : Prop := b.base.length ≤ 1000 ∧ (∀ x ∈ b.brs, x.length ≤ 1000) ∧ b.brs.length ≤ 1000 ∧ b.par.length ≤ 1000 ∧ b.fks.length ≤ 1000 ∧ b.done.length ≤ 1000
instance (b : Br) : Decidable (SmallB b) := by unfold SmallB; infer_instance
theorem small_of {s : Bs} {b : Br} (h : s.br = b) (hb : SmallB b) : Small s ∧ Few s := by
  subst h
  obtain ⟨h1, h2, h3, h4, h5, h6⟩ := hb
  rw [br_len] at h3
  refine ⟨⟨h1, fun i => ?_⟩, ⟨h3, h4, h5, h6⟩⟩
  unfold brB
  cases hx : s.br.brs[i]? with
  | none => simp
  | some x => exact h2 x (List.mem_of_getElem? hx)
theorem le_sum {l : List Nat} {x : Nat} (h : x ∈ l) : x ≤ l.sum := by
  induction l with
  | nil => cases h
  | cons y l ih =>
    rw [List.sum_cons]
    rcases List.mem_cons.1 h with rfl | h
    · omega
    · have := ih h; omega
theorem few_small {b : Br} (h : FewB b) : SmallB b := by
  obtain ⟨h1, h2, h3, h4, h5, h6, _⟩ := h
  refine ⟨by omega, fun x hx => ?_, by omega, by omega, by omega, by omega⟩
  have : x.length ≤ sumB b := le_sum (List.mem_map.2 ⟨x, hx, rfl⟩)
  omega
abbrev chg (s v : Int) : Cr := ⟨⟨1, s, 0⟩, v, 2, 9⟩
theorem lawChange (s v : Int) (w : World) : Calls Try.prog 32 #[.int .i64 s, .int .i64 v] w (Ret fun r w' => Ext [] w w' ∧ r = .agg (cc (chg s v)).toArray) := by
  refine calls_of_Sx (args := [.int .i64 s, .int .i64 v]) Try.func32 rfl rfl ?_
  refine ztx ?_
  refine Ox.act rfl rfl (acts_alloc rfl rfl) ?_
  rintro vb4 wb4 ⟨eb4, bb4, rfl, hbb4, hBb4⟩
  first | (have hCb4 : Cells wb4 ⟨bb4, 0, none⟩ [_, _, _, _, _, _] := hBb4.cells) | have hCb4 := Blk.cellsL hBb4
  have hlb4 := hBb4.lt
  have hzb4 := eb4.size
  refine Ox.fin ?_
  refine ztx ?_
  refine Ox.pure rfl rfl zmv ?_
  refine Ox.pure rfl rfl (rp_buildS (ps := [(0, .const _), (1, .tmp 5)]) rfl rfl rfl rfl rfl) ?_
  refine Ox.pure rfl rfl zmv ?_
  refine Ox.pure rfl rfl (rp_buildS (ps := [(0, .const _), (1, .const _)]) rfl rfl rfl rfl rfl) ?_
  refine Ox.pure rfl rfl (rp_buildS (ps := [(0, .tmp 6), (1, .tmp 7), (2, .tmp 8)]) rfl rfl rfl rfl rfl) ?_
  refine Ox.act rfl rfl (acts_store_all rfl rfl rfl (hBb4.ext (X := []) zxc (by simp)) rfl rfl rfl (by (first | assumption | exact List.all_eq_true.mp rfl | simp [Value.cells, Value.oneCell']))) ?_
  rintro vs5 ws5 ⟨rfl, qs5, hBs5⟩
  have es5 : Ext [] w ws5 := Ext.renew zxc qs5 (by omega)
  refine Ox.fin ?_
  refine zrt ?_
  exact endE_ret [.agg (cc (chg s v)).toArray] ⟨⟨⟨bb4, 0, none⟩, rfl, hBs5.cellsL.ldA rfl rfl⟩, trivial⟩ ⟨zxc, rfl⟩

def atB (b : Br) (no s : Int) : Int × Bool := ((atL (factsB b no).1 ⟨1, s, 0⟩ 5 16777216).1, (atL (factsB b no).1 ⟨1, s, 0⟩ 5 16777216).2 && decide ((factsB b no).2 = 0))
theorem lawAt (s : Bs) (hsm : Small s) (no k : Int) (w : World) (hin : BsIn s w) :
    Calls Try.prog 33 #[.agg (bvc s).toArray, .int .i64 no, .int .i64 k] w (Ret fun r w' => Ext [] w w' ∧ r = .tuple #[.int .i64 (atB s.br no k).1, .bool (atB s.br no k).2]) := by
  refine calls_of_Sx (args := [.agg (bvc s).toArray, .int .i64 no, .int .i64 k]) Try.func33 rfl rfl ?_
  have hv : atB s.br no k = ((atL (factsB s.br no).1 ⟨1, k, 0⟩ 5 16777216).1, (atL (factsB s.br no).1 ⟨1, k, 0⟩ 5 16777216).2 && decide ((factsB s.br no).2 = 0)) := rfl
  generalize hX : atL (factsB s.br no).1 ⟨1, k, 0⟩ 5 16777216 = X at *
  obtain ⟨n, ok⟩ := X
  cases ok with
  | false =>
    refine ztx ?_
    refine Ox.act rfl rfl (acts_box rfl rfl) ?_
    rintro vb3 wb3 ⟨eb3, bb3, rfl, hbb3, hBb3⟩
    first | (have hCb3 : Cells wb3 ⟨bb3, 0, none⟩ [_, _, _, _, _] := hBb3.cells) | have hCb3 := Blk.cellsL hBb3
    have hlb3 := hBb3.lt
    have hzb3 := eb3.size
    refine Ox.pure rfl rfl zas ?_
    refine Ox.pure rfl rfl zas ?_
    refine Ox.fin ?_
    refine ztx ?_
    refine Ox.val rfl rfl zra ?_
    refine Ox.pure rfl rfl zmv ?_
    refine Ox.act rfl rfl (acts_call rfl rfl rfl (facts_br s hsm no _ (hin.ext0 zxc))) ?_
    rintro v1 w1 ⟨e1, p1, A1, c1, rfl, hs1⟩
    have hz1 := e1.size
    refine Ox.pure rfl rfl zmv ?_
    refine Ox.pure rfl rfl (rp_extract rfl rfl rfl) ?_
    refine Ox.pure rfl rfl (rp_extract rfl rfl rfl) ?_
    refine Ox.pure rfl rfl zas ?_
    refine Ox.pure rfl rfl zas ?_
    refine Ox.fin ?_
    refine ztx ?_
    refine Ox.pure rfl rfl zmv ?_
    refine Ox.pure rfl rfl zmv ?_
    refine Ox.act rfl rfl (acts_call rfl rfl rfl (lawChange k 0 _)) ?_
    rintro v2 w2 ⟨e2, rfl⟩
    have hz2 := e2.size
    refine Ox.pure rfl rfl (rp_fieldA rfl rfl rfl rfl rfl) ?_
    refine Ox.act rfl rfl (acts_call rfl rfl rfl (at_at (factsB s.br no).1 ⟨1, k, 0⟩ 5 16777216 p1 A1 c1 _ (hs1.ext0 zxc))) ?_
    rintro v3 w3 ⟨e3, rfl⟩
    have hz3 := e3.size
    rw [hX]
    refine Ox.pure rfl rfl zmv ?_
    refine Ox.pure rfl rfl (rp_extract rfl rfl rfl) ?_
    refine Ox.pure rfl rfl (rp_extract rfl rfl rfl) ?_
    refine Ox.pure rfl rfl zas ?_
    refine Ox.pure rfl rfl zas ?_
    refine Ox.fin ?_
    refine ztx ?_
    refine Ox.pure rfl rfl zmv ?_
    refine Ox.pure rfl rfl zmv ?_
    refine Ox.pure rfl rfl zmv ?_
    first | (refine Ox.skip rfl rfl ?_) | (refine Ox.pure rfl rfl zmv ?_)
    first | (refine Ox.skip rfl rfl ?_) | (refine Ox.pure rfl rfl zbc ?_)
    refine Ox.pure rfl rfl zpk ?_
    refine Ox.pure rfl rfl zas ?_
    refine Ox.pure rfl rfl zas ?_
    refine Ox.fin ?_
    refine zrt ?_
    exact endE_ret [.int .i64 n, .bool false] ⟨rfl, rfl, trivial⟩ ⟨zxc, by rw [hv]; rfl⟩
  | true =>
    by_cases hz : (factsB s.br no).2 = 0
    · rw [decide_eq_true hz] at hv
      refine ztx ?_
      refine Ox.act rfl rfl (acts_box rfl rfl) ?_
      rintro vb3 wb3 ⟨eb3, bb3, rfl, hbb3, hBb3⟩
      first | (have hCb3 : Cells wb3 ⟨bb3, 0, none⟩ [_, _, _, _, _] := hBb3.cells) | have hCb3 := Blk.cellsL hBb3
      have hlb3 := hBb3.lt
      have hzb3 := eb3.size
      refine Ox.pure rfl rfl zas ?_
      refine Ox.pure rfl rfl zas ?_
      refine Ox.fin ?_
      refine ztx ?_
      refine Ox.val rfl rfl zra ?_
      refine Ox.pure rfl rfl zmv ?_
      refine Ox.act rfl rfl (acts_call rfl rfl rfl (facts_br s hsm no _ (hin.ext0 zxc))) ?_
      rintro v4 w4 ⟨e4, p1, A1, c1, rfl, hs1⟩
      have hz4 := e4.size
      refine Ox.pure rfl rfl zmv ?_
      refine Ox.pure rfl rfl (rp_extract rfl rfl rfl) ?_
      refine Ox.pure rfl rfl (rp_extract rfl rfl rfl) ?_
      refine Ox.pure rfl rfl zas ?_
      refine Ox.pure rfl rfl zas ?_
      refine Ox.fin ?_
      refine ztx ?_
      refine Ox.pure rfl rfl zmv ?_
      refine Ox.pure rfl rfl zmv ?_
      refine Ox.act rfl rfl (acts_call rfl rfl rfl (lawChange k 0 _)) ?_
      rintro v5 w5 ⟨e5, rfl⟩
      have hz5 := e5.size
      refine Ox.pure rfl rfl (rp_fieldA rfl rfl rfl rfl rfl) ?_
      refine Ox.act rfl rfl (acts_call rfl rfl rfl (at_at (factsB s.br no).1 ⟨1, k, 0⟩ 5 16777216 p1 A1 c1 _ (hs1.ext0 zxc))) ?_
      rintro v6 w6 ⟨e6, rfl⟩
      have hz6 := e6.size
      rw [hX]
      refine Ox.pure rfl rfl zmv ?_
      refine Ox.pure rfl rfl (rp_extract rfl rfl rfl) ?_
      refine Ox.pure rfl rfl (rp_extract rfl rfl rfl) ?_
      refine Ox.pure rfl rfl zas ?_
      refine Ox.pure rfl rfl zas ?_
      refine Ox.fin ?_
      refine ztx ?_
      refine Ox.pure rfl rfl zmv ?_
      refine Ox.pure rfl rfl zmv ?_
      refine Ox.pure rfl rfl zmv ?_
      first | (refine Ox.skip rfl rfl ?_) | (refine Ox.pure rfl rfl zmv ?_)
      first | (refine Ox.skip rfl rfl ?_) | (refine Ox.pure rfl rfl zbc ?_)
      refine Ox.pure rfl rfl zpk ?_
      refine Ox.pure rfl rfl zas ?_
      refine Ox.pure rfl rfl zas ?_
      refine Ox.fin ?_
      refine zrt ?_
      exact endE_ret [.int .i64 n, .bool true] ⟨rfl, rfl, trivial⟩ ⟨zxc, by rw [hv]; rfl⟩
    · rw [decide_eq_false hz] at hv
      refine ztx ?_
      refine Ox.act rfl rfl (acts_box rfl rfl) ?_
      rintro vb3 wb3 ⟨eb3, bb3, rfl, hbb3, hBb3⟩
      first | (have hCb3 : Cells wb3 ⟨bb3, 0, none⟩ [_, _, _, _, _] := hBb3.cells) | have hCb3 := Blk.cellsL hBb3
      have hlb3 := hBb3.lt
      have hzb3 := eb3.size
      refine Ox.pure rfl rfl zas ?_
      refine Ox.pure rfl rfl zas ?_
      refine Ox.fin ?_
      refine ztx ?_
      refine Ox.val rfl rfl zra ?_
      refine Ox.pure rfl rfl zmv ?_
      refine Ox.act rfl rfl (acts_call rfl rfl rfl (facts_br s hsm no _ (hin.ext0 zxc))) ?_
      rintro v7 w7 ⟨e7, p1, A1, c1, rfl, hs1⟩
      have hz7 := e7.size
      refine Ox.pure rfl rfl zmv ?_
      refine Ox.pure rfl rfl (rp_extract rfl rfl rfl) ?_
      refine Ox.pure rfl rfl (rp_extract rfl rfl rfl) ?_
      refine Ox.pure rfl rfl zas ?_
      refine Ox.pure rfl rfl zas ?_
      refine Ox.fin ?_
      refine ztx ?_
      refine Ox.pure rfl rfl zmv ?_
      refine Ox.pure rfl rfl zmv ?_
      refine Ox.act rfl rfl (acts_call rfl rfl rfl (lawChange k 0 _)) ?_
      rintro v8 w8 ⟨e8, rfl⟩
      have hz8 := e8.size
      refine Ox.pure rfl rfl (rp_fieldA rfl rfl rfl rfl rfl) ?_
      refine Ox.act rfl rfl (acts_call rfl rfl rfl (at_at (factsB s.br no).1 ⟨1, k, 0⟩ 5 16777216 p1 A1 c1 _ (hs1.ext0 zxc))) ?_
      rintro v9 w9 ⟨e9, rfl⟩
      have hz9 := e9.size
      rw [hX]
      refine Ox.pure rfl rfl zmv ?_
      refine Ox.pure rfl rfl (rp_extract rfl rfl rfl) ?_
      refine Ox.pure rfl rfl (rp_extract rfl rfl rfl) ?_
      refine Ox.pure rfl rfl zas ?_
      refine Ox.pure rfl rfl zas ?_
      refine Ox.fin ?_
      refine ztx ?_
      refine Ox.pure rfl rfl zmv ?_
      refine Ox.pure rfl rfl zmv ?_
      refine Ox.pure rfl rfl zmv ?_
      first | (refine Ox.skip rfl rfl ?_) | (refine Ox.pure rfl rfl zmv ?_)
      first | (refine Ox.skip rfl rfl ?_) | (refine Ox.pure rfl rfl zbc ?_)
      refine Ox.pure rfl rfl zpk ?_
      refine Ox.pure rfl rfl zas ?_
      refine Ox.pure rfl rfl zas ?_
      refine Ox.fin ?_
      refine zrt ?_
      exact endE_ret [.int .i64 n, .bool false] ⟨rfl, rfl, trivial⟩ ⟨zxc, by rw [hv]; rfl⟩

theorem alike_at (l m : List Fct) (k : Ky) (p q : Option Addr) (A B : Addr) (c d : Nat) (w : World) (hs : SlV fc w p A l c) (ht : SlV fc w q B m d) :
    Calls Try.prog 31 #[.slice p l.length c, .slice q m.length d, .agg (kc k).toArray] w (Ret fun r w' => Ext [] w w' ∧ r = .bool (decide (pointsL l k 0 1024 16777217 = pointsL m k 0 1024 16777217))) := by
  have hlp : ∀ l : List Fct, (pointsL l k 0 1024 16777217).length ≤ 1024 := fun l => by
    unfold pointsL
    exact Nat.le_trans (ptsN_le _ _ _) (by decide)
  have hl1 := hlp l
  have hl2 := hlp m
  refine calls_of_Sx (args := [.slice p l.length c, .slice q m.length d, .agg (kc k).toArray]) Try.func31 rfl rfl ?_
  refine ztx ?_
  refine Ox.act rfl rfl (acts_box rfl rfl) ?_
  rintro vb5 wb5 ⟨eb5, bb5, rfl, hbb5, hBb5⟩
  first | (have hCb5 : Cells wb5 ⟨bb5, 0, none⟩ [_, _, _] := hBb5.cells) | have hCb5 := Blk.cellsL hBb5
  have hlb5 := hBb5.lt
  have hzb5 := eb5.size
  refine Ox.pure rfl rfl zas ?_
  refine Ox.fin ?_
  (repeat refine Sx.seq ?_)
  refine Sx.walkR rfl (fun _ _ _ _ h => h) [0, 1, 3, 4, 2, 5, 6, 7] [0, 1, 3, 4, 7] (0) (by kernel_rfl) ?_
  intro hq w10 e10; have hz10 := e10.size
  refine Wx.pure hq rfl rfl rfl rfl zmv ?_
  refine Wx.val hq rfl rfl rfl rfl ([]) zra ?_
  refine Wx.pure hq rfl rfl rfl rfl zmv ?_
  refine Wx.val hq rfl rfl rfl rfl ([]) zra ?_
  refine Wx.actNew rfl rfl rfl rfl (acts_call rfl rfl rfl (points_at l k 0 1024 16777217 p A c _ (hs.ext0 zxc))) ?_
  rintro v11 w11 e11 hv2
  have hz11 := e11.size
  obtain ⟨p2, c2, A2, rfl, hs2, _⟩ := SlV.of_own hv2 (by omega)
  refine Wx.actNew rfl rfl rfl rfl (acts_call rfl rfl rfl (points_at m k 0 1024 16777217 q B d _ (ht.ext0 zxc))) ?_
  rintro v12 w12 e12 hv5
  have hz12 := e12.size
  obtain ⟨p5, c5, A5, rfl, hs5, _⟩ := SlV.of_own hv5 (by omega)
  refine Wx.actNew rfl rfl rfl rfl (acts_call rfl rfl rfl (ref_SamePoints (pointsL l k 0 1024 16777217) (pointsL m k 0 1024 16777217) p2 p5 A2 A5 c2 c5 _ (hs2.ext0 zxc) (hs5.ext0 zxc))) ?_
  rintro v13 w13 e13 rfl
  have hz13 := e13.size
  refine Wx.pure hq rfl rfl rfl rfl zas ?_
  refine Wx.fin ?_
  refine zrt ?_
  exact endE_ret [_] ⟨rfl, trivial⟩ ⟨zxc, rfl⟩

abbrev mvc (m : Mv) : List Value := [.int .u8 m.kind, .int .i64 m.no, .int .i64 m.c.key.k, .int .i64 m.c.key.s, .int .i64 m.c.key.o, .int .i64 m.c.val, .int .i64 m.c.lo, .int .i64 m.c.hi]
theorem mvc_len (m : Mv) : (mvc m).length = 8 := rfl
theorem do_at (s : Bs) (hsm : Small s) (hfw : Few s) (m : Mv) (w : World) (hin : BsIn s w) :
    Calls Try.prog 27 #[.agg (bvc s).toArray, .agg (mvc m).toArray] w (Ret fun r w' => Ext [] w w' ∧ ∃ s' : Bs, r = .agg (bvc s').toArray ∧ BsIn s' w' ∧ s'.br = doB s.br m ∧ ∀ g, g < w.heap.size → Off s g → Off s' g) := by
  refine calls_of_Sx (args := [.agg (bvc s).toArray, .agg (mvc m).toArray]) Try.func27 rfl rfl ?_
  by_cases h0 : m.kind = 0
  · have he : doB s.br m = if (forkB s.br m.no).2.2 ≠ 0 then s.br else (forkB s.br m.no).1 := if_pos h0
    by_cases hz : (forkB s.br m.no).2.2 = 0; rotate_left
    · rw [if_pos hz] at he
      refine ztx ?_
      refine Ox.act rfl rfl (acts_box rfl rfl) ?_
      rintro vb2 wb2 ⟨eb2, bb2, rfl, hbb2, hBb2⟩
      first | (have hCb2 : Cells wb2 ⟨bb2, 0, none⟩ [_, _, _, _, _] := hBb2.cells) | have hCb2 := Blk.cellsL hBb2
      have hlb2 := hBb2.lt
      have hzb2 := eb2.size
      refine Ox.act rfl rfl (acts_box rfl rfl) ?_
      rintro vb3 wb3 ⟨eb3, bb3, rfl, hbb3, hBb3⟩
      first | (have hCb3 : Cells wb3 ⟨bb3, 0, none⟩ [_, _, _, _, _, _, _, _] := hBb3.cells) | have hCb3 := Blk.cellsL hBb3
      have hlb3 := hBb3.lt
      have hzb3 := eb3.size
      refine Ox.act rfl rfl (acts_alloc rfl rfl) ?_
      rintro vb4 wb4 ⟨eb4, bb4, rfl, hbb4, hBb4⟩
      first | (have hCb4 : Cells wb4 ⟨bb4, 0, none⟩ [_, _, _, _, _] := hBb4.cells) | have hCb4 := Blk.cellsL hBb4
      have hlb4 := hBb4.lt
      have hzb4 := eb4.size
      refine Ox.fin ?_
      refine ztx ?_
      refine Ox.val rfl rfl zra ?_
      refine Ox.act rfl rfl (acts_alloc rfl rfl) ?_
      rintro vb5 wb5 ⟨eb5, bb5, rfl, hbb5, hBb5⟩
      first | (have hCb5 : Cells wb5 ⟨bb5, 0, none⟩ [_, _, _, _, _] := hBb5.cells) | have hCb5 := Blk.cellsL hBb5
      have hlb5 := hBb5.lt
      have hzb5 := eb5.size
      refine Ox.act rfl rfl (acts_store_all rfl rfl rfl hBb5 rfl rfl rfl (bvc_one s)) ?_
      rintro vs1 ws1 ⟨rfl, qs1, hBs1⟩
      have es1 : Ext [] wb4 ws1 := Ext.renew zxc qs1 (by omega)
      have hzs1 := es1.size
      refine Ox.pure rfl rfl zas ?_
      refine Ox.fin ?_
      refine ztx ?_
      refine Ox.pure rfl rfl zfa ?_
      refine Ox.val rfl rfl zrs ?_
      refine Ox.fin ?_
      refine zbl ?_
      refine ztx ?_
      refine Ox.pure rfl rfl zbc ?_
      refine Ox.pure rfl rfl zas ?_
      refine Ox.fin ?_
      refine zct ?_
      refine ztx ?_
      refine Ox.val rfl rfl zra ?_
      refine Ox.pure rfl rfl zfa ?_
      refine Ox.val rfl rfl zrs ?_
      refine Ox.act rfl rfl (acts_call rfl rfl rfl (fork_at s hsm hfw m.no _ (hin.ext0 zxc))) ?_
      rintro vu4 wu4 ⟨eu4, vv, rfl, ss, rfl, hi', hb', hz'⟩
      have hzu4 := eu4.size
      have hzu4 := eu4.size
      refine Ox.pure rfl rfl zmv ?_
      refine Ox.pure rfl rfl (rp_extract rfl rfl rfl) ?_
      refine Ox.pure rfl rfl (rp_extract rfl rfl rfl) ?_
      refine Ox.pure rfl rfl (rp_extract rfl rfl rfl) ?_
      refine Ox.act rfl rfl (acts_store_all rfl rfl rfl (hBs1.ext (X := []) zxc (by simp)) rfl rfl rfl (bvc_one ss)) ?_
      rintro vs2 ws2 ⟨rfl, qs2, hBs2⟩
      have es2 : Ext [] wb4 ws2 := Ext.renew zxc qs2 (by omega)
      have hzs2 := es2.size
      have hCs2 : Cells ws2 ⟨bb5, 0, none⟩ (bvc ss) := hBs2.cellsL
      refine Ox.pure rfl rfl zas ?_
      refine Ox.fin ?_
      refine ztx ?_
      refine Ox.pure rfl rfl zmv ?_
      refine Ox.pure rfl rfl zbc ?_
      refine Ox.fin ?_
      refine zct ?_
      refine ztx ?_
      refine Ox.val rfl rfl zra ?_
      refine Ox.act rfl rfl (acts_store_all rfl rfl rfl (hBb4.ext (X := []) zxc (by simp)) rfl rfl rfl (bvc_one s)) ?_
      rintro vs12 ws12 ⟨rfl, qs12, hBs12⟩
      have es12 : Ext [] w ws12 := Ext.renew zxc qs12 (by omega)
      refine Ox.fin ?_
      refine zrt ?_
      exact endE_ret [.agg (bvc s).toArray] ⟨⟨⟨bb4, 0, none⟩, rfl, hBs12.cellsL.ldA rfl rfl⟩, trivial⟩ ⟨zxc, by rw [he]; exact ⟨s, rfl, hin.ext0 zxc, rfl, fun _ _ h => h⟩⟩
    · rw [if_neg (fun h => h hz)] at he
      refine ztx ?_
      refine Ox.act rfl rfl (acts_box rfl rfl) ?_
      rintro vb2 wb2 ⟨eb2, bb2, rfl, hbb2, hBb2⟩
      first | (have hCb2 : Cells wb2 ⟨bb2, 0, none⟩ [_, _, _, _, _] := hBb2.cells) | have hCb2 := Blk.cellsL hBb2
      have hlb2 := hBb2.lt
      have hzb2 := eb2.size
      refine Ox.act rfl rfl (acts_box rfl rfl) ?_
      rintro vb3 wb3 ⟨eb3, bb3, rfl, hbb3, hBb3⟩
      first | (have hCb3 : Cells wb3 ⟨bb3, 0, none⟩ [_, _, _, _, _, _, _, _] := hBb3.cells) | have hCb3 := Blk.cellsL hBb3
      have hlb3 := hBb3.lt
      have hzb3 := eb3.size
      refine Ox.act rfl rfl (acts_alloc rfl rfl) ?_
      rintro vb4 wb4 ⟨eb4, bb4, rfl, hbb4, hBb4⟩
      first | (have hCb4 : Cells wb4 ⟨bb4, 0, none⟩ [_, _, _, _, _] := hBb4.cells) | have hCb4 := Blk.cellsL hBb4
      have hlb4 := hBb4.lt
      have hzb4 := eb4.size
      refine Ox.fin ?_
      refine ztx ?_
      refine Ox.val rfl rfl zra ?_
      refine Ox.act rfl rfl (acts_alloc rfl rfl) ?_
      rintro vb5 wb5 ⟨eb5, bb5, rfl, hbb5, hBb5⟩
      first | (have hCb5 : Cells wb5 ⟨bb5, 0, none⟩ [_, _, _, _, _] := hBb5.cells) | have hCb5 := Blk.cellsL hBb5
      have hlb5 := hBb5.lt
      have hzb5 := eb5.size
      refine Ox.act rfl rfl (acts_store_all rfl rfl rfl hBb5 rfl rfl rfl (bvc_one s)) ?_
      rintro vs1 ws1 ⟨rfl, qs1, hBs1⟩
      have es1 : Ext [] wb4 ws1 := Ext.renew zxc qs1 (by omega)
      have hzs1 := es1.size
      refine Ox.pure rfl rfl zas ?_
      refine Ox.fin ?_
      refine ztx ?_
      refine Ox.pure rfl rfl zfa ?_
      refine Ox.val rfl rfl zrs ?_
      refine Ox.fin ?_
      refine zbl ?_
      refine ztx ?_
      refine Ox.pure rfl rfl zbc ?_
      refine Ox.pure rfl rfl zas ?_
      refine Ox.fin ?_
      refine zct ?_
      refine ztx ?_
      refine Ox.val rfl rfl zra ?_
      refine Ox.pure rfl rfl zfa ?_
      refine Ox.val rfl rfl zrs ?_
      refine Ox.act rfl rfl (acts_call rfl rfl rfl (fork_at s hsm hfw m.no _ (hin.ext0 zxc))) ?_
      rintro vu4 wu4 ⟨eu4, vv, rfl, ss, rfl, hi', hb', hz'⟩
      have hzu4 := eu4.size
      have hzu4 := eu4.size
      refine Ox.pure rfl rfl zmv ?_
      refine Ox.pure rfl rfl (rp_extract rfl rfl rfl) ?_
      refine Ox.pure rfl rfl (rp_extract rfl rfl rfl) ?_
      refine Ox.pure rfl rfl (rp_extract rfl rfl rfl) ?_
      refine Ox.act rfl rfl (acts_store_all rfl rfl rfl (hBs1.ext (X := []) zxc (by simp)) rfl rfl rfl (bvc_one ss)) ?_
      rintro vs2 ws2 ⟨rfl, qs2, hBs2⟩
      have es2 : Ext [] wb4 ws2 := Ext.renew zxc qs2 (by omega)
      have hzs2 := es2.size
      have hCs2 : Cells ws2 ⟨bb5, 0, none⟩ (bvc ss) := hBs2.cellsL
      refine Ox.pure rfl rfl zas ?_
      refine Ox.fin ?_
      refine ztx ?_
      refine Ox.pure rfl rfl zmv ?_
      refine Ox.pure rfl rfl zbc ?_
      refine Ox.fin ?_
      refine zcf ?_
      refine zsk ?_
      refine ztx ?_
      refine Ox.val rfl rfl zra ?_
      refine Ox.act rfl rfl (acts_store_all rfl rfl rfl (hBb4.ext (X := []) zxc (by simp)) rfl rfl rfl (bvc_one ss)) ?_
      rintro vs13 ws13 ⟨rfl, qs13, hBs13⟩
      have es13 : Ext [] w ws13 := Ext.renew zxc qs13 (by omega)
      refine Ox.fin ?_
      refine zrt ?_
      exact endE_ret [.agg (bvc ss).toArray] ⟨⟨⟨bb4, 0, none⟩, rfl, hBs13.cellsL.ldA rfl rfl⟩, trivial⟩ ⟨zxc, by rw [he]; exact ⟨ss, rfl, (hi'.keep (hBs1.ext (X := []) zxc (by simp)) (fun h => by have := hz' h; have := hBs1.lt; have := hBb4.lt; omega) qs2).keep (show Blk ws2 bb4 27 (bvc Bs0) from hBb4.ext (X := []) zxc (by simp)) (fun h => by have := hz' h; have := hBs1.lt; have := hBb4.lt; omega) qs13, hb', fun g hg _ h => by have := hz' h; have := hBs1.lt; have := hBb4.lt; omega⟩⟩
  by_cases h1 : m.kind = 1
  · have he : doB s.br m = if (changeB s.br m.no m.c).2 ≠ 0 then s.br else (changeB s.br m.no m.c).1 := (if_neg h0).trans (if_pos h1)
    by_cases hz : (changeB s.br m.no m.c).2 = 0; rotate_left
    · rw [if_pos hz] at he
      refine ztx ?_
      refine Ox.act rfl rfl (acts_box rfl rfl) ?_
      rintro vb2 wb2 ⟨eb2, bb2, rfl, hbb2, hBb2⟩
      first | (have hCb2 : Cells wb2 ⟨bb2, 0, none⟩ [_, _, _, _, _] := hBb2.cells) | have hCb2 := Blk.cellsL hBb2
      have hlb2 := hBb2.lt
      have hzb2 := eb2.size
      refine Ox.act rfl rfl (acts_box rfl rfl) ?_
      rintro vb3 wb3 ⟨eb3, bb3, rfl, hbb3, hBb3⟩
      first | (have hCb3 : Cells wb3 ⟨bb3, 0, none⟩ [_, _, _, _, _, _, _, _] := hBb3.cells) | have hCb3 := Blk.cellsL hBb3
      have hlb3 := hBb3.lt
      have hzb3 := eb3.size
      refine Ox.act rfl rfl (acts_alloc rfl rfl) ?_
      rintro vb4 wb4 ⟨eb4, bb4, rfl, hbb4, hBb4⟩
      first | (have hCb4 : Cells wb4 ⟨bb4, 0, none⟩ [_, _, _, _, _] := hBb4.cells) | have hCb4 := Blk.cellsL hBb4
      have hlb4 := hBb4.lt
      have hzb4 := eb4.size
      refine Ox.fin ?_
      refine ztx ?_
      refine Ox.val rfl rfl zra ?_
      refine Ox.act rfl rfl (acts_alloc rfl rfl) ?_
      rintro vb5 wb5 ⟨eb5, bb5, rfl, hbb5, hBb5⟩
      first | (have hCb5 : Cells wb5 ⟨bb5, 0, none⟩ [_, _, _, _, _] := hBb5.cells) | have hCb5 := Blk.cellsL hBb5
      have hlb5 := hBb5.lt
      have hzb5 := eb5.size
      refine Ox.act rfl rfl (acts_store_all rfl rfl rfl hBb5 rfl rfl rfl (bvc_one s)) ?_
      rintro vs1 ws1 ⟨rfl, qs1, hBs1⟩
      have es1 : Ext [] wb4 ws1 := Ext.renew zxc qs1 (by omega)
      have hzs1 := es1.size
      refine Ox.pure rfl rfl zas ?_
      refine Ox.fin ?_
      refine ztx ?_
      refine Ox.pure rfl rfl zfa ?_
      refine Ox.val rfl rfl zrs ?_
      refine Ox.fin ?_
      refine zbl ?_
      refine ztx ?_
      refine Ox.pure rfl rfl zbc ?_
      refine Ox.pure rfl rfl zas ?_
      refine Ox.fin ?_
      refine zcf ?_
      refine ztx ?_
      refine Ox.pure rfl rfl zbc ?_
      refine Ox.pure rfl rfl zas ?_
      refine Ox.fin ?_
      refine zct ?_
      refine ztx ?_
      refine Ox.val rfl rfl zra ?_
      refine Ox.pure rfl rfl zfa ?_
      refine Ox.val rfl rfl zrs ?_
      refine Ox.pure rfl rfl zfa ?_
      refine Ox.val rfl rfl zra ?_
      refine Ox.act rfl rfl (acts_call rfl rfl rfl (change_br s hsm hfw m.no m.c _ (hin.ext0 zxc))) ?_
      rintro vu4 wu4 ⟨eu4, vv, rfl, ss, rfl, hi', hb', hz'⟩
      have hzu4 := eu4.size
      have hzu4 := eu4.size
      refine Ox.pure rfl rfl zmv ?_
      refine Ox.pure rfl rfl (rp_extract rfl rfl rfl) ?_
      refine Ox.pure rfl rfl (rp_extract rfl rfl rfl) ?_
      refine Ox.act rfl rfl (acts_store_all rfl rfl rfl (hBs1.ext (X := []) zxc (by simp)) rfl rfl rfl (bvc_one ss)) ?_
      rintro vs2 ws2 ⟨rfl, qs2, hBs2⟩
      have es2 : Ext [] wb4 ws2 := Ext.renew zxc qs2 (by omega)
      have hzs2 := es2.size
      have hCs2 : Cells ws2 ⟨bb5, 0, none⟩ (bvc ss) := hBs2.cellsL
      refine Ox.pure rfl rfl zas ?_
      refine Ox.fin ?_
      refine ztx ?_
      refine Ox.pure rfl rfl zmv ?_
      refine Ox.pure rfl rfl zbc ?_
      refine Ox.fin ?_
      refine zct ?_
      refine ztx ?_
      refine Ox.val rfl rfl zra ?_
      refine Ox.act rfl rfl (acts_store_all rfl rfl rfl (hBb4.ext (X := []) zxc (by simp)) rfl rfl rfl (bvc_one s)) ?_
      rintro vs12 ws12 ⟨rfl, qs12, hBs12⟩
      have es12 : Ext [] w ws12 := Ext.renew zxc qs12 (by omega)
      refine Ox.fin ?_
      refine zrt ?_
      exact endE_ret [.agg (bvc s).toArray] ⟨⟨⟨bb4, 0, none⟩, rfl, hBs12.cellsL.ldA rfl rfl⟩, trivial⟩ ⟨zxc, by rw [he]; exact ⟨s, rfl, hin.ext0 zxc, rfl, fun _ _ h => h⟩⟩
    · rw [if_neg (fun h => h hz)] at he
      refine ztx ?_
      refine Ox.act rfl rfl (acts_box rfl rfl) ?_
      rintro vb2 wb2 ⟨eb2, bb2, rfl, hbb2, hBb2⟩
      first | (have hCb2 : Cells wb2 ⟨bb2, 0, none⟩ [_, _, _, _, _] := hBb2.cells) | have hCb2 := Blk.cellsL hBb2
      have hlb2 := hBb2.lt
      have hzb2 := eb2.size
      refine Ox.act rfl rfl (acts_box rfl rfl) ?_
      rintro vb3 wb3 ⟨eb3, bb3, rfl, hbb3, hBb3⟩
      first | (have hCb3 : Cells wb3 ⟨bb3, 0, none⟩ [_, _, _, _, _, _, _, _] := hBb3.cells) | have hCb3 := Blk.cellsL hBb3
      have hlb3 := hBb3.lt
      have hzb3 := eb3.size
      refine Ox.act rfl rfl (acts_alloc rfl rfl) ?_
      rintro vb4 wb4 ⟨eb4, bb4, rfl, hbb4, hBb4⟩
      first | (have hCb4 : Cells wb4 ⟨bb4, 0, none⟩ [_, _, _, _, _] := hBb4.cells) | have hCb4 := Blk.cellsL hBb4
      have hlb4 := hBb4.lt
      have hzb4 := eb4.size
      refine Ox.fin ?_
      refine ztx ?_
      refine Ox.val rfl rfl zra ?_
      refine Ox.act rfl rfl (acts_alloc rfl rfl) ?_
      rintro vb5 wb5 ⟨eb5, bb5, rfl, hbb5, hBb5⟩
      first | (have hCb5 : Cells wb5 ⟨bb5, 0, none⟩ [_, _, _, _, _] := hBb5.cells) | have hCb5 := Blk.cellsL hBb5
      have hlb5 := hBb5.lt
      have hzb5 := eb5.size
      refine Ox.act rfl rfl (acts_store_all rfl rfl rfl hBb5 rfl rfl rfl (bvc_one s)) ?_
      rintro vs1 ws1 ⟨rfl, qs1, hBs1⟩
      have es1 : Ext [] wb4 ws1 := Ext.renew zxc qs1 (by omega)
      have hzs1 := es1.size
      refine Ox.pure rfl rfl zas ?_
      refine Ox.fin ?_
      refine ztx ?_
      refine Ox.pure rfl rfl zfa ?_
      refine Ox.val rfl rfl zrs ?_
      refine Ox.fin ?_
      refine zbl ?_
      refine ztx ?_
      refine Ox.pure rfl rfl zbc ?_
      refine Ox.pure rfl rfl zas ?_
      refine Ox.fin ?_
      refine zcf ?_
      refine ztx ?_
      refine Ox.pure rfl rfl zbc ?_
      refine Ox.pure rfl rfl zas ?_
      refine Ox.fin ?_
      refine zct ?_
      refine ztx ?_
      refine Ox.val rfl rfl zra ?_
      refine Ox.pure rfl rfl zfa ?_
      refine Ox.val rfl rfl zrs ?_
      refine Ox.pure rfl rfl zfa ?_
      refine Ox.val rfl rfl zra ?_
      refine Ox.act rfl rfl (acts_call rfl rfl rfl (change_br s hsm hfw m.no m.c _ (hin.ext0 zxc))) ?_
      rintro vu4 wu4 ⟨eu4, vv, rfl, ss, rfl, hi', hb', hz'⟩
      have hzu4 := eu4.size
      have hzu4 := eu4.size
      refine Ox.pure rfl rfl zmv ?_
      refine Ox.pure rfl rfl (rp_extract rfl rfl rfl) ?_
      refine Ox.pure rfl rfl (rp_extract rfl rfl rfl) ?_
      refine Ox.act rfl rfl (acts_store_all rfl rfl rfl (hBs1.ext (X := []) zxc (by simp)) rfl rfl rfl (bvc_one ss)) ?_
      rintro vs2 ws2 ⟨rfl, qs2, hBs2⟩
      have es2 : Ext [] wb4 ws2 := Ext.renew zxc qs2 (by omega)
      have hzs2 := es2.size
      have hCs2 : Cells ws2 ⟨bb5, 0, none⟩ (bvc ss) := hBs2.cellsL
      refine Ox.pure rfl rfl zas ?_
      refine Ox.fin ?_
      refine ztx ?_
      refine Ox.pure rfl rfl zmv ?_
      refine Ox.pure rfl rfl zbc ?_
      refine Ox.fin ?_
      refine zcf ?_
      refine zsk ?_
      refine ztx ?_
      refine Ox.val rfl rfl zra ?_
      refine Ox.act rfl rfl (acts_store_all rfl rfl rfl (hBb4.ext (X := []) zxc (by simp)) rfl rfl rfl (bvc_one ss)) ?_
      rintro vs13 ws13 ⟨rfl, qs13, hBs13⟩
      have es13 : Ext [] w ws13 := Ext.renew zxc qs13 (by omega)
      refine Ox.fin ?_
      refine zrt ?_
      exact endE_ret [.agg (bvc ss).toArray] ⟨⟨⟨bb4, 0, none⟩, rfl, hBs13.cellsL.ldA rfl rfl⟩, trivial⟩ ⟨zxc, by rw [he]; exact ⟨ss, rfl, (hi'.keep (hBs1.ext (X := []) zxc (by simp)) (fun h => by have := hz' h; have := hBs1.lt; have := hBb4.lt; omega) qs2).keep (show Blk ws2 bb4 27 (bvc Bs0) from hBb4.ext (X := []) zxc (by simp)) (fun h => by have := hz' h; have := hBs1.lt; have := hBb4.lt; omega) qs13, hb', fun g hg _ h => by have := hz' h; have := hBs1.lt; have := hBb4.lt; omega⟩⟩
  by_cases h2 : m.kind = 2
  · have he : doB s.br m = if (mergeB s.br m.no).2.2 ≠ 0 then s.br else (mergeB s.br m.no).1 := (if_neg h0).trans ((if_neg h1).trans (if_pos h2))
    by_cases hz : (mergeB s.br m.no).2.2 = 0; rotate_left
    · rw [if_pos hz] at he
      refine ztx ?_
      refine Ox.act rfl rfl (acts_box rfl rfl) ?_
      rintro vb2 wb2 ⟨eb2, bb2, rfl, hbb2, hBb2⟩
      first | (have hCb2 : Cells wb2 ⟨bb2, 0, none⟩ [_, _, _, _, _] := hBb2.cells) | have hCb2 := Blk.cellsL hBb2
      have hlb2 := hBb2.lt
      have hzb2 := eb2.size
      refine Ox.act rfl rfl (acts_box rfl rfl) ?_
      rintro vb3 wb3 ⟨eb3, bb3, rfl, hbb3, hBb3⟩
      first | (have hCb3 : Cells wb3 ⟨bb3, 0, none⟩ [_, _, _, _, _, _, _, _] := hBb3.cells) | have hCb3 := Blk.cellsL hBb3
      have hlb3 := hBb3.lt
      have hzb3 := eb3.size
      refine Ox.act rfl rfl (acts_alloc rfl rfl) ?_
      rintro vb4 wb4 ⟨eb4, bb4, rfl, hbb4, hBb4⟩
      first | (have hCb4 : Cells wb4 ⟨bb4, 0, none⟩ [_, _, _, _, _] := hBb4.cells) | have hCb4 := Blk.cellsL hBb4
      have hlb4 := hBb4.lt
      have hzb4 := eb4.size
      refine Ox.fin ?_
      refine ztx ?_
      refine Ox.val rfl rfl zra ?_
      refine Ox.act rfl rfl (acts_alloc rfl rfl) ?_
      rintro vb5 wb5 ⟨eb5, bb5, rfl, hbb5, hBb5⟩
      first | (have hCb5 : Cells wb5 ⟨bb5, 0, none⟩ [_, _, _, _, _] := hBb5.cells) | have hCb5 := Blk.cellsL hBb5
      have hlb5 := hBb5.lt
      have hzb5 := eb5.size
      refine Ox.act rfl rfl (acts_store_all rfl rfl rfl hBb5 rfl rfl rfl (bvc_one s)) ?_
      rintro vs1 ws1 ⟨rfl, qs1, hBs1⟩
      have es1 : Ext [] wb4 ws1 := Ext.renew zxc qs1 (by omega)
      have hzs1 := es1.size
      refine Ox.pure rfl rfl zas ?_
      refine Ox.fin ?_
      refine ztx ?_
      refine Ox.pure rfl rfl zfa ?_
      refine Ox.val rfl rfl zrs ?_
      refine Ox.fin ?_
      refine zbl ?_
      refine ztx ?_
      refine Ox.pure rfl rfl zbc ?_
      refine Ox.pure rfl rfl zas ?_
      refine Ox.fin ?_
      refine zcf ?_
      refine ztx ?_
      refine Ox.pure rfl rfl zbc ?_
      refine Ox.pure rfl rfl zas ?_
      refine Ox.fin ?_
      refine zcf ?_
      refine ztx ?_
      refine Ox.pure rfl rfl zbc ?_
      refine Ox.pure rfl rfl zas ?_
      refine Ox.fin ?_
      refine zct ?_
      refine ztx ?_
      refine Ox.val rfl rfl zra ?_
      refine Ox.pure rfl rfl zfa ?_
      refine Ox.val rfl rfl zrs ?_
      refine Ox.act rfl rfl (acts_call rfl rfl rfl (merge_br s hsm hfw m.no _ (hin.ext0 zxc))) ?_
      rintro vu4 wu4 ⟨eu4, vv, pp, AA, cc', rfl, ⟨ss, rfl, hi', hb', hz'⟩, hk'⟩
      have hzu4 := eu4.size
      have hzu4 := eu4.size
      refine Ox.pure rfl rfl zmv ?_
      refine Ox.pure rfl rfl (rp_extract rfl rfl rfl) ?_
      refine Ox.pure rfl rfl (rp_extract rfl rfl rfl) ?_
      refine Ox.pure rfl rfl (rp_extract rfl rfl rfl) ?_
      refine Ox.act rfl rfl (acts_store_all rfl rfl rfl (hBs1.ext (X := []) zxc (by simp)) rfl rfl rfl (bvc_one ss)) ?_
      rintro vs2 ws2 ⟨rfl, qs2, hBs2⟩
      have es2 : Ext [] wb4 ws2 := Ext.renew zxc qs2 (by omega)
      have hzs2 := es2.size
      have hCs2 : Cells ws2 ⟨bb5, 0, none⟩ (bvc ss) := hBs2.cellsL
      refine Ox.pure rfl rfl zas ?_
      refine Ox.fin ?_
      refine ztx ?_
      refine Ox.pure rfl rfl zmv ?_
      refine Ox.pure rfl rfl zbc ?_
      refine Ox.fin ?_
      refine zct ?_
      refine ztx ?_
      refine Ox.val rfl rfl zra ?_
      refine Ox.act rfl rfl (acts_store_all rfl rfl rfl (hBb4.ext (X := []) zxc (by simp)) rfl rfl rfl (bvc_one s)) ?_
      rintro vs12 ws12 ⟨rfl, qs12, hBs12⟩
      have es12 : Ext [] w ws12 := Ext.renew zxc qs12 (by omega)
      refine Ox.fin ?_
      refine zrt ?_
      exact endE_ret [.agg (bvc s).toArray] ⟨⟨⟨bb4, 0, none⟩, rfl, hBs12.cellsL.ldA rfl rfl⟩, trivial⟩ ⟨zxc, by rw [he]; exact ⟨s, rfl, hin.ext0 zxc, rfl, fun _ _ h => h⟩⟩
    · rw [if_neg (fun h => h hz)] at he
      refine ztx ?_
      refine Ox.act rfl rfl (acts_box rfl rfl) ?_
      rintro vb2 wb2 ⟨eb2, bb2, rfl, hbb2, hBb2⟩
      first | (have hCb2 : Cells wb2 ⟨bb2, 0, none⟩ [_, _, _, _, _] := hBb2.cells) | have hCb2 := Blk.cellsL hBb2
      have hlb2 := hBb2.lt
      have hzb2 := eb2.size
      refine Ox.act rfl rfl (acts_box rfl rfl) ?_
      rintro vb3 wb3 ⟨eb3, bb3, rfl, hbb3, hBb3⟩
      first | (have hCb3 : Cells wb3 ⟨bb3, 0, none⟩ [_, _, _, _, _, _, _, _] := hBb3.cells) | have hCb3 := Blk.cellsL hBb3
      have hlb3 := hBb3.lt
      have hzb3 := eb3.size
      refine Ox.act rfl rfl (acts_alloc rfl rfl) ?_
      rintro vb4 wb4 ⟨eb4, bb4, rfl, hbb4, hBb4⟩
      first | (have hCb4 : Cells wb4 ⟨bb4, 0, none⟩ [_, _, _, _, _] := hBb4.cells) | have hCb4 := Blk.cellsL hBb4
      have hlb4 := hBb4.lt
      have hzb4 := eb4.size
      refine Ox.fin ?_
      refine ztx ?_
      refine Ox.val rfl rfl zra ?_
      refine Ox.act rfl rfl (acts_alloc rfl rfl) ?_
      rintro vb5 wb5 ⟨eb5, bb5, rfl, hbb5, hBb5⟩
      first | (have hCb5 : Cells wb5 ⟨bb5, 0, none⟩ [_, _, _, _, _] := hBb5.cells) | have hCb5 := Blk.cellsL hBb5
      have hlb5 := hBb5.lt
      have hzb5 := eb5.size
      refine Ox.act rfl rfl (acts_store_all rfl rfl rfl hBb5 rfl rfl rfl (bvc_one s)) ?_
      rintro vs1 ws1 ⟨rfl, qs1, hBs1⟩
      have es1 : Ext [] wb4 ws1 := Ext.renew zxc qs1 (by omega)
      have hzs1 := es1.size
      refine Ox.pure rfl rfl zas ?_
      refine Ox.fin ?_
      refine ztx ?_
      refine Ox.pure rfl rfl zfa ?_
      refine Ox.val rfl rfl zrs ?_
      refine Ox.fin ?_
      refine zbl ?_
      refine ztx ?_
      refine Ox.pure rfl rfl zbc ?_
      refine Ox.pure rfl rfl zas ?_
      refine Ox.fin ?_
      refine zcf ?_
      refine ztx ?_
      refine Ox.pure rfl rfl zbc ?_
      refine Ox.pure rfl rfl zas ?_
      refine Ox.fin ?_
      refine zcf ?_
      refine ztx ?_
      refine Ox.pure rfl rfl zbc ?_
      refine Ox.pure rfl rfl zas ?_
      refine Ox.fin ?_
      refine zct ?_
      refine ztx ?_
      refine Ox.val rfl rfl zra ?_
      refine Ox.pure rfl rfl zfa ?_
      refine Ox.val rfl rfl zrs ?_
      refine Ox.act rfl rfl (acts_call rfl rfl rfl (merge_br s hsm hfw m.no _ (hin.ext0 zxc))) ?_
      rintro vu4 wu4 ⟨eu4, vv, pp, AA, cc', rfl, ⟨ss, rfl, hi', hb', hz'⟩, hk'⟩
      have hzu4 := eu4.size
      have hzu4 := eu4.size
      refine Ox.pure rfl rfl zmv ?_
      refine Ox.pure rfl rfl (rp_extract rfl rfl rfl) ?_
      refine Ox.pure rfl rfl (rp_extract rfl rfl rfl) ?_
      refine Ox.pure rfl rfl (rp_extract rfl rfl rfl) ?_
      refine Ox.act rfl rfl (acts_store_all rfl rfl rfl (hBs1.ext (X := []) zxc (by simp)) rfl rfl rfl (bvc_one ss)) ?_
      rintro vs2 ws2 ⟨rfl, qs2, hBs2⟩
      have es2 : Ext [] wb4 ws2 := Ext.renew zxc qs2 (by omega)
      have hzs2 := es2.size
      have hCs2 : Cells ws2 ⟨bb5, 0, none⟩ (bvc ss) := hBs2.cellsL
      refine Ox.pure rfl rfl zas ?_
      refine Ox.fin ?_
      refine ztx ?_
      refine Ox.pure rfl rfl zmv ?_
      refine Ox.pure rfl rfl zbc ?_
      refine Ox.fin ?_
      refine zcf ?_
      refine zsk ?_
      refine ztx ?_
      refine Ox.val rfl rfl zra ?_
      refine Ox.act rfl rfl (acts_store_all rfl rfl rfl (hBb4.ext (X := []) zxc (by simp)) rfl rfl rfl (bvc_one ss)) ?_
      rintro vs13 ws13 ⟨rfl, qs13, hBs13⟩
      have es13 : Ext [] w ws13 := Ext.renew zxc qs13 (by omega)
      refine Ox.fin ?_
      refine zrt ?_
      exact endE_ret [.agg (bvc ss).toArray] ⟨⟨⟨bb4, 0, none⟩, rfl, hBs13.cellsL.ldA rfl rfl⟩, trivial⟩ ⟨zxc, by rw [he]; exact ⟨ss, rfl, (hi'.keep (hBs1.ext (X := []) zxc (by simp)) (fun h => by have := hz' h; have := hBs1.lt; have := hBb4.lt; omega) qs2).keep (show Blk ws2 bb4 27 (bvc Bs0) from hBb4.ext (X := []) zxc (by simp)) (fun h => by have := hz' h; have := hBs1.lt; have := hBb4.lt; omega) qs13, hb', fun g hg _ h => by have := hz' h; have := hBs1.lt; have := hBb4.lt; omega⟩⟩
  by_cases h3 : m.kind = 3
  · have he : doB s.br m = if (dropB s.br m.no).2 ≠ 0 then s.br else (dropB s.br m.no).1 := (if_neg h0).trans ((if_neg h1).trans ((if_neg h2).trans (if_pos h3)))
    by_cases hz : (dropB s.br m.no).2 = 0; rotate_left
    · rw [if_pos hz] at he
      refine ztx ?_
      refine Ox.act rfl rfl (acts_box rfl rfl) ?_
      rintro vb2 wb2 ⟨eb2, bb2, rfl, hbb2, hBb2⟩
      first | (have hCb2 : Cells wb2 ⟨bb2, 0, none⟩ [_, _, _, _, _] := hBb2.cells) | have hCb2 := Blk.cellsL hBb2
      have hlb2 := hBb2.lt
      have hzb2 := eb2.size
      refine Ox.act rfl rfl (acts_box rfl rfl) ?_
      rintro vb3 wb3 ⟨eb3, bb3, rfl, hbb3, hBb3⟩
      first | (have hCb3 : Cells wb3 ⟨bb3, 0, none⟩ [_, _, _, _, _, _, _, _] := hBb3.cells) | have hCb3 := Blk.cellsL hBb3
      have hlb3 := hBb3.lt
      have hzb3 := eb3.size
      refine Ox.act rfl rfl (acts_alloc rfl rfl) ?_
      rintro vb4 wb4 ⟨eb4, bb4, rfl, hbb4, hBb4⟩
      first | (have hCb4 : Cells wb4 ⟨bb4, 0, none⟩ [_, _, _, _, _] := hBb4.cells) | have hCb4 := Blk.cellsL hBb4
      have hlb4 := hBb4.lt
      have hzb4 := eb4.size
      refine Ox.fin ?_
      refine ztx ?_
      refine Ox.val rfl rfl zra ?_
      refine Ox.act rfl rfl (acts_alloc rfl rfl) ?_
      rintro vb5 wb5 ⟨eb5, bb5, rfl, hbb5, hBb5⟩
      first | (have hCb5 : Cells wb5 ⟨bb5, 0, none⟩ [_, _, _, _, _] := hBb5.cells) | have hCb5 := Blk.cellsL hBb5
      have hlb5 := hBb5.lt
      have hzb5 := eb5.size
      refine Ox.act rfl rfl (acts_store_all rfl rfl rfl hBb5 rfl rfl rfl (bvc_one s)) ?_
      rintro vs1 ws1 ⟨rfl, qs1, hBs1⟩
      have es1 : Ext [] wb4 ws1 := Ext.renew zxc qs1 (by omega)
      have hzs1 := es1.size
      refine Ox.pure rfl rfl zas ?_
      refine Ox.fin ?_
      refine ztx ?_
      refine Ox.pure rfl rfl zfa ?_
      refine Ox.val rfl rfl zrs ?_
      refine Ox.fin ?_
      refine zbl ?_
      refine ztx ?_
      refine Ox.pure rfl rfl zbc ?_
      refine Ox.pure rfl rfl zas ?_
      refine Ox.fin ?_
      refine zcf ?_
      refine ztx ?_
      refine Ox.pure rfl rfl zbc ?_
      refine Ox.pure rfl rfl zas ?_
      refine Ox.fin ?_
      refine zcf ?_
      refine ztx ?_
      refine Ox.pure rfl rfl zbc ?_
      refine Ox.pure rfl rfl zas ?_
      refine Ox.fin ?_
      refine zcf ?_
      refine ztx ?_
      refine Ox.pure rfl rfl zbc ?_
      refine Ox.pure rfl rfl zas ?_
      refine Ox.fin ?_
      refine zct ?_
      refine ztx ?_
      refine Ox.val rfl rfl zra ?_
      refine Ox.pure rfl rfl zfa ?_
      refine Ox.val rfl rfl zrs ?_
      refine Ox.act rfl rfl (acts_call rfl rfl rfl (drop_at s hsm hfw m.no _ (hin.ext0 zxc))) ?_
      rintro vu4 wu4 ⟨eu4, vv, rfl, ss, rfl, hi', hb', hz'⟩
      have hzu4 := eu4.size
      have hzu4 := eu4.size
      refine Ox.pure rfl rfl zmv ?_
      refine Ox.pure rfl rfl (rp_extract rfl rfl rfl) ?_
      refine Ox.pure rfl rfl (rp_extract rfl rfl rfl) ?_
      refine Ox.act rfl rfl (acts_store_all rfl rfl rfl (hBs1.ext (X := []) zxc (by simp)) rfl rfl rfl (bvc_one ss)) ?_
      rintro vs2 ws2 ⟨rfl, qs2, hBs2⟩
      have es2 : Ext [] wb4 ws2 := Ext.renew zxc qs2 (by omega)
      have hzs2 := es2.size
      have hCs2 : Cells ws2 ⟨bb5, 0, none⟩ (bvc ss) := hBs2.cellsL
      refine Ox.pure rfl rfl zas ?_
      refine Ox.fin ?_
      refine ztx ?_
      refine Ox.pure rfl rfl zmv ?_
      refine Ox.pure rfl rfl zbc ?_
      refine Ox.fin ?_
      refine zct ?_
      refine ztx ?_
      refine Ox.val rfl rfl zra ?_
      refine Ox.act rfl rfl (acts_store_all rfl rfl rfl (hBb4.ext (X := []) zxc (by simp)) rfl rfl rfl (bvc_one s)) ?_
      rintro vs12 ws12 ⟨rfl, qs12, hBs12⟩
      have es12 : Ext [] w ws12 := Ext.renew zxc qs12 (by omega)
      refine Ox.fin ?_
      refine zrt ?_
      exact endE_ret [.agg (bvc s).toArray] ⟨⟨⟨bb4, 0, none⟩, rfl, hBs12.cellsL.ldA rfl rfl⟩, trivial⟩ ⟨zxc, by rw [he]; exact ⟨s, rfl, hin.ext0 zxc, rfl, fun _ _ h => h⟩⟩
    · rw [if_neg (fun h => h hz)] at he
      refine ztx ?_
      refine Ox.act rfl rfl (acts_box rfl rfl) ?_
      rintro vb2 wb2 ⟨eb2, bb2, rfl, hbb2, hBb2⟩
      first | (have hCb2 : Cells wb2 ⟨bb2, 0, none⟩ [_, _, _, _, _] := hBb2.cells) | have hCb2 := Blk.cellsL hBb2
      have hlb2 := hBb2.lt
      have hzb2 := eb2.size
      refine Ox.act rfl rfl (acts_box rfl rfl) ?_
      rintro vb3 wb3 ⟨eb3, bb3, rfl, hbb3, hBb3⟩
      first | (have hCb3 : Cells wb3 ⟨bb3, 0, none⟩ [_, _, _, _, _, _, _, _] := hBb3.cells) | have hCb3 := Blk.cellsL hBb3
      have hlb3 := hBb3.lt
      have hzb3 := eb3.size
      refine Ox.act rfl rfl (acts_alloc rfl rfl) ?_
      rintro vb4 wb4 ⟨eb4, bb4, rfl, hbb4, hBb4⟩
      first | (have hCb4 : Cells wb4 ⟨bb4, 0, none⟩ [_, _, _, _, _] := hBb4.cells) | have hCb4 := Blk.cellsL hBb4
      have hlb4 := hBb4.lt
      have hzb4 := eb4.size
      refine Ox.fin ?_
      refine ztx ?_
      refine Ox.val rfl rfl zra ?_
      refine Ox.act rfl rfl (acts_alloc rfl rfl) ?_
      rintro vb5 wb5 ⟨eb5, bb5, rfl, hbb5, hBb5⟩
      first | (have hCb5 : Cells wb5 ⟨bb5, 0, none⟩ [_, _, _, _, _] := hBb5.cells) | have hCb5 := Blk.cellsL hBb5
      have hlb5 := hBb5.lt
      have hzb5 := eb5.size
      refine Ox.act rfl rfl (acts_store_all rfl rfl rfl hBb5 rfl rfl rfl (bvc_one s)) ?_
      rintro vs1 ws1 ⟨rfl, qs1, hBs1⟩
      have es1 : Ext [] wb4 ws1 := Ext.renew zxc qs1 (by omega)
      have hzs1 := es1.size
      refine Ox.pure rfl rfl zas ?_
      refine Ox.fin ?_
      refine ztx ?_
      refine Ox.pure rfl rfl zfa ?_
      refine Ox.val rfl rfl zrs ?_
      refine Ox.fin ?_
      refine zbl ?_
      refine ztx ?_
      refine Ox.pure rfl rfl zbc ?_
      refine Ox.pure rfl rfl zas ?_
      refine Ox.fin ?_
      refine zcf ?_
      refine ztx ?_
      refine Ox.pure rfl rfl zbc ?_
      refine Ox.pure rfl rfl zas ?_
      refine Ox.fin ?_
      refine zcf ?_
      refine ztx ?_
      refine Ox.pure rfl rfl zbc ?_
      refine Ox.pure rfl rfl zas ?_
      refine Ox.fin ?_
      refine zcf ?_
      refine ztx ?_
      refine Ox.pure rfl rfl zbc ?_
      refine Ox.pure rfl rfl zas ?_
      refine Ox.fin ?_
      refine zct ?_
      refine ztx ?_
      refine Ox.val rfl rfl zra ?_
      refine Ox.pure rfl rfl zfa ?_
      refine Ox.val rfl rfl zrs ?_
      refine Ox.act rfl rfl (acts_call rfl rfl rfl (drop_at s hsm hfw m.no _ (hin.ext0 zxc))) ?_
      rintro vu4 wu4 ⟨eu4, vv, rfl, ss, rfl, hi', hb', hz'⟩
      have hzu4 := eu4.size
      have hzu4 := eu4.size
      refine Ox.pure rfl rfl zmv ?_
      refine Ox.pure rfl rfl (rp_extract rfl rfl rfl) ?_
      refine Ox.pure rfl rfl (rp_extract rfl rfl rfl) ?_
      refine Ox.act rfl rfl (acts_store_all rfl rfl rfl (hBs1.ext (X := []) zxc (by simp)) rfl rfl rfl (bvc_one ss)) ?_
      rintro vs2 ws2 ⟨rfl, qs2, hBs2⟩
      have es2 : Ext [] wb4 ws2 := Ext.renew zxc qs2 (by omega)
      have hzs2 := es2.size
      have hCs2 : Cells ws2 ⟨bb5, 0, none⟩ (bvc ss) := hBs2.cellsL
      refine Ox.pure rfl rfl zas ?_
      refine Ox.fin ?_
      refine ztx ?_
      refine Ox.pure rfl rfl zmv ?_
      refine Ox.pure rfl rfl zbc ?_
      refine Ox.fin ?_
      refine zcf ?_
      refine zsk ?_
      refine ztx ?_
      refine Ox.val rfl rfl zra ?_
      refine Ox.act rfl rfl (acts_store_all rfl rfl rfl (hBb4.ext (X := []) zxc (by simp)) rfl rfl rfl (bvc_one ss)) ?_
      rintro vs13 ws13 ⟨rfl, qs13, hBs13⟩
      have es13 : Ext [] w ws13 := Ext.renew zxc qs13 (by omega)
      refine Ox.fin ?_
      refine zrt ?_
      exact endE_ret [.agg (bvc ss).toArray] ⟨⟨⟨bb4, 0, none⟩, rfl, hBs13.cellsL.ldA rfl rfl⟩, trivial⟩ ⟨zxc, by rw [he]; exact ⟨ss, rfl, (hi'.keep (hBs1.ext (X := []) zxc (by simp)) (fun h => by have := hz' h; have := hBs1.lt; have := hBb4.lt; omega) qs2).keep (show Blk ws2 bb4 27 (bvc Bs0) from hBb4.ext (X := []) zxc (by simp)) (fun h => by have := hz' h; have := hBs1.lt; have := hBb4.lt; omega) qs13, hb', fun g hg _ h => by have := hz' h; have := hBs1.lt; have := hBb4.lt; omega⟩⟩
  have he : doB s.br m = s.br := (if_neg h0).trans ((if_neg h1).trans ((if_neg h2).trans (if_neg h3)))
  refine ztx ?_
  refine Ox.act rfl rfl (acts_box rfl rfl) ?_
  rintro vb2 wb2 ⟨eb2, bb2, rfl, hbb2, hBb2⟩
  first | (have hCb2 : Cells wb2 ⟨bb2, 0, none⟩ [_, _, _, _, _] := hBb2.cells) | have hCb2 := Blk.cellsL hBb2
  have hlb2 := hBb2.lt
  have hzb2 := eb2.size
  refine Ox.act rfl rfl (acts_box rfl rfl) ?_
  rintro vb3 wb3 ⟨eb3, bb3, rfl, hbb3, hBb3⟩
  first | (have hCb3 : Cells wb3 ⟨bb3, 0, none⟩ [_, _, _, _, _, _, _, _] := hBb3.cells) | have hCb3 := Blk.cellsL hBb3
  have hlb3 := hBb3.lt
  have hzb3 := eb3.size
  refine Ox.act rfl rfl (acts_alloc rfl rfl) ?_
  rintro vb4 wb4 ⟨eb4, bb4, rfl, hbb4, hBb4⟩
  first | (have hCb4 : Cells wb4 ⟨bb4, 0, none⟩ [_, _, _, _, _] := hBb4.cells) | have hCb4 := Blk.cellsL hBb4
  have hlb4 := hBb4.lt
  have hzb4 := eb4.size
  refine Ox.fin ?_
  refine ztx ?_
  refine Ox.val rfl rfl zra ?_
  refine Ox.act rfl rfl (acts_alloc rfl rfl) ?_
  rintro vb5 wb5 ⟨eb5, bb5, rfl, hbb5, hBb5⟩
  first | (have hCb5 : Cells wb5 ⟨bb5, 0, none⟩ [_, _, _, _, _] := hBb5.cells) | have hCb5 := Blk.cellsL hBb5
  have hlb5 := hBb5.lt
  have hzb5 := eb5.size
  refine Ox.act rfl rfl (acts_store_all rfl rfl rfl hBb5 rfl rfl rfl (bvc_one s)) ?_
  rintro vs1 ws1 ⟨rfl, qs1, hBs1⟩
  have es1 : Ext [] wb4 ws1 := Ext.renew zxc qs1 (by omega)
  have hzs1 := es1.size
  refine Ox.pure rfl rfl zas ?_
  refine Ox.fin ?_
  refine ztx ?_
  refine Ox.pure rfl rfl zfa ?_
  refine Ox.val rfl rfl zrs ?_
  refine Ox.fin ?_
  refine zbl ?_
  refine ztx ?_
  refine Ox.pure rfl rfl zbc ?_
  refine Ox.pure rfl rfl zas ?_
  refine Ox.fin ?_
  refine zcf ?_
  refine ztx ?_
  refine Ox.pure rfl rfl zbc ?_
  refine Ox.pure rfl rfl zas ?_
  refine Ox.fin ?_
  refine zcf ?_
  refine ztx ?_
  refine Ox.pure rfl rfl zbc ?_
  refine Ox.pure rfl rfl zas ?_
  refine Ox.fin ?_
  refine zcf ?_
  refine ztx ?_
  refine Ox.pure rfl rfl zbc ?_
  refine Ox.pure rfl rfl zas ?_
  refine Ox.fin ?_
  refine zcf ?_
  refine zsk ?_
  refine ztx ?_
  refine Ox.pure rfl rfl zmv ?_
  refine Ox.pure rfl rfl zbc ?_
  refine Ox.fin ?_
  refine zct ?_
  refine ztx ?_
  refine Ox.val rfl rfl zra ?_
  refine Ox.act rfl rfl (acts_store_all rfl rfl rfl (hBb4.ext (X := []) zxc (by simp)) rfl rfl rfl (bvc_one s)) ?_
  rintro vs12 ws12 ⟨rfl, qs12, hBs12⟩
  have es12 : Ext [] w ws12 := Ext.renew zxc qs12 (by omega)
  refine Ox.fin ?_
  refine zrt ?_
  exact endE_ret [.agg (bvc s).toArray] ⟨⟨⟨bb4, 0, none⟩, rfl, hBs12.cellsL.ldA rfl rfl⟩, trivial⟩ ⟨zxc, by rw [he]; exact ⟨s, rfl, hin.ext0 zxc, rfl, fun _ _ h => h⟩⟩

end Go.Proofs.Ytfgckcochilpkaa

/- Branches' walks: the chapter's examples hold. -/
set_option linter.unusedVariables false
set_option maxRecDepth 100000
set_option maxHeartbeats 4000000
set_option linter.unusedSimpArgs false
namespace Go.Proofs.Ytfgckcochilpkaa
open Go Go.Eng

abbrev fx : Fct := ⟨⟨1, 3, 0⟩, 7, 2, 9, 1, 0⟩
abbrev bA : Br := ⟨[], [[]], [-1], [0], [false]⟩
abbrev bB : Br := ⟨[], [[], []], [-1, -1], [0, 0], [false, false]⟩
abbrev bC : Br := ⟨[], [[chg 3 7], []], [-1, -1], [0, 0], [false, false]⟩
abbrev bD1 : Br := ⟨[], [[chg 3 7], [chg 4 8]], [-1, -1], [0, 0], [false, false]⟩
abbrev bD : Br := ⟨[], [[chg 3 7], [chg 4 8, chg 3 9]], [-1, -1], [0, 0], [false, false]⟩
abbrev bX : Br := ⟨[fx], [[chg 3 7], [chg 4 8, chg 3 9]], [-1, -1], [0, 0], [true, false]⟩
abbrev bY : Br := ⟨[fx], [[chg 3 7], [chg 4 8, chg 3 9], []], [-1, -1, 1], [0, 0, 2], [true, false, false]⟩
abbrev bZ : Br := ⟨[fx], [[chg 3 7], [chg 4 8, chg 3 9], []], [-1, -1, 1], [0, 0, 2], [true, true, false]⟩
theorem sn0 : newB [] = (Br0, 0) := by decide +kernel
theorem sn1 : forkB Br0 0 = (Br0, 0, 1) := by decide +kernel
theorem sn2 : mergeB Br0 0 = (Br0, [], 1) := by decide +kernel
theorem sn3 : factsB Br0 (-1) = ([], 0) := by decide +kernel
theorem sn4 : forkB Br0 (-1) = (bA, 0, 0) := by decide +kernel
theorem sn5 : forkB bA (-1) = (bB, 1, 0) := by decide +kernel
theorem sn6 : changeB bB 0 (chg 3 7) = (bC, 0) := by decide +kernel
theorem sn7 : changeB bC 1 (chg 4 8) = (bD1, 0) := by decide +kernel
theorem sn8 : changeB bD1 1 (chg 3 9) = (bD, 0) := by decide +kernel
theorem sn9 : mergeB bD 0 = (bX, [], 0) := by decide +kernel
theorem sn10 : mergeB bX 1 = (Br0, [⟨1, 3, 0⟩], 541) := by decide +kernel
theorem sn11 : forkB bX 1 = (bY, 2, 0) := by decide +kernel
theorem sn12 : dropB bY 1 = (bZ, 0) := by decide +kernel
theorem sn13 : changeB bZ 1 (chg 1 1) = (Br0, 1) := by decide +kernel
theorem sn14 : atB bX (-1) 3 = (7, true) := by decide +kernel
theorem sn15 : atB bX 1 3 = (9, true) := by decide +kernel
theorem sn16 : atB bY 2 4 = (8, true) := by decide +kernel
theorem sn17 : atB bX (-1) 4 = (0, false) := by decide +kernel
theorem bls_lt {s : Bs} {w : World} (h : BsIn s w) (hl : 0 < s.bls.length) : s.A1.block < w.heap.size := h.bls.row.lt (fun h9 => by
  have := rowsV_length blc_len s.bls
  rw [h9] at this; simp at this; omega)
theorem saneB_at (w : World) : Calls Try.prog 10 #[] w (Ret fun r w' => Ext [] w w' ∧ r = .bool true) := by
  refine calls_of_Sx (args := []) Try.func10 rfl rfl ?_
  refine ztx ?_
  refine Ox.pure rfl rfl zas ?_
  refine Ox.fin ?_
  refine ztx ?_
  refine Ox.act rfl rfl (acts_call rfl rfl rfl (new_at [] none ⟨0, 0, none⟩ 0 _ (SlV.nil fc _))) ?_
  rintro vu1 wu1 ⟨eu1, vv1, rfl, s1, rfl, hi1, hb1, hz1⟩
  have hzu1 := eu1.size
  rw [sn0] at hb1 ⊢
  have hb1 : s1.br = Br0 := hb1
  obtain ⟨hm1, hw1⟩ := small_of hb1 (by decide +kernel)
  refine Ox.pure rfl rfl zmv ?_
  refine Ox.pure rfl rfl (rp_extract rfl rfl rfl) ?_
  refine Ox.pure rfl rfl (rp_extract rfl rfl rfl) ?_
  refine Ox.act rfl rfl (acts_alloc rfl rfl) ?_
  rintro va1 wa1 ⟨ea1, ba1, rfl, hba1, hBa1⟩
  first | (have hCa1 : Cells wa1 ⟨ba1, 0, none⟩ [_, _, _, _, _] := hBa1.cells) | have hCa1 := Blk.cellsL hBa1
  have hla1 := hBa1.lt
  have hza1 := ea1.size
  refine Ox.act rfl rfl (acts_store_all rfl rfl rfl hBa1 rfl (by first | rfl | assumption) (by first | rfl | assumption) (by (first | assumption | exact List.all_eq_true.mp rfl | simp [Value.cells, Value.oneCell']))) ?_
  rintro vc1 wc1 ⟨rfl, qc1, hBc1⟩
  have ec1 := Ext.renew ea1 qc1 hba1
  have hzc1 := ec1.size
  have hlc1 := hBc1.lt
  first | (have hCc1 : Cells wc1 ⟨ba1, 0, none⟩ [_, _, _, _, _] := hBc1.cells) | have hCc1 := Blk.cellsL hBc1
  refine Ox.pure rfl rfl zas ?_
  refine Ox.fin ?_
  refine ztx ?_
  refine Ox.val rfl rfl zra ?_
  refine Ox.act rfl rfl (acts_call rfl rfl rfl (fork_at s1 hm1 hw1 (0) _ (hi1.ext0 zxc))) ?_
  rintro vu2 wu2 ⟨eu2, vv2, rfl, s2, rfl, hi2, hb2, hz2⟩
  have hzu2 := eu2.size
  have hy2 := eu2.size
  rw [hb1, sn1] at hb2 ⊢
  have hb2 : s2.br = Br0 := hb2
  obtain ⟨hm2, hw2⟩ := small_of hb2 (by decide +kernel)
  refine Ox.pure rfl rfl zmv ?_
  refine Ox.pure rfl rfl (rp_extract rfl rfl rfl) ?_
  refine Ox.pure rfl rfl (rp_extract rfl rfl rfl) ?_
  refine Ox.pure rfl rfl (rp_extract rfl rfl rfl) ?_
  refine Ox.act rfl rfl (acts_alloc rfl rfl) ?_
  rintro va2 wa2 ⟨ea2, ba2, rfl, hba2, hBa2⟩
  first | (have hCa2 : Cells wa2 ⟨ba2, 0, none⟩ [_, _, _, _, _] := hBa2.cells) | have hCa2 := Blk.cellsL hBa2
  have hla2 := hBa2.lt
  have hza2 := ea2.size
  refine Ox.act rfl rfl (acts_store_all rfl rfl rfl hBa2 rfl (by first | rfl | assumption) (by first | rfl | assumption) (by (first | assumption | exact List.all_eq_true.mp rfl | simp [Value.cells, Value.oneCell']))) ?_
  rintro vc2 wc2 ⟨rfl, qc2, hBc2⟩
  have ec2 := Ext.renew ea2 qc2 hba2
  have hzc2 := ec2.size
  have hlc2 := hBc2.lt
  first | (have hCc2 : Cells wc2 ⟨ba2, 0, none⟩ [_, _, _, _, _] := hBc2.cells) | have hCc2 := Blk.cellsL hBc2
  refine Ox.pure rfl rfl zas ?_
  refine Ox.pure rfl rfl zas ?_
  refine Ox.fin ?_
  refine ztx ?_
  refine Ox.val rfl rfl zra ?_
  refine Ox.act rfl rfl (acts_call rfl rfl rfl (merge_br s1 hm1 hw1 (0) _ (hi1.ext0 zxc))) ?_
  rintro vu3 wu3 ⟨eu3, vv3, p3, A3, c3, rfl, ⟨s3, rfl, hi3, hb3, hz3⟩, hk3⟩
  have hzu3 := eu3.size
  have hy3 := eu3.size
  rw [hb1, sn2] at hk3 hb3 ⊢
  have hb3 : s3.br = Br0 := hb3
  obtain ⟨hm3, hw3⟩ := small_of hb3 (by decide +kernel)
  refine Ox.pure rfl rfl zmv ?_
  refine Ox.pure rfl rfl (rp_extract rfl rfl rfl) ?_
  refine Ox.pure rfl rfl (rp_extract rfl rfl rfl) ?_
  refine Ox.pure rfl rfl (rp_extract rfl rfl rfl) ?_
  refine Ox.act rfl rfl (acts_alloc rfl rfl) ?_
  rintro va3 wa3 ⟨ea3, ba3, rfl, hba3, hBa3⟩
  first | (have hCa3 : Cells wa3 ⟨ba3, 0, none⟩ [_, _, _, _, _] := hBa3.cells) | have hCa3 := Blk.cellsL hBa3
  have hla3 := hBa3.lt
  have hza3 := ea3.size
  refine Ox.act rfl rfl (acts_store_all rfl rfl rfl hBa3 rfl (by first | rfl | assumption) (by first | rfl | assumption) (by (first | assumption | exact List.all_eq_true.mp rfl | simp [Value.cells, Value.oneCell']))) ?_
  rintro vc3 wc3 ⟨rfl, qc3, hBc3⟩
  have ec3 := Ext.renew ea3 qc3 hba3
  have hzc3 := ec3.size
  have hlc3 := hBc3.lt
  first | (have hCc3 : Cells wc3 ⟨ba3, 0, none⟩ [_, _, _, _, _] := hBc3.cells) | have hCc3 := Blk.cellsL hBc3
  refine Ox.pure rfl rfl zas ?_
  refine Ox.pure rfl rfl zas ?_
  refine Ox.fin ?_
  refine ztx ?_
  refine Ox.val rfl rfl zra ?_
  refine Ox.act rfl rfl (acts_call rfl rfl rfl (facts_br s1 hm1 (-1) _ (hi1.ext0 zxc))) ?_
  rintro v1 w1 ⟨e1, p4, A4, c4, rfl, hs4⟩
  have hz1 := e1.size
  rw [hb1, sn3] at hs4 ⊢
  refine Ox.pure rfl rfl zmv ?_
  refine Ox.pure rfl rfl (rp_extract rfl rfl rfl) ?_
  refine Ox.pure rfl rfl (rp_extract rfl rfl rfl) ?_
  refine Ox.pure rfl rfl zas ?_
  refine Ox.pure rfl rfl zas ?_
  refine Ox.fin ?_
  refine ztx ?_
  refine Ox.val rfl rfl zra ?_
  refine Ox.act rfl rfl (acts_call rfl rfl rfl (fork_at s1 hm1 hw1 (-1) _ (hi1.ext0 zxc))) ?_
  rintro vu5 wu5 ⟨eu5, vv5, rfl, s5, rfl, hi5, hb5, hz5⟩
  have hzu5 := eu5.size
  have hy5 := eu5.size
  rw [hb1, sn4] at hb5 ⊢
  have hb5 : s5.br = bA := hb5
  obtain ⟨hm5, hw5⟩ := small_of hb5 (by decide +kernel)
  refine Ox.pure rfl rfl zmv ?_
  refine Ox.pure rfl rfl (rp_extract rfl rfl rfl) ?_
  refine Ox.pure rfl rfl (rp_extract rfl rfl rfl) ?_
  refine Ox.pure rfl rfl (rp_extract rfl rfl rfl) ?_
  refine Ox.act rfl rfl (acts_alloc rfl rfl) ?_
  rintro va5 wa5 ⟨ea5, ba5, rfl, hba5, hBa5⟩
  first | (have hCa5 : Cells wa5 ⟨ba5, 0, none⟩ [_, _, _, _, _] := hBa5.cells) | have hCa5 := Blk.cellsL hBa5
  have hla5 := hBa5.lt
  have hza5 := ea5.size
  refine Ox.act rfl rfl (acts_store_all rfl rfl rfl hBa5 rfl (by first | rfl | assumption) (by first | rfl | assumption) (by (first | assumption | exact List.all_eq_true.mp rfl | simp [Value.cells, Value.oneCell']))) ?_
  rintro vc5 wc5 ⟨rfl, qc5, hBc5⟩
  have ec5 := Ext.renew ea5 qc5 hba5
  have hzc5 := ec5.size
  have hlc5 := hBc5.lt
  first | (have hCc5 : Cells wc5 ⟨ba5, 0, none⟩ [_, _, _, _, _] := hBc5.cells) | have hCc5 := Blk.cellsL hBc5
  refine Ox.pure rfl rfl zas ?_
  refine Ox.pure rfl rfl zas ?_
  refine Ox.fin ?_
  refine ztx ?_
  refine Ox.val rfl rfl zra ?_
  refine Ox.act rfl rfl (acts_call rfl rfl rfl (fork_at s5 hm5 hw5 (-1) _ (hi5.ext0 zxc))) ?_
  rintro vu6 wu6 ⟨eu6, vv6, rfl, s6, rfl, hi6, hb6, hz6⟩
  have hzu6 := eu6.size
  have hy6 := eu6.size
  rw [hb5, sn5] at hb6 ⊢
  have hb6 : s6.br = bB := hb6
  obtain ⟨hm6, hw6⟩ := small_of hb6 (by decide +kernel)
  refine Ox.pure rfl rfl zmv ?_
  refine Ox.pure rfl rfl (rp_extract rfl rfl rfl) ?_
  refine Ox.pure rfl rfl (rp_extract rfl rfl rfl) ?_
  refine Ox.pure rfl rfl (rp_extract rfl rfl rfl) ?_
  refine Ox.act rfl rfl (acts_alloc rfl rfl) ?_
  rintro va6 wa6 ⟨ea6, ba6, rfl, hba6, hBa6⟩
  first | (have hCa6 : Cells wa6 ⟨ba6, 0, none⟩ [_, _, _, _, _] := hBa6.cells) | have hCa6 := Blk.cellsL hBa6
  have hla6 := hBa6.lt
  have hza6 := ea6.size
  refine Ox.act rfl rfl (acts_store_all rfl rfl rfl hBa6 rfl (by first | rfl | assumption) (by first | rfl | assumption) (by (first | assumption | exact List.all_eq_true.mp rfl | simp [Value.cells, Value.oneCell']))) ?_
  rintro vc6 wc6 ⟨rfl, qc6, hBc6⟩
  have ec6 := Ext.renew ea6 qc6 hba6
  have hzc6 := ec6.size
  have hlc6 := hBc6.lt
  first | (have hCc6 : Cells wc6 ⟨ba6, 0, none⟩ [_, _, _, _, _] := hBc6.cells) | have hCc6 := Blk.cellsL hBc6
  refine Ox.pure rfl rfl zas ?_
  refine Ox.pure rfl rfl zas ?_
  refine Ox.fin ?_
  refine Sx.seq (Sx.upto (fun E' w' => ∃ (s7 : Bs) (b7 : Nat), (∀ t u, get [(2, .int .i64 0), (5, .int .i64 1), (8, .int .i64 1), (9, .slice p4 0 c4), (10, .int .i64 0), (12, .int .i64 0), (13, .int .i64 0), (15, .int .i64 1), (16, .int .i64 0), (17, .pointer (some ⟨b7, 0, none⟩)), (18, .int .i64 0)] t = some u → get E' t = some u) ∧ Ext [] wc6 w' ∧ wc6.heap.size ≤ b7 ∧ Blk w' b7 27 (bvc s7) ∧ BsIn s7 w' ∧ s7.br = bC) ?_ ?_)
  · skip
    (repeat refine Sx.seq ?_)
    refine Sx.walkR rfl (fun _ _ _ _ h => h) [0] [0, 3, 4, 5, 8] (8) (by kernel_rfl) ?_
    intro hq w2 e2; have hz2 := e2.size
    refine Wx.val hq rfl rfl rfl rfl ([]) zra ?_
    refine Wx.fork (i := 1) (j := 6) (by kernel_rfl) ?_ ?_
    · refine Go.Eng.Br.mk [(0, [], w2)] rfl rfl rfl ([]) (.keep (fun y hy => .inl hy) (PendK.nil)) (acts_call rfl rfl rfl (lawChange 3 7 _)) (fun _ _ h => h.1) [] (7) (by kernel_rfl) ?_
      rintro v3 w3 ⟨e3, rfl⟩
      have hz3 := e3.size
      refine Wx.fork (i := 2) (j := 6) (by kernel_rfl) ?_ ?_
      · refine Go.Eng.Br.mk [] rfl rfl rfl ([]) (.drop (by kernel_rfl) (PendK.nil)) (acts_call rfl rfl rfl (change_br s6 hm6 hw6 (0) (chg 3 7) _ (hi6.ext0 zxc))) (fun _ _ h => h.1) [3, 4, 5, 6, 7, 8] (0) (by kernel_rfl) ?_
        rintro vu7 wu7 ⟨eu7, vv7, rfl, s7, rfl, hi7, hb7, hz7⟩
        have hzu7 := eu7.size
        have hy7 := eu7.size
        rw [hb6, sn6] at hb7 ⊢
        have hb7 : s7.br = bC := hb7
        obtain ⟨hm7, hw7⟩ := small_of hb7 (by decide +kernel)
        refine Wx.pure hq rfl rfl rfl rfl zmv ?_
        refine Wx.pure hq rfl rfl rfl rfl (rp_extract rfl rfl rfl) ?_
        refine Wx.pure hq rfl rfl rfl rfl (rp_extract rfl rfl rfl) ?_
        refine Wx.actNew rfl rfl rfl rfl (acts_alloc rfl rfl) ?_
        rintro val7 wal7 eal7 ⟨bal7, rfl, hbal7, hBal7⟩
        first | (have hCal7 : Cells wal7 ⟨bal7, 0, none⟩ [_, _, _, _, _] := hBal7.cells) | have hCal7 := Blk.cellsL hBal7
        have hlal7 := hBal7.lt
        have hzal7 := eal7.size
        refine Wx.actLast rfl rfl rfl rfl (by kernel_rfl) (acts_store_all rfl rfl rfl (hBal7.ext (X := []) zxc (by simp)) rfl rfl rfl (by (first | assumption | exact List.all_eq_true.mp rfl | simp [Value.cells, Value.oneCell']))) ?_
        rintro vc7 wc7 ⟨rfl, qc7, hBc7⟩
        have hl9 := hBal7.lt
        have hiT := (hi7.ext0 zxc).keep (s0 := Bs0) (hBal7.ext (X := []) zxc (by simp)) (fun h => by have h1 := hz7 h; have h2 := bls_lt hi7 h; omega) qc7
        refine Wx.pure hq rfl rfl rfl rfl zas ?_
        refine Wx.fin ?_
        exact ⟨s7, bal7, sub_cons rfl (sub_cons rfl (sub_cons rfl (sub_cons rfl (sub_cons rfl (sub_cons rfl (sub_cons rfl (sub_cons rfl (sub_cons rfl (sub_cons rfl (sub_cons rfl sub_nil)))))))))), Ext.renew zxc qc7 (by omega), by omega, hBc7, hiT, hb7⟩
      · refine Go.Eng.Br.mk [(0, [], w2)] rfl rfl rfl ([]) (.keep (fun y hy => .inl hy) (PendK.nil)) (acts_alloc rfl rfl) (fun _ _ h => h.1) [2, 3, 4, 5, 7, 8] (0) (by kernel_rfl) ?_
        rintro val7 wal7 ⟨eal7, bal7, rfl, hbal7, hBal7⟩
        first | (have hCal7 : Cells wal7 ⟨bal7, 0, none⟩ [_, _, _, _, _] := hBal7.cells) | have hCal7 := Blk.cellsL hBal7
        have hlal7 := hBal7.lt
        have hzal7 := eal7.size
        refine Wx.actNew rfl rfl rfl rfl (acts_call rfl rfl rfl (change_br s6 hm6 hw6 (0) (chg 3 7) _ (hi6.ext0 zxc))) ?_
        rintro vu7 wu7 eu7 ⟨vv7, rfl, s7, rfl, hi7, hb7, hz7⟩
        have hzu7 := eu7.size
        have hy7 := eu7.size
        rw [hb6, sn6] at hb7 ⊢
        have hb7 : s7.br = bC := hb7
        obtain ⟨hm7, hw7⟩ := small_of hb7 (by decide +kernel)
        refine Wx.pure hq rfl rfl rfl rfl zmv ?_
        refine Wx.pure hq rfl rfl rfl rfl (rp_extract rfl rfl rfl) ?_
        refine Wx.pure hq rfl rfl rfl rfl (rp_extract rfl rfl rfl) ?_
        refine Wx.actLast rfl rfl rfl rfl (by kernel_rfl) (acts_store_all rfl rfl rfl (hBal7.ext (X := []) zxc (by simp)) rfl rfl rfl (by (first | assumption | exact List.all_eq_true.mp rfl | simp [Value.cells, Value.oneCell']))) ?_
        rintro vc7 wc7 ⟨rfl, qc7, hBc7⟩
        have hl9 := hBal7.lt
        have hiT := (hi7.ext0 zxc).keep (s0 := Bs0) (hBal7.ext (X := []) zxc (by simp)) (fun h => by have h1 := hz7 h; have h2 := bls_lt hi7 h; omega) qc7
        refine Wx.pure hq rfl rfl rfl rfl zas ?_
        refine Wx.fin ?_
        exact ⟨s7, bal7, sub_cons rfl (sub_cons rfl (sub_cons rfl (sub_cons rfl (sub_cons rfl (sub_cons rfl (sub_cons rfl (sub_cons rfl (sub_cons rfl (sub_cons rfl (sub_cons rfl sub_nil)))))))))), Ext.renew zxc qc7 (by omega), by omega, hBc7, hiT, hb7⟩
    · refine Go.Eng.Br.mk [(0, [], w2)] rfl rfl rfl ([]) (.keep (fun y hy => .inl hy) (PendK.nil)) (acts_alloc rfl rfl) (fun _ _ h => h.1) [1, 2, 3, 4, 5, 7, 8] (0) (by kernel_rfl) ?_
      rintro val7 wal7 ⟨eal7, bal7, rfl, hbal7, hBal7⟩
      first | (have hCal7 : Cells wal7 ⟨bal7, 0, none⟩ [_, _, _, _, _] := hBal7.cells) | have hCal7 := Blk.cellsL hBal7
      have hlal7 := hBal7.lt
      have hzal7 := eal7.size
      refine Wx.actNew rfl rfl rfl rfl (acts_call rfl rfl rfl (lawChange 3 7 _)) ?_
      rintro v4 w4 e4 rfl
      have hz4 := e4.size
      refine Wx.actNew rfl rfl rfl rfl (acts_call rfl rfl rfl (change_br s6 hm6 hw6 (0) (chg 3 7) _ (hi6.ext0 zxc))) ?_
      rintro vu7 wu7 eu7 ⟨vv7, rfl, s7, rfl, hi7, hb7, hz7⟩
      have hzu7 := eu7.size
      have hy7 := eu7.size
      rw [hb6, sn6] at hb7 ⊢
      have hb7 : s7.br = bC := hb7
      obtain ⟨hm7, hw7⟩ := small_of hb7 (by decide +kernel)
      refine Wx.pure hq rfl rfl rfl rfl zmv ?_
      refine Wx.pure hq rfl rfl rfl rfl (rp_extract rfl rfl rfl) ?_
      refine Wx.pure hq rfl rfl rfl rfl (rp_extract rfl rfl rfl) ?_
      refine Wx.actLast rfl rfl rfl rfl (by kernel_rfl) (acts_store_all rfl rfl rfl (hBal7.ext (X := []) zxc (by simp)) rfl rfl rfl (by (first | assumption | exact List.all_eq_true.mp rfl | simp [Value.cells, Value.oneCell']))) ?_
      rintro vc7 wc7 ⟨rfl, qc7, hBc7⟩
      have hl9 := hBal7.lt
      have hiT := (hi7.ext0 zxc).keep (s0 := Bs0) (hBal7.ext (X := []) zxc (by simp)) (fun h => by have h1 := hz7 h; have h2 := bls_lt hi7 h; omega) qc7
      refine Wx.pure hq rfl rfl rfl rfl zas ?_
      refine Wx.fin ?_
      exact ⟨s7, bal7, sub_cons rfl (sub_cons rfl (sub_cons rfl (sub_cons rfl (sub_cons rfl (sub_cons rfl (sub_cons rfl (sub_cons rfl (sub_cons rfl (sub_cons rfl (sub_cons rfl sub_nil)))))))))), Ext.renew zxc qc7 (by omega), by omega, hBc7, hiT, hb7⟩
  rintro E' wm7 ⟨s7, b7, hsub, em7, hbb7, hB7, hi7, hb7⟩
  refine thenE_normal (Sx.weaken ?_ hsub)
  have hzm7 := em7.size
  have hC7 : Cells wm7 ⟨b7, 0, none⟩ (bvc s7) := hB7.cells
  obtain ⟨hm7, hw7⟩ := small_of hb7 (by decide +kernel)
  refine Sx.seq (Sx.upto (fun E' w' => ∃ (s8 : Bs) (b8 : Nat), (∀ t u, get [(2, .int .i64 0), (5, .int .i64 1), (8, .int .i64 1), (9, .slice p4 0 c4), (10, .int .i64 0), (12, .int .i64 0), (13, .int .i64 0), (15, .int .i64 1), (16, .int .i64 0), (18, .int .i64 0), (19, .pointer (some ⟨b8, 0, none⟩)), (20, .int .i64 0)] t = some u → get E' t = some u) ∧ Ext [] wm7 w' ∧ wm7.heap.size ≤ b8 ∧ Blk w' b8 27 (bvc s8) ∧ BsIn s8 w' ∧ s8.br = bD1) ?_ ?_)
  · skip
    (repeat refine Sx.seq ?_)
    refine Sx.walkR rfl (fun _ _ _ _ h => h) [0] [0, 3, 4, 5, 8] (8) (by kernel_rfl) ?_
    intro hq w5 e5; have hz5 := e5.size
    refine Wx.val hq rfl rfl rfl rfl ([]) zra ?_
    refine Wx.fork (i := 1) (j := 6) (by kernel_rfl) ?_ ?_
    · refine Go.Eng.Br.mk [(0, [], w5)] rfl rfl rfl ([]) (.keep (fun y hy => .inl hy) (PendK.nil)) (acts_call rfl rfl rfl (lawChange 4 8 _)) (fun _ _ h => h.1) [] (7) (by kernel_rfl) ?_
      rintro v6 w6 ⟨e6, rfl⟩
      have hz6 := e6.size
      refine Wx.fork (i := 2) (j := 6) (by kernel_rfl) ?_ ?_
      · refine Go.Eng.Br.mk [] rfl rfl rfl ([]) (.drop (by kernel_rfl) (PendK.nil)) (acts_call rfl rfl rfl (change_br s7 hm7 hw7 (1) (chg 4 8) _ (hi7.ext0 zxc))) (fun _ _ h => h.1) [3, 4, 5, 6, 7, 8] (0) (by kernel_rfl) ?_
        rintro vu8 wu8 ⟨eu8, vv8, rfl, s8, rfl, hi8, hb8, hz8⟩
        have hzu8 := eu8.size
        have hy8 := eu8.size
        rw [hb7, sn7] at hb8 ⊢
        have hb8 : s8.br = bD1 := hb8
        obtain ⟨hm8, hw8⟩ := small_of hb8 (by decide +kernel)
        refine Wx.pure hq rfl rfl rfl rfl zmv ?_
        refine Wx.pure hq rfl rfl rfl rfl (rp_extract rfl rfl rfl) ?_
        refine Wx.pure hq rfl rfl rfl rfl (rp_extract rfl rfl rfl) ?_
        refine Wx.actNew rfl rfl rfl rfl (acts_alloc rfl rfl) ?_
        rintro val8 wal8 eal8 ⟨bal8, rfl, hbal8, hBal8⟩
        first | (have hCal8 : Cells wal8 ⟨bal8, 0, none⟩ [_, _, _, _, _] := hBal8.cells) | have hCal8 := Blk.cellsL hBal8
        have hlal8 := hBal8.lt
        have hzal8 := eal8.size
        refine Wx.actLast rfl rfl rfl rfl (by kernel_rfl) (acts_store_all rfl rfl rfl (hBal8.ext (X := []) zxc (by simp)) rfl rfl rfl (by (first | assumption | exact List.all_eq_true.mp rfl | simp [Value.cells, Value.oneCell']))) ?_
        rintro vc8 wc8 ⟨rfl, qc8, hBc8⟩
        have hl9 := hBal8.lt
        have hiT := (hi8.ext0 zxc).keep (s0 := Bs0) (hBal8.ext (X := []) zxc (by simp)) (fun h => by have h1 := hz8 h; have h2 := bls_lt hi8 h; omega) qc8
        refine Wx.pure hq rfl rfl rfl rfl zas ?_
        refine Wx.fin ?_
        exact ⟨s8, bal8, sub_cons rfl (sub_cons rfl (sub_cons rfl (sub_cons rfl (sub_cons rfl (sub_cons rfl (sub_cons rfl (sub_cons rfl (sub_cons rfl (sub_cons rfl (sub_cons rfl (sub_cons rfl sub_nil))))))))))), Ext.renew zxc qc8 (by omega), by omega, hBc8, hiT, hb8⟩
      · refine Go.Eng.Br.mk [(0, [], w5)] rfl rfl rfl ([]) (.keep (fun y hy => .inl hy) (PendK.nil)) (acts_alloc rfl rfl) (fun _ _ h => h.1) [2, 3, 4, 5, 7, 8] (0) (by kernel_rfl) ?_
        rintro val8 wal8 ⟨eal8, bal8, rfl, hbal8, hBal8⟩
        first | (have hCal8 : Cells wal8 ⟨bal8, 0, none⟩ [_, _, _, _, _] := hBal8.cells) | have hCal8 := Blk.cellsL hBal8
        have hlal8 := hBal8.lt
        have hzal8 := eal8.size
        refine Wx.actNew rfl rfl rfl rfl (acts_call rfl rfl rfl (change_br s7 hm7 hw7 (1) (chg 4 8) _ (hi7.ext0 zxc))) ?_
        rintro vu8 wu8 eu8 ⟨vv8, rfl, s8, rfl, hi8, hb8, hz8⟩
        have hzu8 := eu8.size
        have hy8 := eu8.size
        rw [hb7, sn7] at hb8 ⊢
        have hb8 : s8.br = bD1 := hb8
        obtain ⟨hm8, hw8⟩ := small_of hb8 (by decide +kernel)
        refine Wx.pure hq rfl rfl rfl rfl zmv ?_
        refine Wx.pure hq rfl rfl rfl rfl (rp_extract rfl rfl rfl) ?_
        refine Wx.pure hq rfl rfl rfl rfl (rp_extract rfl rfl rfl) ?_
        refine Wx.actLast rfl rfl rfl rfl (by kernel_rfl) (acts_store_all rfl rfl rfl (hBal8.ext (X := []) zxc (by simp)) rfl rfl rfl (by (first | assumption | exact List.all_eq_true.mp rfl | simp [Value.cells, Value.oneCell']))) ?_
        rintro vc8 wc8 ⟨rfl, qc8, hBc8⟩
        have hl9 := hBal8.lt
        have hiT := (hi8.ext0 zxc).keep (s0 := Bs0) (hBal8.ext (X := []) zxc (by simp)) (fun h => by have h1 := hz8 h; have h2 := bls_lt hi8 h; omega) qc8
        refine Wx.pure hq rfl rfl rfl rfl zas ?_
        refine Wx.fin ?_
        exact ⟨s8, bal8, sub_cons rfl (sub_cons rfl (sub_cons rfl (sub_cons rfl (sub_cons rfl (sub_cons rfl (sub_cons rfl (sub_cons rfl (sub_cons rfl (sub_cons rfl (sub_cons rfl (sub_cons rfl sub_nil))))))))))), Ext.renew zxc qc8 (by omega), by omega, hBc8, hiT, hb8⟩
    · refine Go.Eng.Br.mk [(0, [], w5)] rfl rfl rfl ([]) (.keep (fun y hy => .inl hy) (PendK.nil)) (acts_alloc rfl rfl) (fun _ _ h => h.1) [1, 2, 3, 4, 5, 7, 8] (0) (by kernel_rfl) ?_
      rintro val8 wal8 ⟨eal8, bal8, rfl, hbal8, hBal8⟩
      first | (have hCal8 : Cells wal8 ⟨bal8, 0, none⟩ [_, _, _, _, _] := hBal8.cells) | have hCal8 := Blk.cellsL hBal8
      have hlal8 := hBal8.lt
      have hzal8 := eal8.size
      refine Wx.actNew rfl rfl rfl rfl (acts_call rfl rfl rfl (lawChange 4 8 _)) ?_
      rintro v7 w7 e7 rfl
      have hz7 := e7.size
      refine Wx.actNew rfl rfl rfl rfl (acts_call rfl rfl rfl (change_br s7 hm7 hw7 (1) (chg 4 8) _ (hi7.ext0 zxc))) ?_
      rintro vu8 wu8 eu8 ⟨vv8, rfl, s8, rfl, hi8, hb8, hz8⟩
      have hzu8 := eu8.size
      have hy8 := eu8.size
      rw [hb7, sn7] at hb8 ⊢
      have hb8 : s8.br = bD1 := hb8
      obtain ⟨hm8, hw8⟩ := small_of hb8 (by decide +kernel)
      refine Wx.pure hq rfl rfl rfl rfl zmv ?_
      refine Wx.pure hq rfl rfl rfl rfl (rp_extract rfl rfl rfl) ?_
      refine Wx.pure hq rfl rfl rfl rfl (rp_extract rfl rfl rfl) ?_
      refine Wx.actLast rfl rfl rfl rfl (by kernel_rfl) (acts_store_all rfl rfl rfl (hBal8.ext (X := []) zxc (by simp)) rfl rfl rfl (by (first | assumption | exact List.all_eq_true.mp rfl | simp [Value.cells, Value.oneCell']))) ?_
      rintro vc8 wc8 ⟨rfl, qc8, hBc8⟩
      have hl9 := hBal8.lt
      have hiT := (hi8.ext0 zxc).keep (s0 := Bs0) (hBal8.ext (X := []) zxc (by simp)) (fun h => by have h1 := hz8 h; have h2 := bls_lt hi8 h; omega) qc8
      refine Wx.pure hq rfl rfl rfl rfl zas ?_
      refine Wx.fin ?_
      exact ⟨s8, bal8, sub_cons rfl (sub_cons rfl (sub_cons rfl (sub_cons rfl (sub_cons rfl (sub_cons rfl (sub_cons rfl (sub_cons rfl (sub_cons rfl (sub_cons rfl (sub_cons rfl (sub_cons rfl sub_nil))))))))))), Ext.renew zxc qc8 (by omega), by omega, hBc8, hiT, hb8⟩
  rintro E' wm8 ⟨s8, b8, hsub, em8, hbb8, hB8, hi8, hb8⟩
  refine thenE_normal (Sx.weaken ?_ hsub)
  have hzm8 := em8.size
  have hC8 : Cells wm8 ⟨b8, 0, none⟩ (bvc s8) := hB8.cells
  obtain ⟨hm8, hw8⟩ := small_of hb8 (by decide +kernel)
  (repeat refine Sx.seq ?_)
  refine Sx.walkR rfl (fun _ _ _ _ h => h) [0, 1, 2, 3, 4, 5, 6, 7] [0, 3, 4, 5, 7] (0) (by kernel_rfl) ?_
  intro hq w8 e8; have hz8 := e8.size
  refine Wx.val hq rfl rfl rfl rfl ([]) zra ?_
  refine Wx.actNew rfl rfl rfl rfl (acts_call rfl rfl rfl (lawChange 3 9 _)) ?_
  rintro v9 w9 e9 rfl
  have hz9 := e9.size
  refine Wx.actNew rfl rfl rfl rfl (acts_call rfl rfl rfl (change_br s8 hm8 hw8 (1) (chg 3 9) _ (hi8.ext0 zxc))) ?_
  rintro vu9 wu9 eu9 ⟨vv9, rfl, s9, rfl, hi9, hb9, hz9⟩
  have hzu9 := eu9.size
  have hy9 := eu9.size
  rw [hb8, sn8] at hb9 ⊢
  have hb9 : s9.br = bD := hb9
  obtain ⟨hm9, hw9⟩ := small_of hb9 (by decide +kernel)
  refine Wx.pure hq rfl rfl rfl rfl zmv ?_
  refine Wx.pure hq rfl rfl rfl rfl (rp_extract rfl rfl rfl) ?_
  refine Wx.pure hq rfl rfl rfl rfl (rp_extract rfl rfl rfl) ?_
  refine Wx.actLast rfl rfl rfl rfl (by kernel_rfl) (acts_store_all rfl rfl rfl (hB8.ext (X := []) zxc (by simp)) rfl rfl rfl (by (first | assumption | exact List.all_eq_true.mp rfl | simp [Value.cells, Value.oneCell']))) ?_
  rintro vc9 wc9 ⟨rfl, qc9, hBc9⟩
  have ec9 : Ext [] wm7 wc9 := Ext.renew zxc qc9 (by omega)
  have hzc9 := ec9.size
  have hCc9 : Cells wc9 ⟨b8, 0, none⟩ (bvc s9) := hBc9.cellsL
  have hi9 := (hi9.ext0 zxc).keep (s0 := s8) (hB8.ext (X := []) zxc (by simp)) (fun h => by have := hz9 h; have := hB8.lt; omega) qc9
  refine Wx.pure hq rfl rfl rfl rfl zas ?_
  refine Wx.fin ?_
  refine ztx ?_
  refine Ox.val rfl rfl zra ?_
  refine Ox.act rfl rfl (acts_call rfl rfl rfl (merge_br s9 hm9 hw9 (0) _ (hi9.ext0 zxc))) ?_
  rintro vu10 wu10 ⟨eu10, vv10, p10, A10, c10, rfl, ⟨s10, rfl, hi10, hb10, hz10⟩, hk10⟩
  have hzu10 := eu10.size
  have hy10 := eu10.size
  rw [hb9, sn9] at hk10 hb10 ⊢
  have hb10 : s10.br = bX := hb10
  obtain ⟨hm10, hw10⟩ := small_of hb10 (by decide +kernel)
  refine Ox.pure rfl rfl zmv ?_
  refine Ox.pure rfl rfl (rp_extract rfl rfl rfl) ?_
  refine Ox.pure rfl rfl (rp_extract rfl rfl rfl) ?_
  refine Ox.pure rfl rfl (rp_extract rfl rfl rfl) ?_
  refine Ox.act rfl rfl (acts_alloc rfl rfl) ?_
  rintro va10 wa10 ⟨ea10, ba10, rfl, hba10, hBa10⟩
  first | (have hCa10 : Cells wa10 ⟨ba10, 0, none⟩ [_, _, _, _, _] := hBa10.cells) | have hCa10 := Blk.cellsL hBa10
  have hla10 := hBa10.lt
  have hza10 := ea10.size
  refine Ox.act rfl rfl (acts_store_all rfl rfl rfl hBa10 rfl (by first | rfl | assumption) (by first | rfl | assumption) (by (first | assumption | exact List.all_eq_true.mp rfl | simp [Value.cells, Value.oneCell']))) ?_
  rintro vc10 wc10 ⟨rfl, qc10, hBc10⟩
  have ec10 := Ext.renew ea10 qc10 hba10
  have hzc10 := ec10.size
  have hlc10 := hBc10.lt
  first | (have hCc10 : Cells wc10 ⟨ba10, 0, none⟩ [_, _, _, _, _] := hBc10.cells) | have hCc10 := Blk.cellsL hBc10
  refine Ox.pure rfl rfl zas ?_
  refine Ox.pure rfl rfl zas ?_
  refine Ox.fin ?_
  refine ztx ?_
  refine Ox.val rfl rfl zra ?_
  refine Ox.act rfl rfl (acts_call rfl rfl rfl (merge_br s10 hm10 hw10 (1) _ (hi10.ext0 zxc))) ?_
  rintro vu11 wu11 ⟨eu11, vv11, p11, A11, c11, rfl, ⟨s11, rfl, hi11, hb11, hz11⟩, hk11⟩
  have hzu11 := eu11.size
  have hy11 := eu11.size
  rw [hb10, sn10] at hk11 hb11 ⊢
  have hb11 : s11.br = Br0 := hb11
  obtain ⟨hm11, hw11⟩ := small_of hb11 (by decide +kernel)
  refine Ox.pure rfl rfl zmv ?_
  refine Ox.pure rfl rfl (rp_extract rfl rfl rfl) ?_
  refine Ox.pure rfl rfl (rp_extract rfl rfl rfl) ?_
  refine Ox.pure rfl rfl (rp_extract rfl rfl rfl) ?_
  refine Ox.act rfl rfl (acts_alloc rfl rfl) ?_
  rintro va11 wa11 ⟨ea11, ba11, rfl, hba11, hBa11⟩
  first | (have hCa11 : Cells wa11 ⟨ba11, 0, none⟩ [_, _, _, _, _] := hBa11.cells) | have hCa11 := Blk.cellsL hBa11
  have hla11 := hBa11.lt
  have hza11 := ea11.size
  refine Ox.act rfl rfl (acts_store_all rfl rfl rfl hBa11 rfl (by first | rfl | assumption) (by first | rfl | assumption) (by (first | assumption | exact List.all_eq_true.mp rfl | simp [Value.cells, Value.oneCell']))) ?_
  rintro vc11 wc11 ⟨rfl, qc11, hBc11⟩
  have ec11 := Ext.renew ea11 qc11 hba11
  have hzc11 := ec11.size
  have hlc11 := hBc11.lt
  first | (have hCc11 : Cells wc11 ⟨ba11, 0, none⟩ [_, _, _, _, _] := hBc11.cells) | have hCc11 := Blk.cellsL hBc11
  refine Ox.pure rfl rfl zas ?_
  refine Ox.pure rfl rfl zas ?_
  refine Ox.fin ?_
  refine ztx ?_
  refine Ox.val rfl rfl zra ?_
  refine Ox.act rfl rfl (acts_call rfl rfl rfl (fork_at s10 hm10 hw10 (1) _ (hi10.ext0 zxc))) ?_
  rintro vu12 wu12 ⟨eu12, vv12, rfl, s12, rfl, hi12, hb12, hz12⟩
  have hzu12 := eu12.size
  have hy12 := eu12.size
  rw [hb10, sn11] at hb12 ⊢
  have hb12 : s12.br = bY := hb12
  obtain ⟨hm12, hw12⟩ := small_of hb12 (by decide +kernel)
  refine Ox.pure rfl rfl zmv ?_
  refine Ox.pure rfl rfl (rp_extract rfl rfl rfl) ?_
  refine Ox.pure rfl rfl (rp_extract rfl rfl rfl) ?_
  refine Ox.pure rfl rfl (rp_extract rfl rfl rfl) ?_
  refine Ox.act rfl rfl (acts_alloc rfl rfl) ?_
  rintro va12 wa12 ⟨ea12, ba12, rfl, hba12, hBa12⟩
  first | (have hCa12 : Cells wa12 ⟨ba12, 0, none⟩ [_, _, _, _, _] := hBa12.cells) | have hCa12 := Blk.cellsL hBa12
  have hla12 := hBa12.lt
  have hza12 := ea12.size
  refine Ox.act rfl rfl (acts_store_all rfl rfl rfl hBa12 rfl (by first | rfl | assumption) (by first | rfl | assumption) (by (first | assumption | exact List.all_eq_true.mp rfl | simp [Value.cells, Value.oneCell']))) ?_
  rintro vc12 wc12 ⟨rfl, qc12, hBc12⟩
  have ec12 := Ext.renew ea12 qc12 hba12
  have hzc12 := ec12.size
  have hlc12 := hBc12.lt
  first | (have hCc12 : Cells wc12 ⟨ba12, 0, none⟩ [_, _, _, _, _] := hBc12.cells) | have hCc12 := Blk.cellsL hBc12
  refine Ox.pure rfl rfl zas ?_
  refine Ox.pure rfl rfl zas ?_
  refine Ox.fin ?_
  refine ztx ?_
  refine Ox.val rfl rfl zra ?_
  refine Ox.act rfl rfl (acts_call rfl rfl rfl (drop_at s12 hm12 hw12 (1) _ (hi12.ext0 zxc))) ?_
  rintro vu13 wu13 ⟨eu13, vv13, rfl, s13, rfl, hi13, hb13, hz13⟩
  have hzu13 := eu13.size
  have hy13 := eu13.size
  rw [hb12, sn12] at hb13 ⊢
  have hb13 : s13.br = bZ := hb13
  obtain ⟨hm13, hw13⟩ := small_of hb13 (by decide +kernel)
  refine Ox.pure rfl rfl zmv ?_
  refine Ox.pure rfl rfl (rp_extract rfl rfl rfl) ?_
  refine Ox.pure rfl rfl (rp_extract rfl rfl rfl) ?_
  refine Ox.act rfl rfl (acts_alloc rfl rfl) ?_
  rintro va13 wa13 ⟨ea13, ba13, rfl, hba13, hBa13⟩
  first | (have hCa13 : Cells wa13 ⟨ba13, 0, none⟩ [_, _, _, _, _] := hBa13.cells) | have hCa13 := Blk.cellsL hBa13
  have hla13 := hBa13.lt
  have hza13 := ea13.size
  refine Ox.act rfl rfl (acts_store_all rfl rfl rfl hBa13 rfl (by first | rfl | assumption) (by first | rfl | assumption) (by (first | assumption | exact List.all_eq_true.mp rfl | simp [Value.cells, Value.oneCell']))) ?_
  rintro vc13 wc13 ⟨rfl, qc13, hBc13⟩
  have ec13 := Ext.renew ea13 qc13 hba13
  have hzc13 := ec13.size
  have hlc13 := hBc13.lt
  first | (have hCc13 : Cells wc13 ⟨ba13, 0, none⟩ [_, _, _, _, _] := hBc13.cells) | have hCc13 := Blk.cellsL hBc13
  refine Ox.pure rfl rfl zas ?_
  refine Ox.fin ?_
  refine Sx.seq (Sx.upto (fun E' w' => ∃ (s14 : Bs) (b14 : Nat), (∀ t u, get [(2, .int .i64 0), (5, .int .i64 1), (8, .int .i64 1), (9, .slice p4 0 c4), (10, .int .i64 0), (12, .int .i64 0), (13, .int .i64 0), (15, .int .i64 1), (16, .int .i64 0), (18, .int .i64 0), (20, .int .i64 0), (21, .int .i64 0), (22, .pointer (some ⟨ba10, 0, none⟩)), (23, .slice p10 0 c10), (24, .int .i64 0), (26, .slice p11 1 c11), (27, .int .i64 541), (28, .pointer (some ⟨ba12, 0, none⟩)), (29, .int .i64 2), (30, .int .i64 0), (32, .int .i64 0), (34, .int .i64 1)] t = some u → get E' t = some u) ∧ Ext [] wc13 w' ∧ wc13.heap.size ≤ b14 ∧ Blk w' b14 27 (bvc s14) ∧ BsIn s14 w' ∧ s14.br = Br0) ?_ ?_)
  · skip
    (repeat refine Sx.seq ?_)
    refine Sx.walkR rfl (fun _ _ _ _ h => h) [0] [0, 3, 4, 5, 8] (8) (by kernel_rfl) ?_
    intro hq w10 e10; have hz10 := e10.size
    refine Wx.val hq rfl rfl rfl rfl ([]) zra ?_
    refine Wx.fork (i := 1) (j := 6) (by kernel_rfl) ?_ ?_
    · refine Go.Eng.Br.mk [(0, [], w10)] rfl rfl rfl ([]) (.keep (fun y hy => .inl hy) (PendK.nil)) (acts_call rfl rfl rfl (lawChange 1 1 _)) (fun _ _ h => h.1) [] (7) (by kernel_rfl) ?_
      rintro v11 w11 ⟨e11, rfl⟩
      have hz11 := e11.size
      refine Wx.fork (i := 2) (j := 6) (by kernel_rfl) ?_ ?_
      · refine Go.Eng.Br.mk [] rfl rfl rfl ([]) (.drop (by kernel_rfl) (PendK.nil)) (acts_call rfl rfl rfl (change_br s13 hm13 hw13 (1) (chg 1 1) _ (hi13.ext0 zxc))) (fun _ _ h => h.1) [3, 4, 5, 6, 7, 8] (0) (by kernel_rfl) ?_
        rintro vu14 wu14 ⟨eu14, vv14, rfl, s14, rfl, hi14, hb14, hz14⟩
        have hzu14 := eu14.size
        have hy14 := eu14.size
        rw [hb13, sn13] at hb14 ⊢
        have hb14 : s14.br = Br0 := hb14
        obtain ⟨hm14, hw14⟩ := small_of hb14 (by decide +kernel)
        refine Wx.pure hq rfl rfl rfl rfl zmv ?_
        refine Wx.pure hq rfl rfl rfl rfl (rp_extract rfl rfl rfl) ?_
        refine Wx.pure hq rfl rfl rfl rfl (rp_extract rfl rfl rfl) ?_
        refine Wx.actNew rfl rfl rfl rfl (acts_alloc rfl rfl) ?_
        rintro val14 wal14 eal14 ⟨bal14, rfl, hbal14, hBal14⟩
        first | (have hCal14 : Cells wal14 ⟨bal14, 0, none⟩ [_, _, _, _, _] := hBal14.cells) | have hCal14 := Blk.cellsL hBal14
        have hlal14 := hBal14.lt
        have hzal14 := eal14.size
        refine Wx.actLast rfl rfl rfl rfl (by kernel_rfl) (acts_store_all rfl rfl rfl (hBal14.ext (X := []) zxc (by simp)) rfl rfl rfl (by (first | assumption | exact List.all_eq_true.mp rfl | simp [Value.cells, Value.oneCell']))) ?_
        rintro vc14 wc14 ⟨rfl, qc14, hBc14⟩
        have hl9 := hBal14.lt
        have hiT := (hi14.ext0 zxc).keep (s0 := Bs0) (hBal14.ext (X := []) zxc (by simp)) (fun h => by have h1 := hz14 h; have h2 := bls_lt hi14 h; omega) qc14
        refine Wx.pure hq rfl rfl rfl rfl zas ?_
        refine Wx.fin ?_
        exact ⟨s14, bal14, sub_cons rfl (sub_cons rfl (sub_cons rfl (sub_cons rfl (sub_cons rfl (sub_cons rfl (sub_cons rfl (sub_cons rfl (sub_cons rfl (sub_cons rfl (sub_cons rfl (sub_cons rfl (sub_cons rfl (sub_cons rfl (sub_cons rfl (sub_cons rfl (sub_cons rfl (sub_cons rfl (sub_cons rfl (sub_cons rfl (sub_cons rfl (sub_cons rfl sub_nil))))))))))))))))))))), Ext.renew zxc qc14 (by omega), by omega, hBc14, hiT, hb14⟩
      · refine Go.Eng.Br.mk [(0, [], w10)] rfl rfl rfl ([]) (.keep (fun y hy => .inl hy) (PendK.nil)) (acts_alloc rfl rfl) (fun _ _ h => h.1) [2, 3, 4, 5, 7, 8] (0) (by kernel_rfl) ?_
        rintro val14 wal14 ⟨eal14, bal14, rfl, hbal14, hBal14⟩
        first | (have hCal14 : Cells wal14 ⟨bal14, 0, none⟩ [_, _, _, _, _] := hBal14.cells) | have hCal14 := Blk.cellsL hBal14
        have hlal14 := hBal14.lt
        have hzal14 := eal14.size
        refine Wx.actNew rfl rfl rfl rfl (acts_call rfl rfl rfl (change_br s13 hm13 hw13 (1) (chg 1 1) _ (hi13.ext0 zxc))) ?_
        rintro vu14 wu14 eu14 ⟨vv14, rfl, s14, rfl, hi14, hb14, hz14⟩
        have hzu14 := eu14.size
        have hy14 := eu14.size
        rw [hb13, sn13] at hb14 ⊢
        have hb14 : s14.br = Br0 := hb14
        obtain ⟨hm14, hw14⟩ := small_of hb14 (by decide +kernel)
        refine Wx.pure hq rfl rfl rfl rfl zmv ?_
        refine Wx.pure hq rfl rfl rfl rfl (rp_extract rfl rfl rfl) ?_
        refine Wx.pure hq rfl rfl rfl rfl (rp_extract rfl rfl rfl) ?_
        refine Wx.actLast rfl rfl rfl rfl (by kernel_rfl) (acts_store_all rfl rfl rfl (hBal14.ext (X := []) zxc (by simp)) rfl rfl rfl (by (first | assumption | exact List.all_eq_true.mp rfl | simp [Value.cells, Value.oneCell']))) ?_
        rintro vc14 wc14 ⟨rfl, qc14, hBc14⟩
        have hl9 := hBal14.lt
        have hiT := (hi14.ext0 zxc).keep (s0 := Bs0) (hBal14.ext (X := []) zxc (by simp)) (fun h => by have h1 := hz14 h; have h2 := bls_lt hi14 h; omega) qc14
        refine Wx.pure hq rfl rfl rfl rfl zas ?_
        refine Wx.fin ?_
        exact ⟨s14, bal14, sub_cons rfl (sub_cons rfl (sub_cons rfl (sub_cons rfl (sub_cons rfl (sub_cons rfl (sub_cons rfl (sub_cons rfl (sub_cons rfl (sub_cons rfl (sub_cons rfl (sub_cons rfl (sub_cons rfl (sub_cons rfl (sub_cons rfl (sub_cons rfl (sub_cons rfl (sub_cons rfl (sub_cons rfl (sub_cons rfl (sub_cons rfl (sub_cons rfl sub_nil))))))))))))))))))))), Ext.renew zxc qc14 (by omega), by omega, hBc14, hiT, hb14⟩
    · refine Go.Eng.Br.mk [(0, [], w10)] rfl rfl rfl ([]) (.keep (fun y hy => .inl hy) (PendK.nil)) (acts_alloc rfl rfl) (fun _ _ h => h.1) [1, 2, 3, 4, 5, 7, 8] (0) (by kernel_rfl) ?_
      rintro val14 wal14 ⟨eal14, bal14, rfl, hbal14, hBal14⟩
      first | (have hCal14 : Cells wal14 ⟨bal14, 0, none⟩ [_, _, _, _, _] := hBal14.cells) | have hCal14 := Blk.cellsL hBal14
      have hlal14 := hBal14.lt
      have hzal14 := eal14.size
      refine Wx.actNew rfl rfl rfl rfl (acts_call rfl rfl rfl (lawChange 1 1 _)) ?_
      rintro v12 w12 e12 rfl
      have hz12 := e12.size
      refine Wx.actNew rfl rfl rfl rfl (acts_call rfl rfl rfl (change_br s13 hm13 hw13 (1) (chg 1 1) _ (hi13.ext0 zxc))) ?_
      rintro vu14 wu14 eu14 ⟨vv14, rfl, s14, rfl, hi14, hb14, hz14⟩
      have hzu14 := eu14.size
      have hy14 := eu14.size
      rw [hb13, sn13] at hb14 ⊢
      have hb14 : s14.br = Br0 := hb14
      obtain ⟨hm14, hw14⟩ := small_of hb14 (by decide +kernel)
      refine Wx.pure hq rfl rfl rfl rfl zmv ?_
      refine Wx.pure hq rfl rfl rfl rfl (rp_extract rfl rfl rfl) ?_
      refine Wx.pure hq rfl rfl rfl rfl (rp_extract rfl rfl rfl) ?_
      refine Wx.actLast rfl rfl rfl rfl (by kernel_rfl) (acts_store_all rfl rfl rfl (hBal14.ext (X := []) zxc (by simp)) rfl rfl rfl (by (first | assumption | exact List.all_eq_true.mp rfl | simp [Value.cells, Value.oneCell']))) ?_
      rintro vc14 wc14 ⟨rfl, qc14, hBc14⟩
      have hl9 := hBal14.lt
      have hiT := (hi14.ext0 zxc).keep (s0 := Bs0) (hBal14.ext (X := []) zxc (by simp)) (fun h => by have h1 := hz14 h; have h2 := bls_lt hi14 h; omega) qc14
      refine Wx.pure hq rfl rfl rfl rfl zas ?_
      refine Wx.fin ?_
      exact ⟨s14, bal14, sub_cons rfl (sub_cons rfl (sub_cons rfl (sub_cons rfl (sub_cons rfl (sub_cons rfl (sub_cons rfl (sub_cons rfl (sub_cons rfl (sub_cons rfl (sub_cons rfl (sub_cons rfl (sub_cons rfl (sub_cons rfl (sub_cons rfl (sub_cons rfl (sub_cons rfl (sub_cons rfl (sub_cons rfl (sub_cons rfl (sub_cons rfl (sub_cons rfl sub_nil))))))))))))))))))))), Ext.renew zxc qc14 (by omega), by omega, hBc14, hiT, hb14⟩
  rintro E' wm14 ⟨s14, b14, hsub, em14, hbb14, hB14, hi14, hb14⟩
  refine thenE_normal (Sx.weaken ?_ hsub)
  have hzm14 := em14.size
  have hC14 : Cells wm14 ⟨b14, 0, none⟩ (bvc s14) := hB14.cells
  obtain ⟨hm14, hw14⟩ := small_of hb14 (by decide +kernel)
  have hx : s10.base = [fx] := congrArg Br.base hb10
  have hxl : s10.base.length = 1 := by rw [hx]; rfl
  have hLx : ∀ u, Ext [] wu10 u → Ld Try.prog u 3 (s10.A0.add (0 * 8 + 6)) (.int .i64 1) := fun u hu => by
    have h9 := ld_field (P := Try.prog) (t := 3) (i := 0) (l := s10.base) fc_len (hi10.base.row.ext0 hu) (by omega) 6 rfl (by decide) rfl
    simp only [hx] at h9
    exact h9
  refine ztx ?_
  refine Ox.pure rfl rfl zmv ?_
  refine Ox.pure rfl rfl zbc ?_
  refine Ox.pure rfl rfl zmv ?_
  first | (refine Ox.skip rfl rfl ?_) | (refine Ox.pure rfl rfl zmv ?_)
  first | (refine Ox.skip rfl rfl ?_) | (refine Ox.pure rfl rfl zbc ?_)
  refine Ox.pure rfl rfl zpk ?_
  refine Ox.pure rfl rfl zmv ?_
  first | (refine Ox.skip rfl rfl ?_) | (refine Ox.pure rfl rfl zmv ?_)
  first | (refine Ox.skip rfl rfl ?_) | (refine Ox.pure rfl rfl zbc ?_)
  refine Ox.pure rfl rfl zpk ?_
  refine Ox.pure rfl rfl zmv ?_
  first | (refine Ox.skip rfl rfl ?_) | (refine Ox.pure rfl rfl zmv ?_)
  first | (refine Ox.skip rfl rfl ?_) | (refine Ox.pure rfl rfl zbc ?_)
  refine Ox.pure rfl rfl zpk ?_
  refine Ox.pure rfl rfl zmv ?_
  first | (refine Ox.skip rfl rfl ?_) | (refine Ox.pure rfl rfl zmv ?_)
  first | (refine Ox.skip rfl rfl ?_) | (refine Ox.pure rfl rfl zbc ?_)
  refine Ox.pure rfl rfl zpk ?_
  refine Ox.pure rfl rfl zmv ?_
  first | (refine Ox.skip rfl rfl ?_) | (refine Ox.pure rfl rfl zmv ?_)
  first | (refine Ox.skip rfl rfl ?_) | (refine Ox.pure rfl rfl zbc ?_)
  refine Ox.pure rfl rfl zpk ?_
  refine Ox.pure rfl rfl zmv ?_
  first | (refine Ox.skip rfl rfl ?_) | (refine Ox.pure rfl rfl zmv ?_)
  first | (refine Ox.skip rfl rfl ?_) | (refine Ox.pure rfl rfl zbc ?_)
  refine Ox.pure rfl rfl zpk ?_
  refine Ox.pure rfl rfl zmv ?_
  first | (refine Ox.skip rfl rfl ?_) | (refine Ox.pure rfl rfl zmv ?_)
  first | (refine Ox.skip rfl rfl ?_) | (refine Ox.pure rfl rfl zbc ?_)
  refine Ox.pure rfl rfl zpk ?_
  refine Ox.pure rfl rfl zmv ?_
  first | (refine Ox.skip rfl rfl ?_) | (refine Ox.pure rfl rfl zmv ?_)
  first | (refine Ox.skip rfl rfl ?_) | (refine Ox.pure rfl rfl zbc ?_)
  refine Ox.pure rfl rfl zpk ?_
  refine Ox.pure rfl rfl zmv ?_
  first | (refine Ox.skip rfl rfl ?_) | (refine Ox.pure rfl rfl zmv ?_)
  first | (refine Ox.skip rfl rfl ?_) | (refine Ox.pure rfl rfl zbc ?_)
  refine Ox.pure rfl rfl zpk ?_
  refine Ox.pure rfl rfl zmv ?_
  first | (refine Ox.skip rfl rfl ?_) | (refine Ox.pure rfl rfl zmv ?_)
  first | (refine Ox.skip rfl rfl ?_) | (refine Ox.pure rfl rfl zbc ?_)
  refine Ox.pure rfl rfl zpk ?_
  refine Ox.pure rfl rfl zmv ?_
  first | (refine Ox.skip rfl rfl ?_) | (refine Ox.pure rfl rfl zmv ?_)
  first | (refine Ox.skip rfl rfl ?_) | (refine Ox.pure rfl rfl zbc ?_)
  refine Ox.pure rfl rfl zpk ?_
  refine Ox.pure rfl rfl zmv ?_
  first | (refine Ox.skip rfl rfl ?_) | (refine Ox.pure rfl rfl zmv ?_)
  first | (refine Ox.skip rfl rfl ?_) | (refine Ox.pure rfl rfl zbc ?_)
  refine Ox.pure rfl rfl zpk ?_
  refine Ox.pure rfl rfl zmv ?_
  first | (refine Ox.skip rfl rfl ?_) | (refine Ox.pure rfl rfl zmv ?_)
  first | (refine Ox.skip rfl rfl ?_) | (refine Ox.pure rfl rfl zbc ?_)
  refine Ox.pure rfl rfl zpk ?_
  refine Ox.fin ?_
  refine zcf ?_
  refine zsk ?_
  refine ztx ?_
  refine Ox.val rfl rfl zra ?_
  refine Ox.act rfl rfl (acts_call rfl rfl rfl (lawAt s10 hm10 (-1) 3 _ (hi10.ext0 zxc))) ?_
  rintro v13 w13 ⟨e13, rfl⟩
  have hz13 := e13.size
  rw [hb10, sn14]
  refine Ox.pure rfl rfl zmv ?_
  refine Ox.pure rfl rfl (rp_extract rfl rfl rfl) ?_
  refine Ox.pure rfl rfl (rp_extract rfl rfl rfl) ?_
  refine Ox.pure rfl rfl zas ?_
  refine Ox.pure rfl rfl zas ?_
  refine Ox.fin ?_
  refine ztx ?_
  refine Ox.val rfl rfl zra ?_
  refine Ox.act rfl rfl (acts_call rfl rfl rfl (lawAt s10 hm10 (1) 3 _ (hi10.ext0 zxc))) ?_
  rintro v14 w14 ⟨e14, rfl⟩
  have hz14 := e14.size
  rw [hb10, sn15]
  refine Ox.pure rfl rfl zmv ?_
  refine Ox.pure rfl rfl (rp_extract rfl rfl rfl) ?_
  refine Ox.pure rfl rfl (rp_extract rfl rfl rfl) ?_
  refine Ox.pure rfl rfl zas ?_
  refine Ox.pure rfl rfl zas ?_
  refine Ox.fin ?_
  refine ztx ?_
  refine Ox.val rfl rfl zra ?_
  refine Ox.act rfl rfl (acts_call rfl rfl rfl (lawAt s12 hm12 (2) 4 _ (hi12.ext0 zxc))) ?_
  rintro v15 w15 ⟨e15, rfl⟩
  have hz15 := e15.size
  rw [hb12, sn16]
  refine Ox.pure rfl rfl zmv ?_
  refine Ox.pure rfl rfl (rp_extract rfl rfl rfl) ?_
  refine Ox.pure rfl rfl (rp_extract rfl rfl rfl) ?_
  refine Ox.pure rfl rfl zas ?_
  refine Ox.pure rfl rfl zas ?_
  refine Ox.fin ?_
  refine ztx ?_
  refine Ox.val rfl rfl zra ?_
  refine Ox.act rfl rfl (acts_call rfl rfl rfl (lawAt s10 hm10 (-1) 4 _ (hi10.ext0 zxc))) ?_
  rintro v16 w16 ⟨e16, rfl⟩
  have hz16 := e16.size
  rw [hb10, sn17]
  refine Ox.pure rfl rfl zmv ?_
  refine Ox.pure rfl rfl (rp_extract rfl rfl rfl) ?_
  refine Ox.pure rfl rfl (rp_extract rfl rfl rfl) ?_
  refine Ox.pure rfl rfl zas ?_
  refine Ox.pure rfl rfl zas ?_
  refine Ox.fin ?_
  refine ztx ?_
  refine Ox.pure rfl rfl zmv ?_
  refine Ox.pure rfl rfl (rp_lenS rfl rfl rfl) ?_
  refine Ox.pure rfl rfl zbc ?_
  refine Ox.pure rfl rfl zmv ?_
  first | (refine Ox.skip rfl rfl ?_) | (refine Ox.pure rfl rfl zmv ?_)
  first | (refine Ox.skip rfl rfl ?_) | (refine Ox.pure rfl rfl zbc ?_)
  refine Ox.pure rfl rfl zpk ?_
  refine Ox.pure rfl rfl zmv ?_
  first | (refine Ox.skip rfl rfl ?_) | (refine Ox.pure rfl rfl zmv ?_)
  first | (refine Ox.skip rfl rfl ?_) | (refine Ox.pure rfl rfl zbc ?_)
  refine Ox.pure rfl rfl zpk ?_
  refine Ox.pure rfl rfl zmv ?_
  first | (refine Ox.skip rfl rfl ?_) | (refine Ox.pure rfl rfl zmv ?_)
  first | (refine Ox.skip rfl rfl ?_) | (refine Ox.pure rfl rfl (rp_lenS rfl rfl rfl) ?_)
  first | (refine Ox.skip rfl rfl ?_) | (refine Ox.pure rfl rfl zbc ?_)
  refine Ox.pure rfl rfl zpk ?_
  refine Ox.pure rfl rfl zmv ?_
  first | (refine Ox.skip rfl rfl ?_) | (refine Ox.pure rfl rfl zmv ?_)
  first | (refine Ox.skip rfl rfl ?_) | (refine Ox.act rfl rfl (acts_call rfl rfl rfl (lawChange 3 0 _)) ?_; rintro v17 w17 ⟨e17, rfl⟩; have hz17 := e17.size)
  first | (refine Ox.skip rfl rfl ?_) | (refine Ox.pure rfl rfl (rp_fieldA rfl rfl rfl rfl rfl) ?_)
  first | (refine Ox.skip rfl rfl ?_) | (refine Ox.act rfl rfl (acts_buildSlice (ps := [(0, .tmp 216)]) rfl rfl rfl rfl rfl rfl rfl rfl) ?_; rintro vn21 wn21 ⟨en21, bn21, rfl, hbn21, hBn21⟩; first | (have hCn21 : Cells wn21 ⟨bn21, 0, none⟩ [_, _, _] := hBn21.cells) | have hCn21 := Blk.cellsL hBn21; have hln21 := hBn21.lt; have hzn21 := en21.size)
  first | (refine Ox.skip rfl rfl ?_) | (refine Ox.act rfl rfl (acts_call rfl rfl rfl (ref_SameK [⟨1, 3, 0⟩] [⟨1, 3, 0⟩] p11 _ A11 _ c11 1 _ (hk11.ext0 zxc) ⟨fun _ => rfl, hCn21, by simp, by simp, by simp⟩)) ?_; rintro v18 w18 ⟨e18, rfl⟩; have hz18 := e18.size; rw [decide_eq_true (show ([⟨1, 3, 0⟩] : List Ky) = [⟨1, 3, 0⟩] from rfl)])
  refine Ox.pure rfl rfl zpk ?_
  refine Ox.pure rfl rfl zmv ?_
  first | (refine Ox.skip rfl rfl ?_) | (refine Ox.pure rfl rfl zmv ?_)
  refine Ox.pure rfl rfl zpk ?_
  refine Ox.pure rfl rfl zmv ?_
  first | (refine Ox.skip rfl rfl ?_) | (refine Ox.pure rfl rfl zmv ?_)
  first | (refine Ox.skip rfl rfl ?_) | (refine Ox.pure rfl rfl zbc ?_)
  refine Ox.pure rfl rfl zpk ?_
  refine Ox.pure rfl rfl zmv ?_
  first | (refine Ox.skip rfl rfl ?_) | (refine Ox.pure rfl rfl zmv ?_)
  refine Ox.pure rfl rfl zpk ?_
  refine Ox.pure rfl rfl zmv ?_
  first | (refine Ox.skip rfl rfl ?_) | (refine Ox.pure rfl rfl zmv ?_)
  first | (refine Ox.skip rfl rfl ?_) | (refine Ox.pure rfl rfl zbc ?_)
  refine Ox.pure rfl rfl zpk ?_
  refine Ox.pure rfl rfl zmv ?_
  first | (refine Ox.skip rfl rfl ?_) | (refine Ox.pure rfl rfl zmv ?_)
  refine Ox.pure rfl rfl zpk ?_
  refine Ox.pure rfl rfl zmv ?_
  first | (refine Ox.skip rfl rfl ?_) | (refine Ox.pure rfl rfl zmv ?_)
  first | (refine Ox.skip rfl rfl ?_) | (refine Ox.pure rfl rfl zbc ?_)
  refine Ox.pure rfl rfl zpk ?_
  refine Ox.pure rfl rfl zmv ?_
  first | (refine Ox.skip rfl rfl ?_) | (refine Ox.pure rfl rfl zmv ?_)
  first | (refine Ox.skip rfl rfl ?_) | (refine Ox.pure rfl rfl (rp_not rfl rfl) ?_)
  refine Ox.pure rfl rfl zpk ?_
  refine Ox.pure rfl rfl zmv ?_
  first | (refine Ox.skip rfl rfl ?_) | (refine Ox.pure rfl rfl zfa ?_)
  first | (refine Ox.skip rfl rfl ?_) | (refine Ox.val rfl rfl zrs ?_)
  first | (refine Ox.skip rfl rfl ?_) | (refine Ox.pure rfl rfl (rp_lenS rfl rfl rfl) ?_)
  first | (refine Ox.skip rfl rfl ?_) | (refine Ox.pure rfl rfl zbc ?_)
  refine Ox.pure rfl rfl zpk ?_
  refine Ox.pure rfl rfl zmv ?_
  first | (refine Ox.skip rfl rfl ?_) | (refine Ox.pure rfl rfl zfa ?_)
  first | (refine Ox.skip rfl rfl ?_) | (refine Ox.val rfl rfl zrs ?_)
  first | (refine Ox.skip rfl rfl ?_) | (refine Ox.pure rfl rfl (rp_indexAddr 0 rfl rfl rfl rfl rfl hi10.base.ptr rfl (by omega)) ?_)
  first | (refine Ox.skip rfl rfl ?_) | (refine Ox.pure rfl rfl zfa ?_)
  first | (refine Ox.skip rfl rfl ?_) | (refine Ox.val rfl rfl (rv_load rfl rfl (fun u hu => hLx u zxc)) ?_)
  first | (refine Ox.skip rfl rfl ?_) | (refine Ox.pure rfl rfl zbc ?_)
  refine Ox.pure rfl rfl zpk ?_
  refine Ox.pure rfl rfl zas ?_
  refine Ox.fin ?_
  refine zrt ?_
  exact endE_ret [_] ⟨rfl, trivial⟩ ⟨zxc, rfl⟩

end Go.Proofs.Ytfgckcochilpkaa

/- The engine, part eight: from a walk that leaves all that was there alone to what a statement asks. -/
set_option linter.unusedVariables false
namespace Go.Eng
open Go Go.ChangeShapes Go.WideShapes Go.ChangeAt Go.RowKit

section
variable {H : Type} {enc : TypeId × Value → H} {P : Program}

def rowsOK (P : Program) (ts : List TypeId) : Bool := ts.all fun t => P.readableRec t && decide (t < P.types.size)

theorem trodAll_stays (hl : laidOutB P = true) {W W' : World} {sp : Nat → Bool} : ∀ {ts : List TypeId} {vs : List Value} {ds : List (DataW H)} {ps : List MemPlace}, rowsOK P ts = true → DataW.TrodAll enc P W 0 (fun _ => true) true ts vs ds ps →
    (∀ p ∈ ps, W.sameAt W' p) → (∀ p ∈ ps, sp p.block = true) → DataW.TrodAll enc P W' 0 sp true ts vs ds ps
  | [], vs, ds, ps, _, h, _, _ => by
    cases vs <;> cases ds <;> simp [DataW.TrodAll] at h ⊢
    exact h
  | t :: ts, vs, ds, ps, hr, h, hsame, hs => by
    simp only [rowsOK, List.all_cons, Bool.and_eq_true, decide_eq_true_eq] at hr
    obtain ⟨v, vs', d, ds', p, q, rfl, rfl, rfl, h1, h2⟩ := trodAll_cons h
    exact ⟨p, q, WideElems.Trod_stays hl hr.1.1 hr.1.2 h1 (fun x hx => hsame x (by simp [hx])) (fun x hx => hs x (by simp [hx])),
      trodAll_stays hl (by simpa [rowsOK] using hr.2) h2 (fun x hx => hsame x (by simp [hx])) (fun x hx => hs x (by simp [hx])), rfl⟩

/-- It returns true, and all that was there reads as it read. -/
theorem post_true {f : Func} {s : ChangeSpec} {apart fresh handsOn again : Bool} {W W' : World} {args : Array Value} {ds gs : List (DataW H)} {before : List MemPlace} {t : TypeId}
    (hl : laidOutB P = true) (hrows : rowsOK P f.params.toList = true) (hvars : s.vars = [])
    (hW : DataW.Whole enc P f.params.toList s.vars apart W args.toList ds gs before)
    (hr : f.resultTypes = #[t]) (ht : P.underlying t = some .bool) (hres : (s.fn H (ds ++ gs)).results = [.lit (.bool true)]) (hargs : (s.fn H (ds ++ gs)).args = ds) (hv : (s.fn H (ds ++ gs)).vars = [])
    (he : Ext [] W W') : s.post enc P f apart fresh handsOn again W args (.bool true) W' := by
  have hlt := hW.lt
  obtain ⟨p, q, hA, hV, rfl, hz, hn⟩ := id hW
  rw [hvars] at hV
  obtain ⟨rfl, rfl⟩ := trodVars_none hV
  have hb := he.below
  have hsame : ∀ x ∈ p, W.sameAt W' x := fun x hx => hb.same (hlt x (by simp [hx]))
  have hargsT : ∀ sp : Nat → Bool, (∀ x ∈ p, sp x.block = true) → DataW.TrodAll enc P W' 0 sp true f.params.toList args.toList ds p := fun sp hs => trodAll_stays hl hrows hA hsame hs
  have hresT : ∀ (b : Nat) (sp : Nat → Bool) (hd : Bool), DataW.TrodAll enc P W' b sp hd f.resultTypes.toList ((Value.bool true).resultList f.resultTypes.size) [.lit (.bool true)] [] := fun b sp hd => by
    rw [hr]
    exact trodAll_cons_mk (shut_bool ht _) trodAll_mk0
  refine ⟨ds, [], p ++ [], [], p, [], hW, ?_, ?_, ?_, ?_, fun _ => ⟨?_, ?_⟩⟩
  · rw [hres]; exact hresT _ _ _
  · rw [hargs]; exact hargsT _ (fun x hx => by simpa using hlt x (by simp [hx]))
  · rw [hvars, hv]; rfl
  · exact World.keptBut_mono (fun x hx => ⟨by simpa using hx, .inr (.inl (by simpa using hx))⟩) (hb.frame (· ∈ p))
  · exact ok_one hr rfl (okWide_bool_mk ht _)
  · refine ⟨[.lit (.bool true)] ++ ds, [], ([] ++ p) ++ [], ⟨[] ++ p, [], trodAll_append (hargsT _ (fun _ _ => rfl)) (hresT _ _ _), by rw [hvars]; rfl, rfl, ?_, ?_⟩, ?_⟩
    · intro b off hp
      have hp' : MemPlace.cell b off ∈ p := by simpa using hp
      have h5 := hz b off (by simpa using hp')
      rw [hb.frozen (p := ⟨b, off, none⟩) (by simpa [MemPlace.block] using hlt _ (by simpa using hp'))]
      exact h5
    · intro ha
      simpa using hn ha
    · intro x hx _
      simpa using hx
end
end Go.Eng

/- The engine, part thirteen: arguments of flat types and lists of them. -/
set_option linter.unusedVariables false
set_option linter.unusedSimpArgs false
namespace Go.Eng
open Go Go.ChangeShapes Go.WideShapes Go.ChangeAt Go.RowKit

section
variable {H : Type} {enc : TypeId × Value → H} {P : Program} {W : World}

def in64 (a : Int) : Prop := -9223372036854775808 ≤ a ∧ a ≤ 9223372036854775807

theorem mapM_opt {α β : Type} {f : α → Option β} : ∀ {l : List α} {r : List β}, l.mapM f = some r → l.length = r.length ∧ ∀ (i : Nat) (h : i < l.length), f l[i] = r[i]?
  | [], r, h => by simp at h; subst h; simp
  | a :: l, r, h => by
    rw [List.mapM_cons] at h
    cases ha : f a with
    | none => rw [ha] at h; cases h
    | some b =>
      rw [ha] at h
      cases hl : l.mapM f with
      | none => rw [hl] at h; cases h
      | some r' =>
        rw [hl] at h
        have h' : some (b :: r') = some r := h
        simp only [Option.some.injEq] at h'
        subst h'
        obtain ⟨h1, h2⟩ := mapM_opt hl
        refine ⟨by simp [h1], fun i hi => ?_⟩
        cases i with
        | zero => simpa using ha
        | succ i => simpa using h2 i (by simpa using hi)

theorem weightsAll_mem {e : TypeId} : ∀ {l : List (DataW H)} {d : DataW H}, d ∈ l → ∀ x ∈ DataW.weights P e d, x ∈ DataW.weightsAll P e l
  | c :: l, d, h, x, hx => by
    rw [DataW.weightsAll]
    rcases List.mem_cons.1 h with rfl | h
    · exact List.mem_append_left _ hx
    · exact List.mem_append_right _ (weightsAll_mem h x hx)

theorem trod_i64 {t : TypeId} (hU : P.underlying t = some (.int .i64)) {base fuel : Nat} {c : Value} {x : DataW H × List MemPlace} {sp : Nat → Bool} (h : DataW.trod enc P W base sp true fuel t [c] = some x) : ∃ n, c = .int .i64 n ∧ in64 n ∧ x.1 = .lit (.int .i64 n) := by
  cases fuel with
  | zero => simp [DataW.trod] at h
  | succ fuel =>
  unfold DataW.trod at h
  simp only [hU] at h
  cases c with
  | int k n =>
    simp only at h
    split at h
    · rename_i hk
      obtain ⟨rfl, hk⟩ := hk
      simp only [Option.some.injEq] at h
      subst h
      have := (Lit.wf_int_iff _ _).1 hk
      refine ⟨n, rfl, ?_, rfl⟩
      simpa [IntKind.min, IntKind.max, IntKind.signed, IntKind.bits, in64] using this
    · cases h
  | _ => simp at h

/-- A struct's fields, one by one. -/
theorem trod_fields {t : TypeId} {fs : Array Field} (hU : P.underlying t = some (.struct fs)) {base fuel : Nat} {cs : List Value} {x : DataW H × List MemPlace} {sp : Nat → Bool} (h : DataW.trod enc P W base sp true fuel t cs = some x) :
    cs.length = P.cellsOf t ∧ ∃ (fuel' : Nat) (xs : List (DataW H × List MemPlace)), x = (.agg (xs.map (·.1)), xs.flatMap (·.2)) ∧ xs.length = fs.toList.length ∧ ∀ i (hi : i < fs.toList.length), DataW.trod enc P W base sp true fuel' fs.toList[i].type ((cs.drop fs.toList[i].offset).take (P.cellsOf fs.toList[i].type)) = xs[i]? := by
  cases fuel with
  | zero => simp [DataW.trod] at h
  | succ fuel =>
  unfold DataW.trod at h
  simp only [hU] at h
  by_cases hl : cs.length = P.cellsOf t
  · rw [if_pos hl] at h
    obtain ⟨xs, hm, hx⟩ := Option.map_eq_some_iff.1 h
    obtain ⟨h1, h2⟩ := mapM_opt hm
    exact ⟨hl, fuel, xs, hx.symm, h1.symm, h2⟩
  · rw [if_neg hl] at h; cases h

theorem build_list {α : Type} {en : α → List Value} {m : Nat} (hlen : ∀ a, (en a).length = m) {Q : α → Prop} {a : Addr} : ∀ (len : Nat), (∀ i, i < len → ∃ x : α, Q x ∧ ∀ j, j < m → W.cell? ((a.add (i * m)).add j) = (en x)[j]?) → ∃ l : List α, l.length = len ∧ (∀ x ∈ l, Q x) ∧ Cells W a (rowsV en l)
  | 0, _ => ⟨[], rfl, by simp, cells_nil _ _⟩
  | len + 1, h => by
    obtain ⟨l, h1, h2, h3⟩ := build_list hlen (Q := Q) (a := a) len (fun i hi => h i (by omega))
    obtain ⟨x, hx, hc⟩ := h len (by omega)
    refine ⟨l ++ [x], by simp [h1], fun y hy => ?_, ?_⟩
    · rcases List.mem_append.1 hy with h4 | h4
      · exact h2 y h4
      · rw [List.mem_singleton.1 h4]; exact hx
    · rw [rowsV_append, rowsV_one]
      have hrl := rowsV_length hlen l
      rw [h1] at hrl
      intro i u hi
      by_cases hlt : i < (rowsV en l).length
      · rw [List.getElem?_append_left hlt] at hi; exact h3 i u hi
      · rw [List.getElem?_append_right (by omega)] at hi
        have hj : i - (rowsV en l).length < m := by
          rcases Nat.lt_or_ge (i - (rowsV en l).length) m with h5 | h5
          · exact h5
          · rw [List.getElem?_eq_none (by rw [hlen]; omega)] at hi; cases hi
        have := hc (i - (rowsV en l).length) hj
        rw [addr_add_add, hi] at this
        rw [← this]
        congr 2
        omega

theorem not_agg {r : Reach} {base : Nat} {t e : TypeId} {x : Value} (ht : P.underlying t = some (.slice e)) (h : Value.okWide P W r base t x) : ∀ a, x ≠ .agg a := by
  rintro a rfl
  simp [Value.okWide, ht, Cell.okWide, Cell.ok] at h
theorem cells_one {x y : Value} (h : x.cells.toList = [y]) (hx : ∀ a, x ≠ .agg a) : x = y := by
  cases x with
  | agg a => exact absurd rfl (hx a)
  | _ => simpa [Value.cells] using h

/-- A list that came in. -/
theorem arg_list {α : Type} {en : α → List Value} {m : Nat} {Q : α → Prop} {t e : TypeId} {x : Value} {d : DataW H} {ps : List MemPlace} (hU : P.underlying t = some (.slice e)) (hm : P.cellsOf e = m) (hlen : ∀ a, (en a).length = m) (hb : 0 < P.bytesOf e)
    (hrd : ∀ fuel cs y, DataW.trod enc P W 0 (fun _ => true) true fuel e cs = some y → ∃ a : α, Q a ∧ cs = en a) (hx : ∀ a, x ≠ .agg a) (h : DataW.Trod enc P W 0 (fun _ => true) true t x d ps) (hw : ∀ y ∈ DataW.weights P t d, y ≤ reachBytes) :
    ∃ (l : List α) (p : Option Addr) (A : Addr) (cap : Nat), x = .slice p l.length cap ∧ SlV en W p A l cap ∧ (∀ a ∈ l, Q a) := by
  obtain ⟨fuel, h⟩ := h
  rcases DataW.trod_slice hU h with ⟨he, _⟩ | ⟨a, len, cap, elems, rest, n, hfu, he, hx3, hbk, hlc, hcm, hel, hel3, _, _⟩
  · have hx := cells_one he hx
    exact ⟨[], none, ⟨0, 0, none⟩, 0, hx, SlV.nil _ _, by simp⟩
  · have hx := cells_one he hx
    subst hx
    simp only [Prod.mk.injEq] at hx3
    rw [hx3.1] at hw
    simp only [DataW.weights, hU] at hw
    have hlb : len ≤ 140737488355328 := by
      have h1 := hw _ (.head _)
      simp only [List.length_map] at h1
      unfold reachBytes at h1
      have h2 : len ≤ (elems.length + rest.length) * P.bytesOf e := Nat.le_trans (by omega) (Nat.le_mul_of_pos_right _ hb)
      omega
    obtain ⟨l, hl, hq, hC⟩ := build_list hlen (W := W) (a := a) (Q := Q) len (fun i hi => by
      have h5 := hel3 i hi
      have hi' : i < elems.length := by omega
      rw [List.getElem?_eq_getElem hi'] at h5
      obtain ⟨cs', h6, h7⟩ := Option.bind_eq_some_iff.1 h5
      obtain ⟨_, h8, h9⟩ := World.cells?_some h6
      obtain ⟨v, hv, rfl⟩ := hrd n cs' _ h7
      rw [hm] at h9
      exact ⟨v, hv, fun j hj => h9 j hj⟩)
    exact ⟨l, some a, a, cap, by rw [hl], ⟨fun _ => rfl, hC, by omega, by unfold maxLen at hcm; omega, by omega⟩, hq⟩

end
end Go.Eng

/- The engine, part fourteen: lists inside arguments. -/
set_option linter.unusedVariables false
set_option linter.unusedSimpArgs false
namespace Go.Eng
open Go Go.ChangeShapes Go.WideShapes Go.ChangeAt Go.RowKit

section
variable {H : Type} {enc : TypeId × Value → H} {P : Program} {W : World}

/-- A list that came in as a part of something. -/
theorem list_cells {α : Type} {en : α → List Value} {m : Nat} {Q : α → Prop} {t e : TypeId} {cs : List Value} {z : DataW H × List MemPlace} {fuel : Nat} (hU : P.underlying t = some (.slice e)) (hm : P.cellsOf e = m) (hlen : ∀ a, (en a).length = m) (hb : 0 < P.bytesOf e)
    (hrd : ∀ fuel cs y, DataW.trod enc P W 0 (fun _ => true) true fuel e cs = some y → (∀ w ∈ DataW.weights P e y.1, w ≤ reachBytes) → ∃ a : α, Q a ∧ cs = en a) (h : DataW.trod enc P W 0 (fun _ => true) true fuel t cs = some z) (hw : ∀ y ∈ DataW.weights P t z.1, y ≤ reachBytes) :
    ∃ (l : List α) (p : Option Addr) (A : Addr) (cap : Nat), cs = [.slice p l.length cap] ∧ SlV en W p A l cap ∧ (∀ a ∈ l, Q a) := by
  rcases DataW.trod_slice hU h with ⟨he, _⟩ | ⟨a, len, cap, elems, rest, n, hfu, he, hx3, hbk, hlc, hcm, hel, hel3, _, _⟩
  · exact ⟨[], none, ⟨0, 0, none⟩, 0, he, SlV.nil _ _, by simp⟩
  · subst he
    rw [hx3] at hw
    simp only [DataW.weights, hU] at hw
    have hlb : len ≤ 140737488355328 := by
      have h1 := hw _ (.head _)
      simp only [List.length_map] at h1
      unfold reachBytes at h1
      have h2 : len ≤ (elems.length + rest.length) * P.bytesOf e := Nat.le_trans (by omega) (Nat.le_mul_of_pos_right _ hb)
      omega
    obtain ⟨l, hl, hq, hC⟩ := build_list hlen (W := W) (a := a) (Q := Q) len (fun i hi => by
      have h5 := hel3 i hi
      have hi' : i < elems.length := by omega
      rw [List.getElem?_eq_getElem hi'] at h5
      obtain ⟨cs', h6, h7⟩ := Option.bind_eq_some_iff.1 h5
      obtain ⟨_, h8, h9⟩ := World.cells?_some h6
      obtain ⟨v, hv, rfl⟩ := hrd n cs' _ h7 (fun w hw' => hw w (List.mem_cons_of_mem _ (List.mem_append_left _ (weightsAll_mem (List.mem_map.2 ⟨_, List.getElem_mem hi', rfl⟩) w hw'))))
      rw [hm] at h9
      exact ⟨v, hv, fun j hj => h9 j hj⟩)
    exact ⟨l, some a, a, cap, by rw [hl], ⟨fun _ => rfl, hC, by omega, by unfold maxLen at hcm; omega, by omega⟩, hq⟩
theorem slice_one {t e : TypeId} {c : Value} {z : DataW H × List MemPlace} {fuel base : Nat} {sp : Nat → Bool} (hU : P.underlying t = some (.slice e)) (h : DataW.trod enc P W base sp true fuel t [c] = some z) : c.oneCell' = true := by
  rcases DataW.trod_slice hU h with ⟨he, _⟩ | ⟨a, len, cap, elems, rest, n, hfu, he, _⟩
  · injection he with he _; rw [he]; rfl
  · injection he with he _; rw [he]; rfl
end
end Go.Eng

/- The facts' walks: what has changed. -/
set_option linter.unusedVariables false
set_option maxRecDepth 100000
set_option maxHeartbeats 4000000
set_option linter.unusedSimpArgs false
namespace Go.Proofs.Ytfgckcochilpkaa
open Go Go.Eng

theorem rowO_eq (a b : Option Fct) : rowO a = rowO b ↔ valO a = valO b := by
  obtain ⟨a1, a2, a3⟩ := rowO_val a
  obtain ⟨b1, b2, b3⟩ := rowO_val b
  by_cases ha : 0 ≤ rowO a
  · by_cases hb : 0 ≤ rowO b
    · constructor
      · intro h
        exact Prod.ext (by rw [a2 ha, b2 hb, h]) (by rw [a1.1 ha, b1.1 hb])
      · intro h; rw [← a2 ha, ← b2 hb, h]
    · obtain ⟨b4, b5⟩ := b3 hb
      constructor
      · intro h; omega
      · intro h
        have := a1.1 ha
        rw [h, b5] at this; cases this
  · obtain ⟨a4, a5⟩ := a3 ha
    by_cases hb : 0 ≤ rowO b
    · constructor
      · intro h; omega
      · intro h
        have := b1.1 hb
        rw [← h, a5] at this; cases this
    · obtain ⟨b4, b5⟩ := b3 hb
      rw [a4, b4, a5, b5]; simp
theorem diff_row (l : List Fct) (k : Ky) (bef aft : Int) (day : Int) : diffL l k bef aft day ↔ rowO (bestL l k day bef) ≠ rowO (bestL l k day aft) := by
  unfold diffL atL
  rw [ne_eq, ne_eq, rowO_eq]
theorem valuesL_at (l : List Fct) (k : Ky) (known : Int) {j : Nat} (hj : j < 1024) : (rowsV ic (valuesL l k known))[j * 1]? = some (.int .i64 (rowO (bestL l k (j : Int) known))) := by
  have hlt : j < (valuesL l k known).length := by rw [valuesL_length]; exact hj
  have := congrArg (fun c => c[0]?) (rowsV_at ic_len hlt)
  have h2 : (valuesL l k known)[j] = rowO (bestL l k (j : Int) known) := tab_get _ hlt
  rw [h2] at this
  simpa using this

end Go.Proofs.Ytfgckcochilpkaa

/- The facts' law: the examples. -/
set_option linter.unusedVariables false
set_option maxRecDepth 100000
set_option maxHeartbeats 4000000
set_option linter.unusedSimpArgs false
namespace Go.Proofs.Ytfgckcochilpkaa
open Go Go.Eng

abbrev k0 : Ky := ⟨3, 4, 9⟩
abbrev g1 : Fct := ⟨⟨3, 4, 9⟩, 7, 2, 6, 10, 0⟩
abbrev g2 : Fct := ⟨⟨3, 4, 9⟩, -1, 3, 4, 20, 0⟩
abbrev g3 : Fct := ⟨⟨3, 4, 9⟩, 7, 2, 6, 20, 0⟩
theorem n1 : atL [g1, g2] k0 3 15 = (7, true) := by decide +kernel
theorem n2 : atL [g1, g2] k0 3 20 = (0, false) := by decide +kernel
theorem n3 : atL [g1, g2] k0 2 20 = (7, true) := by decide +kernel
theorem n4 : atL [] k0 0 0 = (0, false) := by decide +kernel
theorem n5 : addL [g1] g2 = ([g1, g2], 0) := by decide +kernel
theorem n6 : (addL [g1, g2] g3).2 = 41 := by decide +kernel
theorem n7 : changedL [g1, g2] 15 20 = [(k0, [(3, 4)])] := by decide +kernel
theorem n8 : checkL [zF] = 40 := by decide +kernel
theorem n9 : checkL [g1, g2] = 0 := by decide +kernel
theorem n10 : (pointsL [g1, g2] k0 5 5 20).length = 0 := by decide +kernel
theorem n11 : alikeL [g1, g2] [] 1 2 = true := by decide +kernel
theorem n12 : alikeL [g1, g2] [⟨k0, 0, 9⟩] 15 20 = false := by decide +kernel
theorem n13 : (pointsL [g1, g2] k0 0 9 20).length = 3 := by decide +kernel
theorem n14 : uptoL [g1, g2] 19 = [g1] := by decide +kernel

end Go.Proofs.Ytfgckcochilpkaa

/- Arguments: keys, facts, lists of them. -/
set_option linter.unusedVariables false
set_option maxRecDepth 100000
set_option linter.unusedSimpArgs false
namespace Go.Proofs.Ytfgckcochilpkaa
open Go Go.Eng

theorem undI : Try.prog.underlying 3 = some (.int .i64) := rfl
theorem undKey : ∃ a b c, Try.prog.underlying 38 = some (.struct #[a, b, c]) ∧ (a.type = 3 ∧ a.offset = 0) ∧ (b.type = 3 ∧ b.offset = 1) ∧ (c.type = 3 ∧ c.offset = 2) := ⟨_, _, _, rfl, ⟨rfl, rfl⟩, ⟨rfl, rfl⟩, rfl, rfl⟩
theorem undSpan : ∃ a b, Try.prog.underlying 40 = some (.struct #[a, b]) ∧ (a.type = 3 ∧ a.offset = 0) ∧ (b.type = 3 ∧ b.offset = 1) := ⟨_, _, rfl, ⟨rfl, rfl⟩, rfl, rfl⟩
theorem undFact : ∃ a b c d e, Try.prog.underlying 64 = some (.struct #[a, b, c, d, e]) ∧ (a.type = 38 ∧ a.offset = 0) ∧ (b.type = 3 ∧ b.offset = 3) ∧ (c.type = 40 ∧ c.offset = 4) ∧ (d.type = 3 ∧ d.offset = 6) ∧ (e.type = 3 ∧ e.offset = 7) :=
  ⟨_, _, _, _, _, rfl, ⟨rfl, rfl⟩, ⟨rfl, rfl⟩, ⟨rfl, rfl⟩, ⟨rfl, rfl⟩, rfl, rfl⟩
theorem celI : Try.prog.cellsOf 3 = 1 := rfl
theorem celKey : Try.prog.cellsOf 38 = 3 := rfl
theorem celSpan : Try.prog.cellsOf 40 = 2 := rfl
theorem celFact : Try.prog.cellsOf 64 = 8 := rfl

def OkKy (k : Ky) : Prop := in64 k.k ∧ in64 k.s ∧ in64 k.o
def OkFct (f : Fct) : Prop := OkKy f.key ∧ in64 f.val ∧ in64 f.lo ∧ in64 f.hi ∧ in64 f.known ∧ in64 f.no

section
variable {H : Type} {enc : TypeId × Value → H} {W : World} {sp : Nat → Bool} {base fuel : Nat} {cs : List Value} {x : DataW H × List MemPlace}

theorem trod_key (h : DataW.trod enc Try.prog W base sp true fuel 38 cs = some x) : ∃ k : Ky, OkKy k ∧ cs = kc k := by
  obtain ⟨a, b, c, hU, ⟨a1, a2⟩, ⟨b1, b2⟩, c1, c2⟩ := undKey
  obtain ⟨hl, fuel', xs, _, hxl, hel⟩ := trod_fields hU h
  rw [celKey] at hl
  obtain ⟨u0, u1, u2, rfl⟩ : ∃ a b c, cs = [a, b, c] := by
    match cs, hl with
    | [a, b, c], _ => exact ⟨a, b, c, rfl⟩
  obtain ⟨x0, x1, x2, rfl⟩ : ∃ a b c, xs = [a, b, c] := by
    match xs, hxl with
    | [a, b, c], _ => exact ⟨a, b, c, rfl⟩
  have e0 := hel 0 (by simp)
  have e1 := hel 1 (by simp)
  have e2 := hel 2 (by simp)
  simp only [List.getElem_cons_zero, List.getElem_cons_succ, List.getElem?_cons_zero, List.getElem?_cons_succ, a1, a2, b1, b2, c1, c2, celI, List.drop_zero, List.drop_succ_cons, List.take_succ_cons, List.take_zero] at e0 e1 e2
  obtain ⟨k0, rfl, h0, _⟩ := trod_i64 undI e0
  obtain ⟨k1, rfl, h1, _⟩ := trod_i64 undI e1
  obtain ⟨k2, rfl, h2, _⟩ := trod_i64 undI e2
  exact ⟨⟨k0, k1, k2⟩, ⟨h0, h1, h2⟩, rfl⟩
theorem trod_span (h : DataW.trod enc Try.prog W base sp true fuel 40 cs = some x) : ∃ a b : Int, (in64 a ∧ in64 b) ∧ cs = [.int .i64 a, .int .i64 b] := by
  obtain ⟨a, b, hU, ⟨a1, a2⟩, b1, b2⟩ := undSpan
  obtain ⟨hl, fuel', xs, _, hxl, hel⟩ := trod_fields hU h
  rw [celSpan] at hl
  obtain ⟨u0, u1, rfl⟩ : ∃ a b, cs = [a, b] := by
    match cs, hl with
    | [a, b], _ => exact ⟨a, b, rfl⟩
  obtain ⟨x0, x1, rfl⟩ : ∃ a b, xs = [a, b] := by
    match xs, hxl with
    | [a, b], _ => exact ⟨a, b, rfl⟩
  have e0 := hel 0 (by simp)
  have e1 := hel 1 (by simp)
  simp only [List.getElem_cons_zero, List.getElem_cons_succ, List.getElem?_cons_zero, List.getElem?_cons_succ, a1, a2, b1, b2, celI, List.drop_zero, List.drop_succ_cons, List.take_succ_cons, List.take_zero] at e0 e1
  obtain ⟨k0, rfl, h0, _⟩ := trod_i64 undI e0
  obtain ⟨k1, rfl, h1, _⟩ := trod_i64 undI e1
  exact ⟨k0, k1, ⟨h0, h1⟩, rfl⟩
theorem trod_fact (h : DataW.trod enc Try.prog W base sp true fuel 64 cs = some x) : ∃ f : Fct, OkFct f ∧ cs = fc f := by
  obtain ⟨a, b, c, d, e, hU, ⟨a1, a2⟩, ⟨b1, b2⟩, ⟨c1, c2⟩, ⟨d1, d2⟩, e1, e2⟩ := undFact
  obtain ⟨hl, fuel', xs, _, hxl, hel⟩ := trod_fields hU h
  rw [celFact] at hl
  obtain ⟨u0, u1, u2, u3, u4, u5, u6, u7, rfl⟩ : ∃ a b c d e f g h, cs = [a, b, c, d, e, f, g, h] := by
    match cs, hl with
    | [a, b, c, d, e, f, g, h], _ => exact ⟨a, b, c, d, e, f, g, h, rfl⟩
  obtain ⟨x0, x1, x2, x3, x4, rfl⟩ : ∃ a b c d e, xs = [a, b, c, d, e] := by
    match xs, hxl with
    | [a, b, c, d, e], _ => exact ⟨a, b, c, d, e, rfl⟩
  have q0 := hel 0 (by simp)
  have q1 := hel 1 (by simp)
  have q2 := hel 2 (by simp)
  have q3 := hel 3 (by simp)
  have q4 := hel 4 (by simp)
  simp only [List.getElem_cons_zero, List.getElem_cons_succ, List.getElem?_cons_zero, List.getElem?_cons_succ, a1, a2, b1, b2, c1, c2, d1, d2, e1, e2, celI, celKey, celSpan, List.drop_zero, List.drop_succ_cons, List.take_succ_cons, List.take_zero] at q0 q1 q2 q3 q4
  obtain ⟨k, hk, hk2⟩ := trod_key q0
  obtain ⟨v1, rfl, h1, _⟩ := trod_i64 undI q1
  obtain ⟨lo, hi, ⟨hlo, hhi⟩, hs⟩ := trod_span q2
  obtain ⟨v3, rfl, h3, _⟩ := trod_i64 undI q3
  obtain ⟨v4, rfl, h4, _⟩ := trod_i64 undI q4
  simp only [kc, List.cons.injEq, and_true] at hk2 hs
  obtain ⟨rfl, rfl, rfl⟩ := hk2
  obtain ⟨rfl, rfl⟩ := hs
  exact ⟨⟨k, v1, lo, hi, v3, v4⟩, ⟨hk, h1, hlo, hhi, h3, h4⟩, rfl⟩

theorem agg_of {v : Value} {l : List Value} (h : v.cells.toList = l) (h2 : 2 ≤ l.length) : v = .agg l.toArray := by
  subst h
  cases v with
  | agg a => simp [Value.cells]
  | _ => simp [Value.cells] at h2

theorem arg_facts {v : Value} {d : DataW H} {ps : List MemPlace} (hx : ∀ a, v ≠ .agg a) (h : DataW.Trod enc Try.prog W 0 (fun _ => true) true 22 v d ps) (hw : ∀ y ∈ DataW.weights Try.prog 22 d, y ≤ reachBytes) :
    ∃ (l : List Fct) (p : Option Addr) (A : Addr) (cap : Nat), v = .slice p l.length cap ∧ SlV fc W p A l cap ∧ (∀ f ∈ l, OkFct f) :=
  arg_list (Q := OkFct) rfl celFact fc_len (by decide) (fun fuel cs y h => trod_fact h) hx h hw
theorem arg_fact {v : Value} {d : DataW H} {ps : List MemPlace} (h : DataW.Trod enc Try.prog W 0 (fun _ => true) true 64 v d ps) : ∃ f : Fct, OkFct f ∧ v = .agg (fc f).toArray := by
  obtain ⟨fuel, h⟩ := h
  obtain ⟨f, hf, hc⟩ := trod_fact h
  exact ⟨f, hf, agg_of hc (by simp)⟩
theorem arg_key {v : Value} {d : DataW H} {ps : List MemPlace} (h : DataW.Trod enc Try.prog W 0 (fun _ => true) true 38 v d ps) : ∃ k : Ky, OkKy k ∧ v = .agg (kc k).toArray := by
  obtain ⟨fuel, h⟩ := h
  obtain ⟨f, hf, hc⟩ := trod_key h
  exact ⟨f, hf, agg_of hc (by simp)⟩
end

end Go.Proofs.Ytfgckcochilpkaa

/- Branches: arguments that came in. -/
set_option linter.unusedVariables false
set_option maxRecDepth 100000
set_option maxHeartbeats 4000000
set_option linter.unusedSimpArgs false
namespace Go.Proofs.Ytfgckcochilpkaa
open Go Go.Eng

theorem undBr : ∃ a b c d e, Try.prog.underlying 27 = some (.struct #[a, b, c, d, e]) ∧ (a.type = 22 ∧ a.offset = 0) ∧ (b.type = 23 ∧ b.offset = 1) ∧ (c.type = 24 ∧ c.offset = 2) ∧ (d.type = 24 ∧ d.offset = 3) ∧ (e.type = 25 ∧ e.offset = 4) := ⟨_, _, _, _, _, rfl, ⟨rfl, rfl⟩, ⟨rfl, rfl⟩, ⟨rfl, rfl⟩, ⟨rfl, rfl⟩, ⟨rfl, rfl⟩⟩
theorem undCg : ∃ a b c, Try.prog.underlying 42 = some (.struct #[a, b, c]) ∧ (a.type = 38 ∧ a.offset = 0) ∧ (b.type = 3 ∧ b.offset = 3) ∧ (c.type = 40 ∧ c.offset = 4) := ⟨_, _, _, rfl, ⟨rfl, rfl⟩, ⟨rfl, rfl⟩, ⟨rfl, rfl⟩⟩
theorem undMv : ∃ a b c, Try.prog.underlying 56 = some (.struct #[a, b, c]) ∧ (a.type = 5 ∧ a.offset = 0) ∧ (b.type = 3 ∧ b.offset = 1) ∧ (c.type = 42 ∧ c.offset = 2) := ⟨_, _, _, rfl, ⟨rfl, rfl⟩, ⟨rfl, rfl⟩, ⟨rfl, rfl⟩⟩
theorem celBr : Try.prog.cellsOf 27 = 5 := rfl
theorem celFs : Try.prog.cellsOf 22 = 1 := rfl
theorem celCss : Try.prog.cellsOf 23 = 1 := rfl
theorem celCs : Try.prog.cellsOf 59 = 1 := rfl
theorem celIs : Try.prog.cellsOf 24 = 1 := rfl
theorem celBs : Try.prog.cellsOf 25 = 1 := rfl
theorem celB : Try.prog.cellsOf 4 = 1 := rfl
theorem celCg : Try.prog.cellsOf 42 = 6 := rfl
theorem celMv : Try.prog.cellsOf 56 = 8 := rfl
theorem celU8 : Try.prog.cellsOf 5 = 1 := rfl
section
variable {H : Type} {enc : TypeId × Value → H} {W : World} {sp : Nat → Bool} {base fuel : Nat} {cs : List Value} {x : DataW H × List MemPlace}
theorem trod_chg (h : DataW.trod enc Try.prog W base sp true fuel 42 cs = some x) : ∃ r : Cr, cs = cc r := by
  obtain ⟨a, b, c, hU, ⟨a1, a2⟩, ⟨b1, b2⟩, ⟨c1, c2⟩⟩ := undCg
  obtain ⟨hl, fuel', xs, hxe, hxl, hel⟩ := trod_fields hU h
  rw [celCg] at hl
  obtain ⟨u0, u1, u2, u3, u4, u5, rfl⟩ : ∃ a b c d e f, cs = [a, b, c, d, e, f] := by
    match cs, hl with
    | [a, b, c, d, e, f], _ => exact ⟨a, b, c, d, e, f, rfl⟩
  obtain ⟨x0, x1, x2, rfl⟩ : ∃ a b c, xs = [a, b, c] := by
    match xs, hxl with
    | [a, b, c], _ => exact ⟨a, b, c, rfl⟩
  have q0 := hel 0 (by simp)
  have q1 := hel 1 (by simp)
  have q2 := hel 2 (by simp)
  simp only [List.getElem_cons_zero, List.getElem_cons_succ, List.getElem?_cons_zero, List.getElem?_cons_succ, List.drop_zero, List.drop_succ_cons, List.take_succ_cons, List.take_zero, a1, a2, b1, b2, c1, c2, celI, celKey, celSpan] at q0 q1 q2
  obtain ⟨k, hk, hk2⟩ := trod_key q0
  obtain ⟨v1, rfl, h1, _⟩ := trod_i64 undI q1
  obtain ⟨lo, hi, ⟨hlo, hhi⟩, hs⟩ := trod_span q2
  simp only [kc, List.cons.injEq, and_true] at hk2 hs
  obtain ⟨rfl, rfl, rfl⟩ := hk2
  obtain ⟨rfl, rfl⟩ := hs
  exact ⟨⟨k, v1, lo, hi⟩, rfl⟩
theorem trod_u8 {t : TypeId} (hU : Try.prog.underlying t = some (.int .u8)) {c : Value} (h : DataW.trod enc Try.prog W base sp true fuel t [c] = some x) : ∃ n, c = .int .u8 n := by
  cases fuel with
  | zero => simp [DataW.trod] at h
  | succ fuel =>
  unfold DataW.trod at h
  simp only [hU] at h
  cases c with
  | int k n =>
    simp only at h
    split at h
    · rename_i hk
      obtain ⟨rfl, hk⟩ := hk
      exact ⟨n, rfl⟩
    · cases h
  | _ => simp at h
theorem trod_bool {t : TypeId} (hU : Try.prog.underlying t = some .bool) {c : Value} (h : DataW.trod enc Try.prog W base sp true fuel t [c] = some x) : ∃ n, c = .bool n := by
  cases fuel with
  | zero => simp [DataW.trod] at h
  | succ fuel =>
  unfold DataW.trod at h
  simp only [hU] at h
  cases c with
  | bool n => exact ⟨n, rfl⟩
  | _ => simp at h
theorem trod_mv (h : DataW.trod enc Try.prog W base sp true fuel 56 cs = some x) : ∃ r : Mv, cs = mvc r := by
  obtain ⟨a, b, c, hU, ⟨a1, a2⟩, ⟨b1, b2⟩, ⟨c1, c2⟩⟩ := undMv
  obtain ⟨hl, fuel', xs, hxe, hxl, hel⟩ := trod_fields hU h
  rw [celMv] at hl
  obtain ⟨u0, u1, u2, u3, u4, u5, u6, u7, rfl⟩ : ∃ a b c d e f g h, cs = [a, b, c, d, e, f, g, h] := by
    match cs, hl with
    | [a, b, c, d, e, f, g, h], _ => exact ⟨a, b, c, d, e, f, g, h, rfl⟩
  obtain ⟨x0, x1, x2, rfl⟩ : ∃ a b c, xs = [a, b, c] := by
    match xs, hxl with
    | [a, b, c], _ => exact ⟨a, b, c, rfl⟩
  have q0 := hel 0 (by simp)
  have q1 := hel 1 (by simp)
  have q2 := hel 2 (by simp)
  simp only [List.getElem_cons_zero, List.getElem_cons_succ, List.getElem?_cons_zero, List.getElem?_cons_succ, List.drop_zero, List.drop_succ_cons, List.take_succ_cons, List.take_zero, a1, a2, b1, b2, c1, c2, celI, celU8, celCg] at q0 q1 q2
  obtain ⟨kd, rfl⟩ := trod_u8 rfl q0
  obtain ⟨v1, rfl, h1, _⟩ := trod_i64 undI q1
  obtain ⟨r, hr⟩ := trod_chg q2
  simp only [cc, List.cons.injEq, and_true] at hr
  obtain ⟨rfl, rfl, rfl, rfl, rfl, rfl⟩ := hr
  exact ⟨⟨kd, v1, r⟩, rfl⟩
theorem trod_one (h : DataW.trod enc Try.prog W base sp true fuel 3 cs = some x) : cs.length = 1 := by
  cases fuel with
  | zero => simp [DataW.trod] at h
  | succ fuel =>
  unfold DataW.trod at h
  simp only [undI] at h
  match cs, h with
  | [], h => simp at h
  | [c], _ => rfl
  | c :: d :: r, h => simp at h
theorem trod_oneB (h : DataW.trod enc Try.prog W base sp true fuel 4 cs = some x) : cs.length = 1 := by
  cases fuel with
  | zero => simp [DataW.trod] at h
  | succ fuel =>
  unfold DataW.trod at h
  simp only [show Try.prog.underlying 4 = some .bool from rfl] at h
  match cs, h with
  | [], h => simp at h
  | [c], _ => rfl
  | c :: d :: r, h => simp at h
theorem arg_chg {v : Value} {d : DataW H} {ps : List MemPlace} (h : DataW.Trod enc Try.prog W 0 (fun _ => true) true 42 v d ps) : ∃ f : Cr, True ∧ v = .agg (cc f).toArray := by
  obtain ⟨fuel, h⟩ := h
  obtain ⟨f, hc⟩ := trod_chg h
  exact ⟨f, trivial, agg_of hc (by simp)⟩
theorem arg_moves {v : Value} {d : DataW H} {ps : List MemPlace} (hx : ∀ a, v ≠ .agg a) (h : DataW.Trod enc Try.prog W 0 (fun _ => true) true 54 v d ps) (hw : ∀ y ∈ DataW.weights Try.prog 54 d, y ≤ reachBytes) :
    ∃ (l : List Mv) (p : Option Addr) (A : Addr) (cap : Nat), v = .slice p l.length cap ∧ SlV mvc W p A l cap ∧ (∀ f ∈ l, True) :=
  arg_list (Q := fun _ => True) rfl celMv mvc_len (by decide) (fun fuel cs y h => (trod_mv h).imp fun _ h => ⟨trivial, h⟩) hx h hw
theorem arg_bran {v : Value} {d : DataW H} {ps : List MemPlace} (h : DataW.Trod enc Try.prog W 0 (fun _ => true) true 27 v d ps) (hw : ∀ y ∈ DataW.weights Try.prog 27 d, y ≤ reachBytes) :
    ∃ s : Bs, v = .agg (bvc s).toArray ∧ BsIn s W := by
  obtain ⟨fuel, h⟩ := h
  generalize hcs : v.cells.toList = cs at h
  obtain ⟨a, b, c, e, f, hU, ⟨a1, a2⟩, ⟨b1, b2⟩, ⟨c1, c2⟩, ⟨e1, e2⟩, ⟨f1, f2⟩⟩ := undBr
  obtain ⟨hl, fuel', xs, hxe, hxl, hel⟩ := trod_fields hU h
  rw [celBr] at hl
  obtain ⟨u0, u1, u2, u3, u4, rfl⟩ : ∃ a b c d e, cs = [a, b, c, d, e] := by
    match cs, hl with
    | [a, b, c, d, e], _ => exact ⟨a, b, c, d, e, rfl⟩
  obtain ⟨x0, x1, x2, x3, x4, rfl⟩ : ∃ a b c d e, xs = [a, b, c, d, e] := by
    match xs, hxl with
    | [a, b, c, d, e], _ => exact ⟨a, b, c, d, e, rfl⟩
  have q0 := hel 0 (by simp)
  have q1 := hel 1 (by simp)
  have q2 := hel 2 (by simp)
  have q3 := hel 3 (by simp)
  have q4 := hel 4 (by simp)
  simp only [List.getElem_cons_zero, List.getElem_cons_succ, List.getElem?_cons_zero, List.getElem?_cons_succ, List.drop_zero, List.drop_succ_cons, List.take_succ_cons, List.take_zero, a1, a2, b1, b2, c1, c2, e1, e2, f1, f2, celFs, celCss, celIs, celBs] at q0 q1 q2 q3 q4
  have hd : d = .agg [x0.1, x1.1, x2.1, x3.1, x4.1] := congrArg Prod.fst hxe
  subst hd
  have hw' : ∀ y, (y ∈ DataW.weights Try.prog 22 x0.1 ∨ y ∈ DataW.weights Try.prog 23 x1.1 ∨ y ∈ DataW.weights Try.prog 24 x2.1 ∨ y ∈ DataW.weights Try.prog 24 x3.1 ∨ y ∈ DataW.weights Try.prog 25 x4.1) → y ≤ reachBytes := fun y hy => hw y (by
    simp only [DataW.weights, hU, List.map_cons, List.map_nil, a1, b1, c1, e1, f1, DataW.weightsEach, List.mem_append, List.not_mem_nil, or_false]
    exact hy)
  obtain ⟨l0, p0, A0, cap0, hl0, hsl0, _⟩ := list_cells (Q := OkFct) rfl celFact fc_len (by decide) (fun fuel cs y h _ => trod_fact h) q0 (fun y hy => hw' y (.inl hy))
  obtain ⟨l1, p1, A1, cap1, hl1, hsl1, hok1⟩ := list_cells (Q := fun x : Bl => ∃ A, SlV cc W x.p A x.l x.c) rfl celCs blc_len (by decide) (fun fuel cs y h hw2 => by
    obtain ⟨l, p, A, cap, hl, hsl, _⟩ := list_cells (Q := fun _ => True) rfl celCg cc_len (by decide) (fun fuel cs y h _ => (trod_chg h).imp fun _ h => ⟨trivial, h⟩) h hw2
    exact ⟨⟨p, cap, l⟩, ⟨A, hsl⟩, hl⟩) q1 (fun y hy => hw' y (.inr (.inl hy)))
  obtain ⟨l2, p2, A2, cap2, hl2, hsl2, _⟩ := list_cells (en := ic) (Q := fun _ => True) rfl celI ic_len (by decide) (fun fuel cs y h _ => by
    have hc : cs.length = 1 := trod_one h
    obtain ⟨c, rfl⟩ : ∃ c, cs = [c] := by
      match cs, hc with
      | [c], _ => exact ⟨c, rfl⟩
    obtain ⟨n, rfl, _⟩ := trod_i64 undI h
    exact ⟨n, trivial, rfl⟩) q2 (fun y hy => hw' y (.inr (.inr (.inl hy))))
  obtain ⟨l3, p3, A3, cap3, hl3, hsl3, _⟩ := list_cells (en := ic) (Q := fun _ => True) rfl celI ic_len (by decide) (fun fuel cs y h _ => by
    have hc : cs.length = 1 := trod_one h
    obtain ⟨c, rfl⟩ : ∃ c, cs = [c] := by
      match cs, hc with
      | [c], _ => exact ⟨c, rfl⟩
    obtain ⟨n, rfl, _⟩ := trod_i64 undI h
    exact ⟨n, trivial, rfl⟩) q3 (fun y hy => hw' y (.inr (.inr (.inr (.inl hy)))))
  obtain ⟨l4, p4, A4, cap4, hl4, hsl4, _⟩ := list_cells (en := boc) (Q := fun _ => True) rfl celB boc_len (by decide) (fun fuel cs y h _ => by
    have hc : cs.length = 1 := trod_oneB h
    obtain ⟨c, rfl⟩ : ∃ c, cs = [c] := by
      match cs, hc with
      | [c], _ => exact ⟨c, rfl⟩
    obtain ⟨n, rfl⟩ := trod_bool rfl h
    exact ⟨n, trivial, rfl⟩) q4 (fun y hy => hw' y (.inr (.inr (.inr (.inr hy)))))
  simp only [List.cons.injEq, and_true] at hl0 hl1 hl2 hl3 hl4
  subst hl0 hl1 hl2 hl3 hl4
  exact ⟨⟨l0, p0, A0, cap0, l1, p1, A1, cap1, l2, p2, A2, cap2, l3, p3, A3, cap3, l4, p4, A4, cap4⟩, agg_of hcs (by simp), ⟨hsl0, hsl1, hok1, hsl2, hsl3, hsl4⟩⟩
end

end Go.Proofs.Ytfgckcochilpkaa
