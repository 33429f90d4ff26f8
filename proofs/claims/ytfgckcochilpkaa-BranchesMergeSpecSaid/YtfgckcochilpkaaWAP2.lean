/- Texts of one proof, put together: FactC, EngR, FactE, FactF, FactG, FactH, FactI, FactJ, FactK, FactL. -/
import Derived.Test.YtfgckcochilpkaaRows
import Derived.RangeFuncRecord
import Derived.Test.YtfgckcochilpkaaWAP1
/- The facts' walks: facts that are added; lists held against each other. -/
set_option linter.unusedVariables false
set_option maxRecDepth 100000
set_option linter.unusedSimpArgs false
namespace Go.Proofs.Ytfgckcochilpkaa
open Go Go.Eng

/-- Facts in memory of the call's own. -/
def OwnF (base : Nat) (w : World) (v : Value) (l : List Fct) : Prop := w.ownsRow base 64 8 v l.length (rowsV fc l)
theorem OwnF.ext {base : Nat} {w w' : World} {v : Value} {l : List Fct} (h : OwnF base w v l) (he : Ext [] w w') : OwnF base w' v l := own_keep0 h he
theorem OwnF.sl {base : Nat} {w : World} {v : Value} {l : List Fct} (h : OwnF base w v l) (hl : l.length ≤ 1000000) : ∃ p cap A, v = .slice p l.length cap ∧ SlV fc w p A l cap ∧ (0 < l.length → base ≤ A.block ∧ A.block < w.heap.size) := SlV.of_own h (by omega)
theorem OwnF.base {base base' : Nat} {w : World} {v : Value} {l : List Fct} (h : OwnF base w v l) (hb : base' ≤ base) : OwnF base' w v l := own_base h hb

theorem clip_at (l : List Fct) (p : Option Addr) (A : Addr) (c : Nat) (w : World) (hs : SlV fc w p A l c) :
    Calls Try.prog 78 #[.slice p l.length c] w (Ret fun r w' => Ext [] w w' ∧ ∃ p', r = .slice p' l.length l.length ∧ SlV fc w' p' A l l.length) := by
  have hle := hs.le
  have hsm := hs.small
  have hfew := hs.few
  refine calls_of_Sx (args := [.slice p l.length c]) Try.func78 rfl rfl ?_
  refine ztx ?_
  refine Ox.pure rfl rfl zas ?_
  refine Ox.fin ?_
  refine ztx ?_
  refine Ox.pure rfl rfl zmv ?_
  refine Ox.pure rfl rfl zmv ?_
  refine Ox.pure rfl rfl (rp_lenS rfl rfl rfl) ?_
  refine Ox.pure rfl rfl zmv ?_
  refine Ox.pure rfl rfl (rp_lenS rfl rfl rfl) ?_
  refine Ox.pure rfl rfl (rp_slice3 0 l.length l.length rfl rfl rfl rfl rfl rfl rfl (.inl ⟨rfl, rfl⟩) ⟨_, rfl⟩ ⟨_, rfl⟩ (by omega) (by omega) hle) ?_
  refine Ox.pure rfl rfl zas ?_
  refine Ox.fin ?_
  refine zrt ?_
  refine endE_ret [_] ⟨rfl, trivial⟩ ⟨zxc, _, rfl, ⟨fun h0 => ?_, hs.row.ext0 zxc, by omega, by omega, hfew⟩⟩
  rw [if_neg (by omega), hs.ptr h0]
  simp [addr_add0]

theorem lastBad_get {l : List Fct} {f : Fct} (h : 0 < l.length) : lastBad l f = !decide (before (l[l.length - 1]'(by omega)) f) := by
  unfold lastBad
  rw [List.getLast?_eq_getElem?, List.getElem?_eq_getElem (by omega)]
theorem lastBad_nil (f : Fct) : lastBad [] f = false := rfl

theorem add_at (l : List Fct) (f : Fct) (p : Option Addr) (A : Addr) (c : Nat) (w : World) (hs : SlV fc w p A l c) (hl : l.length ≤ 1000000) :
    Calls Try.prog 65 #[.slice p l.length c, .agg (fc f).toArray] w (Ret fun r w' => Ext [] w w' ∧ ∃ v, r = .tuple #[v, .int .i64 (addL l f).2] ∧ OwnF w.heap.size w' v (addL l f).1) := by
  have hp := hs.ptr
  have hrow := hs.row
  have hin := checkL_in l
  refine calls_of_Sx (args := [.slice p l.length c, .agg (fc f).toArray]) Try.func65 rfl rfl ?_
  by_cases h0 : checkL l = 0
  · by_cases hv : Fits f
    · refine ztx ?_
      refine Ox.act rfl rfl (acts_box rfl rfl) ?_
      rintro vbx wbx ⟨ebx, bbx, rfl, hbbx, hBbx⟩
      first | (have hCbx : Cells wbx ⟨bbx, 0, none⟩ [_, _, _, _, _, _, _, _] := hBbx.cells) | have hCbx := Blk.cellsL hBbx
      have hlbx := hBbx.lt
      have hzbx := ebx.size
      refine Ox.pure rfl rfl zas ?_
      refine Ox.pure rfl rfl zas ?_
      refine Ox.fin ?_
      refine ztx ?_
      refine Ox.pure rfl rfl zmv ?_
      refine Ox.act rfl rfl (acts_call rfl rfl rfl (check_at l p A c _ (hs.ext0 zxc))) ?_
      rintro v1 w1 ⟨e1, rfl⟩
      have hz1 := e1.size
      refine Ox.pure rfl rfl zas ?_
      refine Ox.fin ?_
      refine ztx ?_
      refine Ox.pure rfl rfl zmv ?_
      refine Ox.pure rfl rfl zbc ?_
      refine Ox.fin ?_
      refine zcf ?_
      refine zsk ?_
      refine ztx ?_
      refine Ox.val rfl rfl zra ?_
      refine Ox.act rfl rfl (acts_call rfl rfl rfl (fits_at f _)) ?_
      rintro v2 w2 ⟨e2, rfl⟩
      have hz2 := e2.size
      rw [decide_eq_true hv]
      refine Ox.pure rfl rfl (rp_not rfl rfl) ?_
      refine Ox.fin ?_
      refine zcf ?_
      refine zsk ?_
      refine Sx.seq ?_
      refine Sx.cut (ι := Unit) (fun _ => [(0, .slice p l.length c), (3, .pointer (some ⟨bbx, 0, none⟩)), (27, .bool (lastBad l f))]) (fun _ w' => Ext [] wbx w') ?_ ?_
      · by_cases hlen : 0 < l.length
        · have hi1 : l.length - 1 < l.length := by omega
          have hat := rowsV_at fc_len hi1
          have hl8 := fc_len (l[l.length - 1])
          have hge := cmpF_ge (l[l.length - 1]) f
          rw [lastBad_get hlen]
          by_cases hb : before (l[l.length - 1]) f
          · have hneg : ¬ 0 ≤ cmpF (l[l.length - 1]) f := fun h => hge.1 h hb
            rw [decide_eq_true hb]
            (repeat refine Sx.seq ?_)
            refine Sx.walkR rfl (fun _ _ _ _ h => h) [0, 1, 2, 3, 4, 5, 6, 7, 8, 9, 10, 11, 12, 13] [0, 1, 2, 3, 4, 5, 6, 7, 8, 9, 10, 12, 13] (0) (by kernel_rfl) ?_
            intro hq w3 e3; have hz3 := e3.size
            refine Wx.pure hq rfl rfl rfl rfl zmv ?_
            refine Wx.pure hq rfl rfl rfl rfl (rp_lenS rfl rfl rfl) ?_
            refine Wx.pure hq rfl rfl rfl rfl zbc ?_
            refine Wx.pure hq rfl rfl rfl rfl zmv ?_
            first | (refine Wx.skip hq rfl rfl rfl rfl ?_) | (refine Wx.pure hq rfl rfl rfl rfl zmv ?_)
            first | (refine Wx.skip hq rfl rfl rfl rfl ?_) | (refine Wx.pure hq rfl rfl rfl rfl zmv ?_)
            first | (refine Wx.skip hq rfl rfl rfl rfl ?_) | (refine Wx.pure hq rfl rfl rfl rfl (rp_lenS rfl rfl rfl) ?_)
            first | (refine Wx.skip hq rfl rfl rfl rfl ?_) | (refine Wx.pure hq rfl rfl rfl rfl zbs ?_)
            first | (refine Wx.skip hq rfl rfl rfl rfl ?_) | (refine Wx.pure hq rfl rfl rfl rfl (rp_indexAddr (l.length - 1) rfl rfl rfl rfl rfl (by assumption) (by omega) (by omega)) ?_)
            first | (refine Wx.skip hq rfl rfl rfl rfl ?_) | (refine Wx.val hq rfl rfl rfl rfl ([]) zra ?_)
            first | (refine Wx.skip hq rfl rfl rfl rfl ?_) | (refine Wx.val hq rfl rfl rfl rfl ([]) zra ?_)
            first | (refine Wx.actSkip rfl rfl rfl rfl ?_) | (refine Wx.actNew rfl rfl rfl rfl (acts_call rfl rfl rfl (compare_at (l[l.length - 1]) f _)) ?_; rintro v4 w4 e4 rfl; have hz4 := e4.size)
            first | (refine Wx.skip hq rfl rfl rfl rfl ?_) | (refine Wx.pure hq rfl rfl rfl rfl zbc ?_)
            refine Wx.pure hq rfl rfl rfl rfl zpk ?_
            refine Wx.fin ?_
            exact ⟨(), sub_cons rfl (sub_cons rfl (sub_cons rfl sub_nil)), zxc⟩
          · have hpos : 0 ≤ cmpF (l[l.length - 1]) f := hge.2 hb
            rw [decide_eq_false hb]
            (repeat refine Sx.seq ?_)
            refine Sx.walkR rfl (fun _ _ _ _ h => h) [0, 1, 2, 3, 4, 5, 6, 7, 8, 9, 10, 11, 12, 13] [0, 1, 2, 3, 4, 5, 6, 7, 8, 9, 10, 12, 13] (0) (by kernel_rfl) ?_
            intro hq w5 e5; have hz5 := e5.size
            refine Wx.pure hq rfl rfl rfl rfl zmv ?_
            refine Wx.pure hq rfl rfl rfl rfl (rp_lenS rfl rfl rfl) ?_
            refine Wx.pure hq rfl rfl rfl rfl zbc ?_
            refine Wx.pure hq rfl rfl rfl rfl zmv ?_
            first | (refine Wx.skip hq rfl rfl rfl rfl ?_) | (refine Wx.pure hq rfl rfl rfl rfl zmv ?_)
            first | (refine Wx.skip hq rfl rfl rfl rfl ?_) | (refine Wx.pure hq rfl rfl rfl rfl zmv ?_)
            first | (refine Wx.skip hq rfl rfl rfl rfl ?_) | (refine Wx.pure hq rfl rfl rfl rfl (rp_lenS rfl rfl rfl) ?_)
            first | (refine Wx.skip hq rfl rfl rfl rfl ?_) | (refine Wx.pure hq rfl rfl rfl rfl zbs ?_)
            first | (refine Wx.skip hq rfl rfl rfl rfl ?_) | (refine Wx.pure hq rfl rfl rfl rfl (rp_indexAddr (l.length - 1) rfl rfl rfl rfl rfl (by assumption) (by omega) (by omega)) ?_)
            first | (refine Wx.skip hq rfl rfl rfl rfl ?_) | (refine Wx.val hq rfl rfl rfl rfl ([]) zra ?_)
            first | (refine Wx.skip hq rfl rfl rfl rfl ?_) | (refine Wx.val hq rfl rfl rfl rfl ([]) zra ?_)
            first | (refine Wx.actSkip rfl rfl rfl rfl ?_) | (refine Wx.actNew rfl rfl rfl rfl (acts_call rfl rfl rfl (compare_at (l[l.length - 1]) f _)) ?_; rintro v6 w6 e6 rfl; have hz6 := e6.size)
            first | (refine Wx.skip hq rfl rfl rfl rfl ?_) | (refine Wx.pure hq rfl rfl rfl rfl zbc ?_)
            refine Wx.pure hq rfl rfl rfl rfl zpk ?_
            refine Wx.fin ?_
            exact ⟨(), sub_cons rfl (sub_cons rfl (sub_cons rfl sub_nil)), zxc⟩
        · obtain rfl : l = [] := List.eq_nil_of_length_eq_zero (by omega)
          (repeat refine Sx.seq ?_)
          refine Sx.walkR rfl (fun _ _ _ _ h => h) [0, 1, 2, 3, 4, 5, 6, 7, 8, 9, 10, 11, 12, 13] [0, 1, 2, 3, 4, 5, 6, 7, 8, 9, 10, 12, 13] (0) (by kernel_rfl) ?_
          intro hq w7 e7; have hz7 := e7.size
          refine Wx.pure hq rfl rfl rfl rfl zmv ?_
          refine Wx.pure hq rfl rfl rfl rfl (rp_lenS rfl rfl rfl) ?_
          refine Wx.pure hq rfl rfl rfl rfl zbc ?_
          refine Wx.pure hq rfl rfl rfl rfl zmv ?_
          first | (refine Wx.skip hq rfl rfl rfl rfl ?_) | (refine Wx.pure hq rfl rfl rfl rfl zmv ?_)
          first | (refine Wx.skip hq rfl rfl rfl rfl ?_) | (refine Wx.pure hq rfl rfl rfl rfl zmv ?_)
          first | (refine Wx.skip hq rfl rfl rfl rfl ?_) | (refine Wx.pure hq rfl rfl rfl rfl (rp_lenS rfl rfl rfl) ?_)
          first | (refine Wx.skip hq rfl rfl rfl rfl ?_) | (refine Wx.pure hq rfl rfl rfl rfl zbs ?_)
          first | (refine Wx.skip hq rfl rfl rfl rfl ?_) | (refine Wx.pure hq rfl rfl rfl rfl (rp_indexAddr (l.length - 1) rfl rfl rfl rfl rfl (by assumption) (by omega) (by omega)) ?_)
          first | (refine Wx.skip hq rfl rfl rfl rfl ?_) | (refine Wx.val hq rfl rfl rfl rfl ([]) zra ?_)
          first | (refine Wx.skip hq rfl rfl rfl rfl ?_) | (refine Wx.val hq rfl rfl rfl rfl ([]) zra ?_)
          first | (refine Wx.actSkip rfl rfl rfl rfl ?_) | (refine Wx.actNew rfl rfl rfl rfl (acts_call rfl rfl rfl (compare_at (l[l.length - 1]) f _)) ?_; rintro v8 w8 e8 rfl; have hz8 := e8.size)
          first | (refine Wx.skip hq rfl rfl rfl rfl ?_) | (refine Wx.pure hq rfl rfl rfl rfl zbc ?_)
          refine Wx.pure hq rfl rfl rfl rfl zpk ?_
          refine Wx.fin ?_
          exact ⟨(), sub_cons rfl (sub_cons rfl (sub_cons rfl sub_nil)), zxc⟩
      rintro _ wa ea
      cases hlb : lastBad l f with
      | true =>
        refine zct ?_
        refine ztx ?_
        refine Ox.pure rfl rfl zas ?_
        refine Ox.pure rfl rfl zas ?_
        refine Ox.fin ?_
        refine zrt ?_
        exact endE_ret [_, _] ⟨rfl, rfl, trivial⟩ ⟨zxc, nilS, by simp [addL, h0, hv, hlb, resV], by simp [addL, h0, hv, hlb]; exact World.ownsRow_nil _ _ _ _⟩
      | false =>
        have hzx := ebx.size
        have hza := ea.size
        have hadd : addL l f = (l ++ [f], 0) := by simp [addL, h0, hv, hlb]
        refine zcf ?_
        refine zsk ?_
        refine Sx.seq (Sx.upto (fun E' w' => Ext [] w w' ∧ ∃ v, get E' 4 = some v ∧ get E' 5 = some (.int .i64 0) ∧ OwnF w.heap.size w' v (l ++ [f])) ?_ ?_)
        · (repeat refine Sx.seq ?_)
          refine Sx.walkR rfl (fun _ _ _ _ h => h) [0, 2] [0, 2, 5, 6] (5) (by kernel_rfl) ?_
          intro hq w9 e9; have hz9 := e9.size
          refine Wx.pure hq rfl rfl rfl rfl zmv ?_
          refine Wx.val hq rfl rfl rfl rfl ([]) zra ?_
          refine Wx.fork (i := 1) (j := 3) (by kernel_rfl) ?_ ?_
          · refine Go.Eng.Br.mk [(2, [], w9)] rfl rfl rfl ([]) (.keep (fun y hy => .inl hy) (PendK.nil)) (acts_call rfl rfl rfl (clip_at l p A c _ (hs.ext0 zxc))) (fun _ _ h => h.1) [3, 4, 5, 6] (0) (by kernel_rfl) ?_
            rintro vcl wcl ⟨ecl, p', rfl, hsc⟩
            have hzcl := ecl.size
            refine Wx.actNew rfl rfl rfl rfl (acts_buildSlice (ps := [(0, .tmp 30)]) rfl rfl rfl rfl rfl rfl rfl rfl) ?_
            rintro vbs wbs ebs ⟨bbs, rfl, hbbs, hBbs⟩
            first | (have hCbs : Cells wbs ⟨bbs, 0, none⟩ [_, _, _, _, _, _, _, _] := hBbs.cells) | have hCbs := Blk.cellsL hBbs
            have hlbs := hBbs.lt
            have hzbs := ebs.size
            refine Wx.actLast rfl rfl rfl rfl (by kernel_rfl) (acts_append_full (e := 64) (size := 8) (bytes := 64) rfl rfl rfl rfl hsc.ptr (rowsV_length fc_len l) (hsc.row.ext0 zxc) (source_slice rfl rfl (fun _ => rfl) (hCbs.ext0 zxc) (fc_one f)) (by decide) (by omega) (by omega) w.heap.size (by omega)) ?_
            rintro vap wap ⟨hownap, eap⟩
            refine Wx.pure hq rfl rfl rfl rfl zas ?_
            refine Wx.pure hq rfl rfl rfl rfl zas ?_
            refine Wx.fin ?_
            refine ⟨zxc, _, rfl, rfl, ?_⟩
            unfold OwnF
            rw [List.length_append, rowsV_append, rowsV_one]
            exact hownap
          · refine Go.Eng.Br.mk [] rfl rfl rfl ([]) (.drop (by kernel_rfl) (PendK.nil)) (acts_buildSlice (ps := [(0, .tmp 30)]) rfl rfl rfl rfl rfl rfl rfl rfl) (fun _ _ h => h.1) [1, 4, 5, 6] (0) (by kernel_rfl) ?_
            rintro vbs wbs ⟨ebs, bbs, rfl, hbbs, hBbs⟩
            first | (have hCbs : Cells wbs ⟨bbs, 0, none⟩ [_, _, _, _, _, _, _, _] := hBbs.cells) | have hCbs := Blk.cellsL hBbs
            have hlbs := hBbs.lt
            have hzbs := ebs.size
            refine Wx.actNew rfl rfl rfl rfl (acts_call rfl rfl rfl (clip_at l p A c _ (hs.ext0 zxc))) ?_
            rintro vcl wcl ecl ⟨p', rfl, hsc⟩
            have hzcl := ecl.size
            refine Wx.actLast rfl rfl rfl rfl (by kernel_rfl) (acts_append_full (e := 64) (size := 8) (bytes := 64) rfl rfl rfl rfl hsc.ptr (rowsV_length fc_len l) (hsc.row.ext0 zxc) (source_slice rfl rfl (fun _ => rfl) (hCbs.ext0 zxc) (fc_one f)) (by decide) (by omega) (by omega) w.heap.size (by omega)) ?_
            rintro vap wap ⟨hownap, eap⟩
            refine Wx.pure hq rfl rfl rfl rfl zas ?_
            refine Wx.pure hq rfl rfl rfl rfl zas ?_
            refine Wx.fin ?_
            refine ⟨zxc, _, rfl, rfl, ?_⟩
            unfold OwnF
            rw [List.length_append, rowsV_append, rowsV_one]
            exact hownap
        · rintro E' w' ⟨hx, v, h4, h5, ho⟩
          refine thenE_normal ?_
          refine zrt ?_
          refine endE_ret [v, .int .i64 0] ⟨h4, h5, trivial⟩ ⟨hx, v, ?_, ?_⟩
          · rw [hadd]; rfl
          · rw [hadd]; exact ho
    · refine ztx ?_
      refine Ox.act rfl rfl (acts_box rfl rfl) ?_
      rintro vbx wbx ⟨ebx, bbx, rfl, hbbx, hBbx⟩
      first | (have hCbx : Cells wbx ⟨bbx, 0, none⟩ [_, _, _, _, _, _, _, _] := hBbx.cells) | have hCbx := Blk.cellsL hBbx
      have hlbx := hBbx.lt
      have hzbx := ebx.size
      refine Ox.pure rfl rfl zas ?_
      refine Ox.pure rfl rfl zas ?_
      refine Ox.fin ?_
      refine ztx ?_
      refine Ox.pure rfl rfl zmv ?_
      refine Ox.act rfl rfl (acts_call rfl rfl rfl (check_at l p A c _ (hs.ext0 zxc))) ?_
      rintro v10 w10 ⟨e10, rfl⟩
      have hz10 := e10.size
      refine Ox.pure rfl rfl zas ?_
      refine Ox.fin ?_
      refine ztx ?_
      refine Ox.pure rfl rfl zmv ?_
      refine Ox.pure rfl rfl zbc ?_
      refine Ox.fin ?_
      refine zcf ?_
      refine zsk ?_
      refine ztx ?_
      refine Ox.val rfl rfl zra ?_
      refine Ox.act rfl rfl (acts_call rfl rfl rfl (fits_at f _)) ?_
      rintro v11 w11 ⟨e11, rfl⟩
      have hz11 := e11.size
      rw [decide_eq_false hv]
      refine Ox.pure rfl rfl (rp_not rfl rfl) ?_
      refine Ox.fin ?_
      refine zct ?_
      refine ztx ?_
      refine Ox.pure rfl rfl zas ?_
      refine Ox.pure rfl rfl zas ?_
      refine Ox.fin ?_
      refine zrt ?_
      exact endE_ret [_, _] ⟨rfl, rfl, trivial⟩ ⟨zxc, nilS, by simp [addL, h0, hv, resV], by simp [addL, h0, hv]; exact World.ownsRow_nil _ _ _ _⟩
  · refine ztx ?_
    refine Ox.act rfl rfl (acts_box rfl rfl) ?_
    rintro vbx wbx ⟨ebx, bbx, rfl, hbbx, hBbx⟩
    first | (have hCbx : Cells wbx ⟨bbx, 0, none⟩ [_, _, _, _, _, _, _, _] := hBbx.cells) | have hCbx := Blk.cellsL hBbx
    have hlbx := hBbx.lt
    have hzbx := ebx.size
    refine Ox.pure rfl rfl zas ?_
    refine Ox.pure rfl rfl zas ?_
    refine Ox.fin ?_
    refine ztx ?_
    refine Ox.pure rfl rfl zmv ?_
    refine Ox.act rfl rfl (acts_call rfl rfl rfl (check_at l p A c _ (hs.ext0 zxc))) ?_
    rintro v12 w12 ⟨e12, rfl⟩
    have hz12 := e12.size
    refine Ox.pure rfl rfl zas ?_
    refine Ox.fin ?_
    refine ztx ?_
    refine Ox.pure rfl rfl zmv ?_
    refine Ox.pure rfl rfl zbc ?_
    refine Ox.fin ?_
    refine zct ?_
    refine ztx ?_
    refine Ox.pure rfl rfl zmv ?_
    refine Ox.pure rfl rfl zas ?_
    refine Ox.pure rfl rfl zas ?_
    refine Ox.fin ?_
    refine zrt ?_
    exact endE_ret [_, _] ⟨rfl, rfl, trivial⟩ ⟨zxc, nilS, by simp [addL, h0, resV], by simp [addL, h0]; exact World.ownsRow_nil _ _ _ _⟩

theorem ref_Add (l : List Fct) (f : Fct) (p : Option Addr) (A : Addr) (c : Nat) (w : World) (hs : SlV fc w p A l c) (hl : l.length ≤ 1000000) :
    Calls Try.prog 67 #[.slice p l.length c, .agg (fc f).toArray] w (Ret fun r w' => Ext [] w w' ∧ ∃ v, r = .tuple #[v, .int .i64 (addL l f).2] ∧ OwnF w.heap.size w' v (addL l f).1) := by
  have hp := hs.ptr
  have hrow := hs.row
  have hin := checkL_in l
  refine calls_of_Sx (args := [.slice p l.length c, .agg (fc f).toArray]) Try.func67 rfl rfl ?_
  by_cases h0 : checkL l = 0
  · by_cases hv : Fits f
    · refine ztx ?_
      refine Ox.act rfl rfl (acts_box rfl rfl) ?_
      rintro vbx wbx ⟨ebx, bbx, rfl, hbbx, hBbx⟩
      first | (have hCbx : Cells wbx ⟨bbx, 0, none⟩ [_, _, _, _, _, _, _, _] := hBbx.cells) | have hCbx := Blk.cellsL hBbx
      have hlbx := hBbx.lt
      have hzbx := ebx.size
      refine Ox.pure rfl rfl zas ?_
      refine Ox.pure rfl rfl zas ?_
      refine Ox.fin ?_
      refine ztx ?_
      refine Ox.pure rfl rfl zmv ?_
      refine Ox.act rfl rfl (acts_call rfl rfl rfl (ref_Check l p A c _ (hs.ext0 zxc))) ?_
      rintro v13 w13 ⟨e13, rfl⟩
      have hz13 := e13.size
      refine Ox.pure rfl rfl zas ?_
      refine Ox.fin ?_
      refine ztx ?_
      refine Ox.pure rfl rfl zmv ?_
      refine Ox.pure rfl rfl zbc ?_
      refine Ox.fin ?_
      refine zcf ?_
      refine zsk ?_
      refine ztx ?_
      refine Ox.val rfl rfl zra ?_
      refine Ox.act rfl rfl (acts_call rfl rfl rfl (ref_Valid f _)) ?_
      rintro v14 w14 ⟨e14, rfl⟩
      have hz14 := e14.size
      rw [decide_eq_true hv]
      refine Ox.pure rfl rfl (rp_not rfl rfl) ?_
      refine Ox.fin ?_
      refine zcf ?_
      refine zsk ?_
      refine Sx.seq ?_
      refine Sx.cut (ι := Unit) (fun _ => [(0, .slice p l.length c), (3, .pointer (some ⟨bbx, 0, none⟩)), (28, .bool (lastBad l f))]) (fun _ w' => Ext [] wbx w') ?_ ?_
      · by_cases hlen : 0 < l.length
        · have hi1 : l.length - 1 < l.length := by omega
          have hat := rowsV_at fc_len hi1
          have hl8 := fc_len (l[l.length - 1])
          rw [lastBad_get hlen]
          (repeat refine Sx.seq ?_)
          refine Sx.walkR rfl (fun _ _ _ _ h => h) [0, 1, 2, 3, 4, 5, 6, 7, 8, 9, 10, 11, 12, 13] [0, 1, 2, 3, 4, 5, 6, 7, 8, 9, 10, 12, 13] (0) (by kernel_rfl) ?_
          intro hq w15 e15; have hz15 := e15.size
          refine Wx.pure hq rfl rfl rfl rfl zmv ?_
          refine Wx.pure hq rfl rfl rfl rfl (rp_lenS rfl rfl rfl) ?_
          refine Wx.pure hq rfl rfl rfl rfl zbc ?_
          refine Wx.pure hq rfl rfl rfl rfl zmv ?_
          first | (refine Wx.skip hq rfl rfl rfl rfl ?_) | (refine Wx.pure hq rfl rfl rfl rfl zmv ?_)
          first | (refine Wx.skip hq rfl rfl rfl rfl ?_) | (refine Wx.pure hq rfl rfl rfl rfl zmv ?_)
          first | (refine Wx.skip hq rfl rfl rfl rfl ?_) | (refine Wx.pure hq rfl rfl rfl rfl (rp_lenS rfl rfl rfl) ?_)
          first | (refine Wx.skip hq rfl rfl rfl rfl ?_) | (refine Wx.pure hq rfl rfl rfl rfl zbs ?_)
          first | (refine Wx.skip hq rfl rfl rfl rfl ?_) | (refine Wx.pure hq rfl rfl rfl rfl (rp_indexAddr (l.length - 1) rfl rfl rfl rfl rfl (by assumption) (by omega) (by omega)) ?_)
          first | (refine Wx.skip hq rfl rfl rfl rfl ?_) | (refine Wx.val hq rfl rfl rfl rfl ([]) zra ?_)
          first | (refine Wx.skip hq rfl rfl rfl rfl ?_) | (refine Wx.val hq rfl rfl rfl rfl ([]) zra ?_)
          first | (refine Wx.actSkip rfl rfl rfl rfl ?_) | (refine Wx.actNew rfl rfl rfl rfl (acts_call rfl rfl rfl (ref_Before (l[l.length - 1]) f _)) ?_; rintro v16 w16 e16 rfl; have hz16 := e16.size)
          first | (refine Wx.skip hq rfl rfl rfl rfl ?_) | (refine Wx.pure hq rfl rfl rfl rfl (rp_not rfl rfl) ?_)
          refine Wx.pure hq rfl rfl rfl rfl zpk ?_
          refine Wx.fin ?_
          exact ⟨(), sub_cons rfl (sub_cons rfl (sub_cons rfl sub_nil)), zxc⟩
        · obtain rfl : l = [] := List.eq_nil_of_length_eq_zero (by omega)
          (repeat refine Sx.seq ?_)
          refine Sx.walkR rfl (fun _ _ _ _ h => h) [0, 1, 2, 3, 4, 5, 6, 7, 8, 9, 10, 11, 12, 13] [0, 1, 2, 3, 4, 5, 6, 7, 8, 9, 10, 12, 13] (0) (by kernel_rfl) ?_
          intro hq w17 e17; have hz17 := e17.size
          refine Wx.pure hq rfl rfl rfl rfl zmv ?_
          refine Wx.pure hq rfl rfl rfl rfl (rp_lenS rfl rfl rfl) ?_
          refine Wx.pure hq rfl rfl rfl rfl zbc ?_
          refine Wx.pure hq rfl rfl rfl rfl zmv ?_
          first | (refine Wx.skip hq rfl rfl rfl rfl ?_) | (refine Wx.pure hq rfl rfl rfl rfl zmv ?_)
          first | (refine Wx.skip hq rfl rfl rfl rfl ?_) | (refine Wx.pure hq rfl rfl rfl rfl zmv ?_)
          first | (refine Wx.skip hq rfl rfl rfl rfl ?_) | (refine Wx.pure hq rfl rfl rfl rfl (rp_lenS rfl rfl rfl) ?_)
          first | (refine Wx.skip hq rfl rfl rfl rfl ?_) | (refine Wx.pure hq rfl rfl rfl rfl zbs ?_)
          first | (refine Wx.skip hq rfl rfl rfl rfl ?_) | (refine Wx.pure hq rfl rfl rfl rfl (rp_indexAddr (l.length - 1) rfl rfl rfl rfl rfl (by assumption) (by omega) (by omega)) ?_)
          first | (refine Wx.skip hq rfl rfl rfl rfl ?_) | (refine Wx.val hq rfl rfl rfl rfl ([]) zra ?_)
          first | (refine Wx.skip hq rfl rfl rfl rfl ?_) | (refine Wx.val hq rfl rfl rfl rfl ([]) zra ?_)
          first | (refine Wx.actSkip rfl rfl rfl rfl ?_) | (refine Wx.actNew rfl rfl rfl rfl (acts_call rfl rfl rfl (ref_Before (l[l.length - 1]) f _)) ?_; rintro v18 w18 e18 rfl; have hz18 := e18.size)
          first | (refine Wx.skip hq rfl rfl rfl rfl ?_) | (refine Wx.pure hq rfl rfl rfl rfl (rp_not rfl rfl) ?_)
          refine Wx.pure hq rfl rfl rfl rfl zpk ?_
          refine Wx.fin ?_
          exact ⟨(), sub_cons rfl (sub_cons rfl (sub_cons rfl sub_nil)), zxc⟩
      rintro _ wa ea
      cases hlb : lastBad l f with
      | true =>
        refine zct ?_
        refine ztx ?_
        refine Ox.pure rfl rfl zas ?_
        refine Ox.pure rfl rfl zas ?_
        refine Ox.fin ?_
        refine zrt ?_
        exact endE_ret [_, _] ⟨rfl, rfl, trivial⟩ ⟨zxc, nilS, by simp [addL, h0, hv, hlb, resV], by simp [addL, h0, hv, hlb]; exact World.ownsRow_nil _ _ _ _⟩
      | false =>
        have hzx := ebx.size
        have hza := ea.size
        have hadd : addL l f = (l ++ [f], 0) := by simp [addL, h0, hv, hlb]
        refine zcf ?_
        refine zsk ?_
        refine Sx.seq (Sx.upto (fun E' w' => Ext [] w w' ∧ ∃ v, get E' 4 = some v ∧ get E' 5 = some (.int .i64 0) ∧ OwnF w.heap.size w' v (l ++ [f])) ?_ ?_)
        · (repeat refine Sx.seq ?_)
          refine Sx.walkR rfl (fun _ _ _ _ h => h) [1, 3] [1, 3, 6, 7] (6) (by kernel_rfl) ?_
          intro hq w19 e19; have hz19 := e19.size
          refine Wx.pure hq rfl rfl rfl rfl zmv ?_
          refine Wx.val hq rfl rfl rfl rfl ([]) zra ?_
          refine Wx.fork (i := 0) (j := 4) (by kernel_rfl) ?_ ?_
          · refine Go.Eng.Br.mk [(3, [], w19)] rfl rfl rfl ([]) (.keep (fun y hy => .inl hy) (PendK.nil)) (acts_buildSlice (ps := []) rfl rfl rfl rfl rfl rfl rfl rfl) (fun _ _ h => h.1) [] (5) (by kernel_rfl) ?_
            rintro vb0 wb0 ⟨eb0, bb0, rfl, hbb0, hBb0⟩
            first | (have hCb0 : Cells wb0 ⟨bb0, 0, none⟩ [] := hBb0.cells) | have hCb0 := Blk.cellsL hBb0
            have hlb0 := hBb0.lt
            have hzb0 := eb0.size
            have ho0 : wb0.ownsRow w.heap.size 64 8 (.slice (some ⟨bb0, 0, none⟩) 0 0) 0 [] := own_built (size := 8) (len := 0) hBb0 (by omega) rfl (by decide)
            refine Wx.fork (i := 2) (j := 4) (by kernel_rfl) ?_ ?_
            · refine Go.Eng.Br.mk [(3, [], w19)] rfl rfl rfl ([bb0]) (.keep (fun y hy => .inr (by simp only [List.mem_singleton] at hy; subst hy; simp only; omega)) (PendK.nil)) (acts_append (e := 64) (size := 8) (bytes := 64) rfl rfl rfl rfl (own_keep0 ho0 zxc) ((hs.ext0 zxc).src rfl fc_len fc_one) (by first | omega | (dsimp only; omega)) (by first | omega | (dsimp only; omega)) (by omega)) (fun _ _ h => h.ext) [4, 5, 6, 7] (0) (by kernel_rfl) ?_
              rintro va1 wa1 hga1
              have ea1 : Ext [] w wa1 := hga1.ext0 zxc (fun g hg => by simp [Value.ownBlock] at hg; omega); have hza1 := hga1.ext.size
              refine Wx.actNew rfl rfl rfl rfl (acts_buildSlice (ps := [(0, .tmp 32)]) rfl rfl rfl rfl rfl rfl rfl rfl) ?_
              rintro vbs wbs ebs ⟨bbs, rfl, hbbs, hBbs⟩
              first | (have hCbs : Cells wbs ⟨bbs, 0, none⟩ [_, _, _, _, _, _, _, _] := hBbs.cells) | have hCbs := Blk.cellsL hBbs
              have hlbs := hBbs.lt
              have hzbs := ebs.size
              refine Wx.actLast rfl rfl rfl rfl (by kernel_rfl) (acts_append (e := 64) (size := 8) (bytes := 64) rfl rfl rfl rfl (own_keep0 hga1.own zxc) (by first | exact source_slice rfl rfl (fun _ => rfl) (hCbs.ext0 zxc) (fc_one f) | exact source_slice rfl rfl (fun _ => rfl) ((hCbs.ext0 zxc).ext hga1.ext (by simp [Value.ownBlock]; omega)) (fc_one f)) (by first | omega | (dsimp only; omega)) (by first | omega | (dsimp only; omega)) (by omega)) ?_
              rintro vap wap hgap
              refine Wx.pure hq rfl rfl rfl rfl zas ?_
              refine Wx.pure hq rfl rfl rfl rfl zas ?_
              refine Wx.fin ?_
              refine ⟨hgap.ext0 zxc (fun g hg => (own_lt hga1.own g (by simp [hg])).1), _, rfl, rfl, ?_⟩
              have := hgap.own
              simpa [OwnF, rowsV_append, rowsV_one] using this
            · refine Go.Eng.Br.mk [] rfl rfl rfl ([]) (.drop (by kernel_rfl) (PendK.nil)) (acts_buildSlice (ps := [(0, .tmp 32)]) rfl rfl rfl rfl rfl rfl rfl rfl) (fun _ _ h => h.1) [2, 5, 6, 7] (0) (by kernel_rfl) ?_
              rintro vbs wbs ⟨ebs, bbs, rfl, hbbs, hBbs⟩
              first | (have hCbs : Cells wbs ⟨bbs, 0, none⟩ [_, _, _, _, _, _, _, _] := hBbs.cells) | have hCbs := Blk.cellsL hBbs
              have hlbs := hBbs.lt
              have hzbs := ebs.size
              refine Wx.actX [] rfl rfl rfl rfl ([bb0]) (PendK.nil) (acts_append (e := 64) (size := 8) (bytes := 64) rfl rfl rfl rfl (own_keep0 ho0 zxc) ((hs.ext0 zxc).src rfl fc_len fc_one) (by first | omega | (dsimp only; omega)) (by first | omega | (dsimp only; omega)) (by omega)) (fun _ _ h => h.ext) ?_
              rintro va1 wa1 hga1
              have ea1 : Ext [] w wa1 := hga1.ext0 zxc (fun g hg => by simp [Value.ownBlock] at hg; omega); have hza1 := hga1.ext.size
              refine Wx.actLast rfl rfl rfl rfl (by kernel_rfl) (acts_append (e := 64) (size := 8) (bytes := 64) rfl rfl rfl rfl (own_keep0 hga1.own zxc) (by first | exact source_slice rfl rfl (fun _ => rfl) (hCbs.ext0 zxc) (fc_one f) | exact source_slice rfl rfl (fun _ => rfl) ((hCbs.ext0 zxc).ext hga1.ext (by simp [Value.ownBlock]; omega)) (fc_one f)) (by first | omega | (dsimp only; omega)) (by first | omega | (dsimp only; omega)) (by omega)) ?_
              rintro vap wap hgap
              refine Wx.pure hq rfl rfl rfl rfl zas ?_
              refine Wx.pure hq rfl rfl rfl rfl zas ?_
              refine Wx.fin ?_
              refine ⟨hgap.ext0 zxc (fun g hg => (own_lt hga1.own g (by simp [hg])).1), _, rfl, rfl, ?_⟩
              have := hgap.own
              simpa [OwnF, rowsV_append, rowsV_one] using this
          · refine Go.Eng.Br.mk [] rfl rfl rfl ([]) (.drop (by kernel_rfl) (PendK.nil)) (acts_buildSlice (ps := [(0, .tmp 32)]) rfl rfl rfl rfl rfl rfl rfl rfl) (fun _ _ h => h.1) [0, 2, 5, 6, 7] (0) (by kernel_rfl) ?_
            rintro vbs wbs ⟨ebs, bbs, rfl, hbbs, hBbs⟩
            first | (have hCbs : Cells wbs ⟨bbs, 0, none⟩ [_, _, _, _, _, _, _, _] := hBbs.cells) | have hCbs := Blk.cellsL hBbs
            have hlbs := hBbs.lt
            have hzbs := ebs.size
            refine Wx.actNew rfl rfl rfl rfl (acts_buildSlice (ps := []) rfl rfl rfl rfl rfl rfl rfl rfl) ?_
            rintro vb0 wb0 eb0 ⟨bb0, rfl, hbb0, hBb0⟩
            first | (have hCb0 : Cells wb0 ⟨bb0, 0, none⟩ [] := hBb0.cells) | have hCb0 := Blk.cellsL hBb0
            have hlb0 := hBb0.lt
            have hzb0 := eb0.size
            have ho0 : wb0.ownsRow w.heap.size 64 8 (.slice (some ⟨bb0, 0, none⟩) 0 0) 0 [] := own_built (size := 8) (len := 0) hBb0 (by omega) rfl (by decide)
            refine Wx.actX [] rfl rfl rfl rfl ([bb0]) (PendK.nil) (acts_append (e := 64) (size := 8) (bytes := 64) rfl rfl rfl rfl (own_keep0 ho0 zxc) ((hs.ext0 zxc).src rfl fc_len fc_one) (by first | omega | (dsimp only; omega)) (by first | omega | (dsimp only; omega)) (by omega)) (fun _ _ h => h.ext) ?_
            rintro va1 wa1 hga1
            have ea1 : Ext [] w wa1 := hga1.ext0 zxc (fun g hg => by simp [Value.ownBlock] at hg; omega); have hza1 := hga1.ext.size
            refine Wx.actLast rfl rfl rfl rfl (by kernel_rfl) (acts_append (e := 64) (size := 8) (bytes := 64) rfl rfl rfl rfl (own_keep0 hga1.own zxc) (by first | exact source_slice rfl rfl (fun _ => rfl) (hCbs.ext0 zxc) (fc_one f) | exact source_slice rfl rfl (fun _ => rfl) ((hCbs.ext0 zxc).ext hga1.ext (by simp [Value.ownBlock]; omega)) (fc_one f)) (by first | omega | (dsimp only; omega)) (by first | omega | (dsimp only; omega)) (by omega)) ?_
            rintro vap wap hgap
            refine Wx.pure hq rfl rfl rfl rfl zas ?_
            refine Wx.pure hq rfl rfl rfl rfl zas ?_
            refine Wx.fin ?_
            refine ⟨hgap.ext0 zxc (fun g hg => (own_lt hga1.own g (by simp [hg])).1), _, rfl, rfl, ?_⟩
            have := hgap.own
            simpa [OwnF, rowsV_append, rowsV_one] using this
        · rintro E' w' ⟨hx, v, h4, h5, ho⟩
          refine thenE_normal ?_
          refine zrt ?_
          refine endE_ret [v, .int .i64 0] ⟨h4, h5, trivial⟩ ⟨hx, v, ?_, ?_⟩
          · rw [hadd]; rfl
          · rw [hadd]; exact ho
    · refine ztx ?_
      refine Ox.act rfl rfl (acts_box rfl rfl) ?_
      rintro vbx wbx ⟨ebx, bbx, rfl, hbbx, hBbx⟩
      first | (have hCbx : Cells wbx ⟨bbx, 0, none⟩ [_, _, _, _, _, _, _, _] := hBbx.cells) | have hCbx := Blk.cellsL hBbx
      have hlbx := hBbx.lt
      have hzbx := ebx.size
      refine Ox.pure rfl rfl zas ?_
      refine Ox.pure rfl rfl zas ?_
      refine Ox.fin ?_
      refine ztx ?_
      refine Ox.pure rfl rfl zmv ?_
      refine Ox.act rfl rfl (acts_call rfl rfl rfl (ref_Check l p A c _ (hs.ext0 zxc))) ?_
      rintro v20 w20 ⟨e20, rfl⟩
      have hz20 := e20.size
      refine Ox.pure rfl rfl zas ?_
      refine Ox.fin ?_
      refine ztx ?_
      refine Ox.pure rfl rfl zmv ?_
      refine Ox.pure rfl rfl zbc ?_
      refine Ox.fin ?_
      refine zcf ?_
      refine zsk ?_
      refine ztx ?_
      refine Ox.val rfl rfl zra ?_
      refine Ox.act rfl rfl (acts_call rfl rfl rfl (ref_Valid f _)) ?_
      rintro v21 w21 ⟨e21, rfl⟩
      have hz21 := e21.size
      rw [decide_eq_false hv]
      refine Ox.pure rfl rfl (rp_not rfl rfl) ?_
      refine Ox.fin ?_
      refine zct ?_
      refine ztx ?_
      refine Ox.pure rfl rfl zas ?_
      refine Ox.pure rfl rfl zas ?_
      refine Ox.fin ?_
      refine zrt ?_
      exact endE_ret [_, _] ⟨rfl, rfl, trivial⟩ ⟨zxc, nilS, by simp [addL, h0, hv, resV], by simp [addL, h0, hv]; exact World.ownsRow_nil _ _ _ _⟩
  · refine ztx ?_
    refine Ox.act rfl rfl (acts_box rfl rfl) ?_
    rintro vbx wbx ⟨ebx, bbx, rfl, hbbx, hBbx⟩
    first | (have hCbx : Cells wbx ⟨bbx, 0, none⟩ [_, _, _, _, _, _, _, _] := hBbx.cells) | have hCbx := Blk.cellsL hBbx
    have hlbx := hBbx.lt
    have hzbx := ebx.size
    refine Ox.pure rfl rfl zas ?_
    refine Ox.pure rfl rfl zas ?_
    refine Ox.fin ?_
    refine ztx ?_
    refine Ox.pure rfl rfl zmv ?_
    refine Ox.act rfl rfl (acts_call rfl rfl rfl (ref_Check l p A c _ (hs.ext0 zxc))) ?_
    rintro v22 w22 ⟨e22, rfl⟩
    have hz22 := e22.size
    refine Ox.pure rfl rfl zas ?_
    refine Ox.fin ?_
    refine ztx ?_
    refine Ox.pure rfl rfl zmv ?_
    refine Ox.pure rfl rfl zbc ?_
    refine Ox.fin ?_
    refine zct ?_
    refine ztx ?_
    refine Ox.pure rfl rfl zmv ?_
    refine Ox.pure rfl rfl zas ?_
    refine Ox.pure rfl rfl zas ?_
    refine Ox.fin ?_
    refine zrt ?_
    exact endE_ret [_, _] ⟨rfl, rfl, trivial⟩ ⟨zxc, nilS, by simp [addL, h0, resV], by simp [addL, h0]; exact World.ownsRow_nil _ _ _ _⟩

end Go.Proofs.Ytfgckcochilpkaa

/- The engine, part nine: a range over a function. -/
set_option linter.unusedVariables false
set_option linter.unusedSimpArgs false
namespace Go.Eng
open Go

section
variable {P : Program} {n : Nat} {ds : List Deferred} {Q : PostE} {E : Env} {w : World} {o : Oper}

/-! ## The iterator's side -/

/-- A call of yield with the values vs. -/
def YieldE (P : Program) (l : Nat) (vs : List Value) (w : World) (R : Value → World → Prop) : Prop :=
  ∃ f tmps asn bd, (Instr.yield l vs.toArray).run P w = .ok (.round l f tmps asn bd) w ∧ RoundIn Fence.wide 0 P l f tmps asn bd w (Ret R)

theorem acts_yield {f : Operand} {l : Nat} {xs : List Operand} {ts : Array TypeId} {vs : List Value} {K : Value → World → Prop}
    (ho : o.op = .call { callee := .value f, args := xs.toArray, argTypes := ts }) (hf : ev E f = some (.func (.yield l) #[] #[])) (hx : evs E xs = some vs) (hy : YieldE P l vs w K) : Acts P n ds E o w K Q := by
  intro a ha _
  obtain ⟨g, tmps, asn, bd, h1, h2⟩ := hy
  refine .inr (.inr (.inr (.inr ⟨l, g, tmps, asn, bd, w, ?_, h2.mono fun e w' h => ?_⟩)))
  · have h3 : xs.toArray.map a.eval = vs.toArray := by rw [← ha.evals hx]; simp
    simp only [execOp, ho, resolve, Deferred.ofValue, ha.eval hf, h3, Sem.run_bind, Sem.run_pure, Result.andThen_ok, invoke, Array.empty_append, Array.append_empty, h1]
  · cases e with
    | returned v => exact h
    | panicked c => exact h.elim
    | outgrown => exact h.elim

/-- What a round may rely on between two calls of yield: `J pre X w`: pre has come; X: the blocks that are the rounds' own. B: what the iterator changes lies from B on. -/
structure Rounds (J : List (List Value) → List Nat → World → Prop) (B : Nat) : Prop where
  stay : ∀ i X W W' Z, J i X W → Ext Z W W' → (∀ z ∈ Z, B ≤ z ∧ z ∉ X) → J i X W'
  lt : ∀ i X W, J i X W → ∀ k ∈ X, k < W.heap.size

/-- A round has been made: what it changed. -/
def RoundStep (J : List (List Value) → List Nat → World → Prop) (X : List Nat) (pre : List (List Value)) (W W' : World) : Prop :=
  ∃ X', J pre X' W' ∧ (∃ Y, Ext Y W W' ∧ ∀ y ∈ Y, y ∈ X ∨ W.heap.size ≤ y) ∧ ∀ k ∈ X', k ∈ X ∨ W.heap.size ≤ k

/-- The contract of an iterator's function g with lb captured, called in W: S: the blocks that it reads; Nxt: what may come next; Fin: what may have come at the end. -/
def IterE (P : Program) (g : FuncId) (lb : Array Value) (B : Nat) (S : Nat → Prop) (Nxt : List (List Value) → List Value → Prop) (Fin : List (List Value) → Prop) (W : World) : Prop :=
  ∀ (l : Nat) (J : List (List Value) → List Nat → World → Prop), Rounds J B →
    (∀ pre x X W1, Nxt pre x → J pre X W1 → YieldE P l x W1 fun v W2 => v = .bool true ∧ RoundStep J X (pre ++ [x]) W1 W2) →
    ∀ X, J [] X W → (∀ k ∈ X, ¬ S k) →
    Calls P g (#[.func (.yield l) #[] #[]] ++ lb) W (Ret fun _ W' => ∃ pre X', Fin pre ∧ J pre X' W')

/-- What was read lies asn it lay. -/
theorem RoundStep.cells {J : List (List Value) → List Nat → World → Prop} {X : List Nat} {pre : List (List Value)} {W W' : World} (h : RoundStep J X pre W W') {A : Addr} {cs : List Value} (hc : Cells W A cs) (hX : A.block ∉ X) : Cells W' A cs := by
  obtain ⟨_, _, ⟨Y, he, hY⟩, _⟩ := h
  by_cases hcs : cs = []
  · subst hcs; exact cells_nil _ _
  · refine hc.ext he fun hm => ?_
    rcases hY _ hm with h1 | h1
    · exact hX h1
    · have := hc.lt hcs; omega

/-! ## The loop's side -/

def mark (D : Nat) : Deferred := { target := .collected D, args := #[] }

/-- The environment of a round: what has come, and what was there. -/
def bindE : List Tmp → List Value → Env → Env
  | t :: ts, v :: vs, E => bindE ts vs ((t, v) :: E)
  | _, _, E => E

theorem bind_agr : ∀ (ts : List Tmp) (vs : List Value) (E : Env) (tmps : Array Value), (∀ t ∈ ts, t < n) → Agr n E { tmps, defers := [] } →
    Agr n (bindE ts vs E) { tmps := (ts.zip vs).foldl (fun tmps (x : Tmp × Value) => tmps.setIfInBounds x.1 x.2) tmps, defers := [] }
  | [], vs, E, tmps, _, h => by cases vs <;> exact h
  | t :: ts, [], E, tmps, _, h => h
  | t :: ts, v :: vs, E, tmps, ht, h => by
    simp only [List.zip_cons_cons, List.foldl_cons, bindE]
    exact bind_agr ts vs _ _ (fun s hs => ht s (by simp [hs])) (h.put (d := some t) (by simp [dstOk, Nat.blt_eq, ht t (by simp)]) v)

theorem putObj_ext (W : World) (l : Nat) (o : Obj) : Ext [l] W (W.putObj l o) :=
  ⟨rfl, rfl, rfl, by simp, fun k _ hk => World.putObj_heap_other (fun e => hk (by simp [e])), Nat.le_refl _⟩
theorem alloc_ext (W : World) (o : Obj) : Ext [] W (W.alloc o) := Ext.push [] W o

/-- The statement. -/
theorem wpIn_rangeE {a : Act} {ps : Array Tmp} {asn bd : Code} {f : Operand} {g : FuncId} {lb : Array Value} {B : Nat} {S : Nat → Prop} {Nxt : List (List Value) → List Value → Prop} {Fin : List (List Value) → Prop}
    (ha : Agr n E a) (hf : ev E f = some (.func (.func g) #[] lb)) (hg : callable P g = true)
    (I : List (List Value) → List Nat → World → Prop) (hI : Rounds I B) (hB : B ≤ w.heap.size) (X0 : List Nat) (h0 : I [] X0 w) (hS : ∀ k ∈ X0, ¬ S k) (hSl : ∀ k, S k → k < w.heap.size)
    (hiter : ∀ W, Ext [] w W → IterE P g lb B S Nxt Fin W) (hps : ∀ pre x, Nxt pre x → x.length = ps.size) (hpn : ∀ t ∈ ps.toList, t < n)
    (round : ∀ pre x X W l, Nxt pre x → I pre X W → w.heap.size ≤ l → l < W.heap.size → l ∉ X →
      Sx (some l) P n [] asn (fun e E1 W1 => e = .normal ∧ Ext [] W W1 ∧ ∀ W2, Ext [l] W1 W2 →
        Sx (some l) P n [] bd (fun e E2 W3 => e = .normal ∧ ∃ X', I (pre ++ [x]) X' W3 ∧ (∃ Y, Ext Y W2 W3 ∧ ∀ y ∈ Y, y ∈ X ∨ W.heap.size ≤ y) ∧ ∀ k ∈ X', k ∈ X ∨ W.heap.size ≤ k) E1 W2) (bindE ps.toList x E) W)
    {T : Exit → Act → World → Prop}
    (done : ∀ (D : Nat) pre X W', w.heap.size ≤ D → W'.heap[D]? = some (.deferred (some [])) → D ∉ X → Fin pre → I pre X W' → T .normal { a with defers := mark D :: a.defers } W') :
    (Code.rangeFunc f ps asn bd).wpIn (wideR none) 0 P T a w := by
  show (Code.rangeFunc f ps asn bd).wpIn Fence.wide 0 P T a w
  refine wpIn_rangeFunc ?_
  intro fn hfn
  obtain ⟨rec, hrec⟩ : ∃ rec : LoopState → Option Code → Loop, rec = fun st pe => { state := st, pending := pe, fn, tmps := a.tmps, params := ps, assign := asn, body := bd, defers := w.heap.size } := ⟨_, rfl⟩
  obtain ⟨W1, hW1⟩ : ∃ W1, (w.alloc (.deferred (some []))).alloc (.loop (rec .ready none)) = W1 := ⟨_, rfl⟩
  have hL1 : W1.heap[w.heap.size + 1]? = some (.loop (rec .ready none)) := by
    rw [← hW1]; have := World.alloc_heap_new (w.alloc (.deferred (some []))) (.loop (rec .ready none)); rwa [World.size_alloc] at this
  have e01 : Ext [] w W1 := by rw [← hW1]; exact (alloc_ext _ _).trans (alloc_ext _ _)
  have hK1 : W1.heap[w.heap.size]? = some (.deferred (some [])) := by
    rw [← hW1]
    have h1 := (alloc_ext (w.alloc (.deferred (some []))) (.loop (rec .ready none))).keep w.heap.size (by simp) (by simp)
    exact h1.trans (World.alloc_heap_new w _)
  have hsz1 : W1.heap.size = w.heap.size + 2 := by rw [← hW1]; simp
  have hI1 : I [] X0 W1 := hI.stay _ _ _ _ [] h0 e01 (by simp)
  have hX0 := hI.lt _ _ _ h0
  refine ⟨w.heap.size + 1, [mark w.heap.size], W1, { target := .fn (.func g) lb, args := #[.func (.yield (w.heap.size + 1)) #[] #[]] }, W1, g,
    #[.func (.yield (w.heap.size + 1)) #[] #[]] ++ lb, W1, ?_, ?_, fun _ _ => trivial, ?_, fun h => absurd h (by simp [Fence.wide]), ?_⟩
  · rw [← hW1, hrec]; exact run_enterLoop_outer _ _ _ _ _
  · have hev : (#[.const (.func (.yield (w.heap.size + 1)) #[] #[])] : Array Operand).map a.eval = #[.func (.yield (w.heap.size + 1)) #[] #[]] := by simp [Act.eval]
    simp only [resolve, Deferred.ofValue, ha.eval hf, hev, Sem.run_bind, Sem.run_pure, Result.andThen_ok, Array.empty_append]
  · simp only [invoke, run_callFunc hg]
  · refine callsIn_wide.2 ((hiter W1 e01 (w.heap.size + 1)
      (fun pre X W => ∃ X1, X = (w.heap.size + 1) :: w.heap.size :: X1 ∧ I pre X1 W ∧ W.heap[w.heap.size + 1]? = some (.loop (rec .ready none)) ∧ W.heap[w.heap.size]? = some (.deferred (some [])) ∧ w.heap.size + 1 ∉ X1 ∧ w.heap.size ∉ X1)
      ⟨?_, ?_⟩ ?_ ((w.heap.size + 1) :: w.heap.size :: X0) ⟨X0, rfl, hI1, hL1, hK1, fun h => by have := hX0 _ h; omega, fun h => by have := hX0 _ h; omega⟩ ?_).mono ?_)
    · rintro i X W W' Z ⟨X1, rfl, hi, hl, hk, hn1, hn2⟩ he hZ
      have h1 := (Array.getElem?_eq_some_iff.1 hl).1
      have h2 := (Array.getElem?_eq_some_iff.1 hk).1
      exact ⟨X1, rfl, hI.stay _ _ _ _ Z hi he (fun z hz => ⟨(hZ z hz).1, fun h => (hZ z hz).2 (by simp [h])⟩), (he.keep _ h1 (fun h => (hZ _ h).2 (by simp))).trans hl, (he.keep _ h2 (fun h => (hZ _ h).2 (by simp))).trans hk, hn1, hn2⟩
    · rintro i X W ⟨X1, rfl, hi, hl, hk, _, _⟩ k hm
      have h1 := (Array.getElem?_eq_some_iff.1 hl).1
      have h2 := (Array.getElem?_eq_some_iff.1 hk).1
      simp only [List.mem_cons] at hm
      rcases hm with rfl | rfl | hm
      · exact h1
      · exact h2
      · exact hI.lt _ _ _ hi k hm
    · -- one round
      rintro pre x X W hnx ⟨X1, rfl, hi, hl, hk, hn1, hn2⟩
      have hlt := (Array.getElem?_eq_some_iff.1 hl).1
      have hy := run_yield (P := P) (args := x.toArray) hl (by rw [hrec]; simpa using hps pre x hnx)
      rw [hrec] at hy
      refine ⟨fn, _, asn, bd, hy, roundIn_of_wpIn (F := Fence.wide) hfn ?_⟩
      have hr := round pre x X1 W (w.heap.size + 1) hnx hi (by omega) hlt hn1
      have hag := bind_agr ps.toList x E a.tmps hpn ⟨ha.size, ha.val⟩
      have hz : (ps.zip x.toArray).foldl (fun tmps (x : Tmp × Value) => tmps.setIfInBounds x.1 x.2) a.tmps = (ps.toList.zip x).foldl (fun tmps (x : Tmp × Value) => tmps.setIfInBounds x.1 x.2) a.tmps := by
        rw [← Array.foldl_toList, Array.toList_zip]
      show asn.wpIn (wideR (some (w.heap.size + 1))) 0 P _ { tmps := (ps.zip x.toArray).foldl (fun tmps (x : Tmp × Value) => tmps.setIfInBounds x.1 x.2) a.tmps, defers := [] } W
      rw [hz]
      refine wpIn_mono (hr _ hag rfl) ?_
      rintro e a1 w1 ⟨E1, hag1, hd1, rfl, e1, hbody⟩
      have hl1 := (e1.keep _ hlt (by simp)).trans hl
      have hk1 := (e1.keep _ (Array.getElem?_eq_some_iff.1 hk).1 (by simp)).trans hk
      have hz1 := e1.size
      refine ⟨_, run_beginRound hl1 (by rw [hrec]), ?_⟩
      have eB := putObj_ext w1 (w.heap.size + 1) (.loop { rec .ready none with state := .busy })
      have hk2 := (eB.keep _ (Array.getElem?_eq_some_iff.1 hk1).1 (by simp)).trans hk1
      have hl2 : (w1.putObj (w.heap.size + 1) (.loop { rec .ready none with state := .busy })).heap[w.heap.size + 1]? = some (.loop { rec .ready none with state := .busy }) := World.putObj_heap_same (by omega)
      refine wpIn_mono (hbody _ eB a1 hag1 hd1) ?_
      rintro e a3 W3 ⟨E3, hag3, hd3, rfl, X', hi3, ⟨Y, heY, hY⟩, hX'⟩
      have hlY : w.heap.size + 1 ∉ Y := fun hm => by
        rcases hY _ hm with h1 | h1
        · exact hn1 h1
        · omega
      have hkY : w.heap.size ∉ Y := fun hm => by
        rcases hY _ hm with h1 | h1
        · exact hn2 h1
        · omega
      have hl3 := (heY.keep _ (Array.getElem?_eq_some_iff.1 hl2).1 hlY).trans hl2
      have hk3 := (heY.keep _ (Array.getElem?_eq_some_iff.1 hk2).1 hkY).trans hk2
      have hlX : w.heap.size + 1 ∉ X' := fun hm => by
        rcases hX' _ hm with h1 | h1
        · exact hn1 h1
        · omega
      have hkX : w.heap.size ∉ X' := fun hm => by
        rcases hX' _ hm with h1 | h1
        · exact hn2 h1
        · omega
      have hend := run_endRound (P := P) none hl3
      have eE := putObj_ext W3 (w.heap.size + 1) (.loop { rec .ready none with state := .ready, pending := none })
      have hrr : ({ rec .ready none with state := .ready, pending := none } : Loop) = rec .ready none := by rw [hrec]
      rw [hrr] at eE
      refine ⟨_, _, hend, rfl, (w.heap.size + 1) :: w.heap.size :: X', ⟨X', rfl, ?_, ?_, ?_, hlX, hkX⟩, ⟨(w.heap.size + 1) :: Y, ?_, ?_⟩, ?_⟩
      · refine hI.stay _ _ _ _ [w.heap.size + 1] hi3 ?_ (fun z hz => ?_)
        · have := eE; rw [← hrr] at this; exact this
        · simp only [List.mem_singleton] at hz; subst hz; exact ⟨by omega, hlX⟩
      · have := World.putObj_heap_same (w := W3) (r := w.heap.size + 1) (o := .loop { rec .ready none with state := .ready, pending := none }) (Array.getElem?_eq_some_iff.1 hl3).1
        rw [hrr] at this
        rw [← hrr] at this
        exact this.trans (by rw [hrr])
      · have := eE.keep _ (Array.getElem?_eq_some_iff.1 hk3).1 (by simp)
        rw [← hrr] at this
        exact this.trans hk3
      · have h4 := eE; rw [← hrr] at h4
        exact ((e1.up.trans (eB.mono (by simp))).trans (heY.mono (fun k hk => by simp [hk]))).trans (h4.mono (by simp))
      · intro y hy
        simp only [List.mem_cons] at hy
        rcases hy with rfl | hy
        · exact .inl (by simp)
        · exact (hY y hy).imp (fun h => by simp [h]) id
      · intro k hk
        simp only [List.mem_cons] at hk
        rcases hk with rfl | rfl | hk
        · exact .inl (by simp)
        · exact .inl (by simp)
        · exact (hX' k hk).imp (fun h => by simp [h]) id
    · intro k hk hs
      have h3 := hSl k hs
      simp only [List.mem_cons] at hk
      rcases hk with rfl | rfl | hk
      · omega
      · omega
      · exact hS k hk hs
    · intro e W' he
      cases e with
      | returned v =>
        obtain ⟨pre, X, hfin, X1, rfl, hi, hl, hk, hn1, hn2⟩ := he
        refine ⟨none, _, (by have := run_endLoop (P := P) hl (by rw [hrec]; simp); rw [hrec] at this; exact this), ?_⟩
        have he := putObj_ext W' (w.heap.size + 1) (.loop { rec .ready none with state := .exhausted })
        rw [hrec] at he
        refine done w.heap.size pre X1 _ (Nat.le_refl _) ?_ hn2 hfin (hI.stay _ _ _ _ _ hi he ?_)
        · exact (he.keep _ (Array.getElem?_eq_some_iff.1 hk).1 (by simp)).trans hk
        · intro z hz; simp only [List.mem_singleton] at hz; subst hz; exact ⟨by omega, hn1⟩
      | panicked c => exact he.elim
      | outgrown => exact he.elim

/-! ## A function that holds such a loop -/

/-- Code whose end is said of the frame itself. -/
def SxG (P : Program) (n : Nat) (ds : List Deferred) (c : Code) (T : Exit → Act → World → Prop) (E : Env) (w : World) : Prop := ∀ a, Agr n E a → a.defers = ds → c.wpIn (wideR none) 0 P T a w

theorem SxG.seqL {x y : Code} {T : Exit → Act → World → Prop} (h : SxG P n ds x (Exit.then (fun a w => y.wpIn (wideR none) 0 P T a w) T) E w) : SxG P n ds (.seq x y) T E w :=
  fun a ha hd => wpIn_seq (h a ha hd)
theorem SxG.run {x y : Code} {T : Exit → Act → World → Prop} (h : Sx none P n ds x (fun e E' w' => e = .normal ∧ SxG P n ds y T E' w') E w) : SxG P n ds (.seq x y) T E w :=
  fun a ha hd => wpIn_seq (wpIn_mono (h a ha hd) fun e a' w' ⟨E', h1, h2, h3, h4⟩ => by subst h3; exact h4 a' h1 h2)
theorem SxG.weaken {x : Code} {E' : Env} {T : Exit → Act → World → Prop} (h : SxG P n ds x T E' w) (hs : ∀ t v, get E' t = some v → get E t = some v) : SxG P n ds x T E w := fun a ha hd => h a (ha.weaken hs) hd
theorem SxG.done {x : Code} {Q : PostE} {T : Exit → Act → World → Prop} (h : Sx none P n ds x Q E w) (hQ : ∀ e a w, lift n ds Q e a w → T e a w) : SxG P n ds x T E w := fun a ha hd => wpIn_mono (h a ha hd) hQ

/-- The block for the rounds' deferred calls lies asn it was laid. -/
def Rec (w : World) (D : Nat) : Prop := w.heap[D]? = some (.deferred (some []))
theorem Rec.ext {w w' : World} {X : List Nat} {D : Nat} (h : Rec w D) (he : Ext X w w') (hX : D ∉ X) : Rec w' D := (he.keep _ (Array.getElem?_eq_some_iff.1 h).1 hX).trans h
theorem Rec.ext0 {w w' : World} {D : Nat} (h : Rec w D) (he : Ext [] w w') : Rec w' D := h.ext he (by simp)
theorem Rec.lt {w : World} {D : Nat} (h : Rec w D) : D < w.heap.size := (Array.getElem?_eq_some_iff.1 h).1

/-- The statement, and what follows. -/
theorem SxG.range {ps : Array Tmp} {asn bd rest : Code} {id : Nat} {f : Operand} {g : FuncId} {lb : Array Value} {B : Nat} {S : Nat → Prop} {Nxt : List (List Value) → List Value → Prop} {Fin : List (List Value) → Prop}
    (hf : ev E f = some (.func (.func g) #[] lb)) (hg : callable P g = true) (hpn : (ps.toList.all fun t => Nat.blt t n) = true)
    (I : List (List Value) → List Nat → World → Prop) (hI : Rounds I B) (hB : B ≤ w.heap.size) (X0 : List Nat) (h0 : I [] X0 w) (hS : ∀ k ∈ X0, ¬ S k) (hSl : ∀ k, S k → k < w.heap.size)
    (hiter : ∀ W, Ext [] w W → IterE P g lb B S Nxt Fin W) (hps : ∀ pre x, Nxt pre x → x.length = ps.size)
    (round : ∀ pre x X W l, Nxt pre x → I pre X W → w.heap.size ≤ l → l < W.heap.size → l ∉ X →
      Sx (some l) P n [] asn (fun e E1 W1 => e = .normal ∧ Ext [] W W1 ∧ ∀ W2, Ext [l] W1 W2 →
        Sx (some l) P n [] bd (fun e E2 W3 => e = .normal ∧ ∃ X', I (pre ++ [x]) X' W3 ∧ (∃ Y, Ext Y W2 W3 ∧ ∀ y ∈ Y, y ∈ X ∨ W.heap.size ≤ y) ∧ ∀ k ∈ X', k ∈ X ∨ W.heap.size ≤ k) E1 W2) (bindE ps.toList x E) W)
    {T : Exit → Act → World → Prop}
    (done : ∀ (D : Nat) pre X W', w.heap.size ≤ D → Rec W' D → D ∉ X → Fin pre → I pre X W' → SxG P n (mark D :: ds) rest T E W') :
    SxG P n ds (.block id (.rangeFunc f ps asn bd)) (Exit.then (fun a w => rest.wpIn (wideR none) 0 P T a w) T) E w := by
  intro a ha hd
  refine wpIn_block (wpIn_rangeE ha hf hg I hI hB X0 h0 hS hSl hiter hps (fun t ht => ?_) round fun D pre X W' h1 h2 h3 h4 h5 => ?_)
  · have := List.all_eq_true.1 hpn t ht; simpa [Nat.blt_eq] using this
  · exact done D pre X W' h1 h2 h3 h4 h5 _ ⟨ha.size, ha.val⟩ (by show mark D :: a.defers = _; rw [hd])

theorem calls_of_SxG {f : FuncId} {fn : Func} {c : Code} {args : List Value} {w : World} {R : Ending → World → Prop}
    (hf : P.funcs[f]? = some fn) (hb : fn.body = some c) (hn : Nat.ble args.length fn.ntmps = true) (h : SxG P fn.ntmps [] c (bodyPostM Fence.wide 0 P fn R) (entryEnv 0 args) w) : Calls P f args.toArray w R := by
  have hn' : args.length ≤ fn.ntmps := Nat.le_of_ble_eq_true hn
  refine callsIn_wide.1 (callsIn_of_wp_marks hf hb trivial (h _ ⟨?_, ?_⟩ rfl))
  · simp; omega
  · intro t v ht
    have := get_entry 0 args t v ht
    have h2 : args[t]? = some v := by simpa using this.2
    have h3 : t < args.length := by
      rcases Nat.lt_or_ge t args.length with h4 | h4
      · exact h4
      · rw [List.getElem?_eq_none h4] at h2; cases h2
    rw [Array.getElem?_append_left (by simpa using h3)]
    simpa using h2

/-- What a body owes at its end, behind such a loop. -/
def endM (fn : Func) (P : Program) (R : Ending → World → Prop) (D : Nat) : PostE
  | .ret, E, w | .normal, E, w => Rec w D ∧ ∀ w', Ext [D] w w' → ∃ v, (∀ tmps : Array Value, (∀ t v, get E t = some v → tmps[t]? = some v) → (results fn tmps).run P w' = .ok v w') ∧ R (.returned v) w'
  | _, _, _ => False

theorem endM_ret {fn : Func} {R : Ending → World → Prop} {D : Nat} {e : Exit} (he : e = .ret ∨ e = .normal) (vs : List Value) (hD : Rec w D) (hr : ∀ w', Ext [D] w w' → resOK P E w' fn.results.toList vs) (h : ∀ w', Ext [D] w w' → R (.returned (resV vs)) w') :
    endM fn P R D e E w := by
  rcases he with rfl | rfl <;> exact ⟨hD, fun w' he => ⟨_, results_run (hr w' he), h w' he⟩⟩

theorem endM_done {fn : Func} {R : Ending → World → Prop} {D : Nat} : ∀ e a w, lift fn.ntmps [mark D] (endM fn P R D) e a w → bodyPostM Fence.wide 0 P fn R e a w := by
  have key : ∀ (a : Act) (w : World), (∃ E, Agr fn.ntmps E a ∧ a.defers = [mark D] ∧ endM fn P R D .ret E w) → LeavesInM Fence.wide 0 P fn a.tmps R a.defers .returning w := by
    rintro a w ⟨E, h1, h2, h3, h4⟩
    rw [h2]
    obtain ⟨v, h5, h6⟩ := h4 _ (putObj_ext w D (.deferred none))
    refine ⟨by simp, .inl ⟨D, _, rfl, run_takeDeferred h3, ?_⟩⟩
    exact ⟨v, h5 _ h1.val, h6⟩
  intro e a w h
  obtain ⟨E, h1, h2, h3⟩ := h
  cases e with
  | normal => exact key a w ⟨E, h1, h2, h3⟩
  | ret => exact key a w ⟨E, h1, h2, h3⟩
  | _ => exact h3.elim

end
end Go.Eng

/- The facts' walks: what is known at a time. -/
set_option linter.unusedVariables false
set_option maxRecDepth 100000
set_option linter.unusedSimpArgs false
namespace Go.Proofs.Ytfgckcochilpkaa
open Go Go.Eng

theorem eqKy (a b : Ky) (w : World) : (Op.equalIn (9999 + 1) 38 (.agg (kc a).toArray) (.agg (kc b).toArray)).run Try.prog w = .ok (decide (a = b)) w := by
  rw [eqs rfl rfl (eqf_int (by decide) rfl rfl rfl rfl (eqf_int (by decide) rfl rfl rfl rfl (eqf_int (by decide) rfl rfl rfl rfl (eqf_nil _ _ _ _))))]
  simp [Ky.eq_iff, Bool.decide_and]

theorem egKy : Try.prog.eqGuardType Try.prog.depth 38 = false := by kernel_rfl
/-- What yield is handed for a fact. -/
abbrev ya (f : Fct) : List Value := [.agg (fc f).toArray]
theorem ya_inj {a b : Fct} (h : ya a = ya b) : a = b := by
  obtain ⟨⟨a1, a2, a3⟩, a4, a5, a6, a7, a8⟩ := a
  obtain ⟨⟨b1, b2, b3⟩, b4, b5, b6, b7, b8⟩ := b
  simp only [ya, List.cons.injEq, Value.agg.injEq, and_true] at h
  have h' := congrArg Array.toList h
  simp at h'
  simp [h']
theorem map_inj' {α β : Type} {f : α → β} (hf : ∀ a b, f a = f b → a = b) : ∀ {l m : List α}, l.map f = m.map f → l = m
  | [], [], _ => rfl
  | [], b :: m, h => by simp at h
  | a :: l, [], h => by simp at h
  | a :: l, b :: m, h => by
    simp only [List.map_cons, List.cons.injEq] at h
    rw [hf _ _ h.1, map_inj' hf h.2]

theorem of_at (l : List Fct) (k : Ky) (known : Int) (p : Option Addr) (c : Nat) (w : World) :
    Calls Try.prog 77 #[.slice p l.length c, .agg (kc k).toArray, .int .i64 known] w (Ret fun r w' => Ext [] w w' ∧ ∃ b1 b2 b3, r = .func (.func 82) #[] #[.pointer (some ⟨b1, 0, none⟩), .pointer (some ⟨b2, 0, none⟩), .pointer (some ⟨b3, 0, none⟩)] ∧
      w.heap.size ≤ b1 ∧ w.heap.size ≤ b2 ∧ w.heap.size ≤ b3 ∧ Cells w' ⟨b1, 0, none⟩ [.slice p l.length c] ∧ Cells w' ⟨b2, 0, none⟩ (kc k) ∧ Cells w' ⟨b3, 0, none⟩ [.int .i64 known]) := by
  refine calls_of_Sx (args := [.slice p l.length c, .agg (kc k).toArray, .int .i64 known]) Try.func77 rfl rfl ?_
  refine ztx ?_
  refine Ox.act rfl rfl (acts_box rfl rfl) ?_
  rintro vb1 wb1 ⟨eb1, bb1, rfl, hbb1, hBb1⟩
  first | (have hCb1 : Cells wb1 ⟨bb1, 0, none⟩ [_] := hBb1.cells) | have hCb1 := Blk.cellsL hBb1
  have hlb1 := hBb1.lt
  have hzb1 := eb1.size
  refine Ox.act rfl rfl (acts_box rfl rfl) ?_
  rintro vb2 wb2 ⟨eb2, bb2, rfl, hbb2, hBb2⟩
  first | (have hCb2 : Cells wb2 ⟨bb2, 0, none⟩ [_, _, _] := hBb2.cells) | have hCb2 := Blk.cellsL hBb2
  have hlb2 := hBb2.lt
  have hzb2 := eb2.size
  refine Ox.act rfl rfl (acts_box rfl rfl) ?_
  rintro vb3 wb3 ⟨eb3, bb3, rfl, hbb3, hBb3⟩
  first | (have hCb3 : Cells wb3 ⟨bb3, 0, none⟩ [_] := hBb3.cells) | have hCb3 := Blk.cellsL hBb3
  have hlb3 := hBb3.lt
  have hzb3 := eb3.size
  refine Ox.pure rfl rfl zas ?_
  refine Ox.fin ?_
  refine ztx ?_
  refine Ox.pure rfl rfl (rp_makeFunc rfl rfl rfl) ?_
  refine Ox.pure rfl rfl zas ?_
  refine Ox.fin ?_
  refine zrt ?_
  exact endE_ret [_] ⟨rfl, trivial⟩ ⟨zxc, bb1, bb2, bb3, rfl, by omega, by omega, by omega, hCb1.ext0 zxc, hCb2.ext0 zxc, hCb3.ext0 zxc⟩

/-- The blocks that the iterator reads. -/
def OfS (n : Nat) (A : Addr) (b1 b2 b3 : Nat) (x : Nat) : Prop := x = b1 ∨ x = b2 ∨ x = b3 ∨ (0 < n ∧ x = A.block)

theorem of_iter (l : List Fct) (k : Ky) (known : Int) (p : Option Addr) (A : Addr) (c : Nat) (b1 b2 b3 B : Nat) (W0 : World) (hs : SlV fc W0 p A l c)
    (h1 : Cells W0 ⟨b1, 0, none⟩ [.slice p l.length c]) (h2 : Cells W0 ⟨b2, 0, none⟩ (kc k)) (h3 : Cells W0 ⟨b3, 0, none⟩ [.int .i64 known]) :
    IterE Try.prog 82 #[.pointer (some ⟨b1, 0, none⟩), .pointer (some ⟨b2, 0, none⟩), .pointer (some ⟨b3, 0, none⟩)] B (OfS l.length A b1 b2 b3) (fun pre x => pre ++ [x] <+: (ofL l k known).map ya) (fun pre => pre = (ofL l k known).map ya) W0 := by
  intro l' J hJ hround X0 hJ0 hX0
  show Calls Try.prog 82 #[.func (.yield l') #[] #[], .pointer (some ⟨b1, 0, none⟩), .pointer (some ⟨b2, 0, none⟩), .pointer (some ⟨b3, 0, none⟩)] W0 _
  have hp := hs.ptr
  have hfew := hs.few
  refine calls_of_Sx (args := [.func (.yield l') #[] #[], .pointer (some ⟨b1, 0, none⟩), .pointer (some ⟨b2, 0, none⟩), .pointer (some ⟨b3, 0, none⟩)]) Try.func82 rfl rfl ?_
  refine ztx ?_
  refine Ox.val rfl rfl zrs ?_
  refine Ox.pure rfl rfl (rp_lenS rfl rfl rfl) ?_
  refine Ox.pure rfl rfl zmv ?_
  refine Ox.fin ?_
  refine zbl ?_
  refine Sx.loop (ι := Nat × List Nat) (fun i E wr => E = [(0, .func (.yield l') #[] #[]), (1, .pointer (some ⟨b1, 0, none⟩)), (2, .pointer (some ⟨b2, 0, none⟩)), (3, .pointer (some ⟨b3, 0, none⟩)), (7, .slice p l.length c), (8, .int .i64 (l.length : Int)), (9, .int .i64 (i.1 : Int))] ∧
      i.1 ≤ l.length ∧ J ((ofL (l.take i.1) k known).map ya) i.2 wr ∧ (∀ x ∈ i.2, ¬ OfS l.length A b1 b2 b3 x) ∧ Cells wr A (rowsV fc l) ∧ Cells wr ⟨b2, 0, none⟩ (kc k) ∧ Cells wr ⟨b3, 0, none⟩ [.int .i64 known] ∧ W0.heap.size ≤ wr.heap.size) (fun i => l.length - i.1) (0, X0)
    (sub_cons rfl (sub_cons rfl (sub_cons rfl (sub_cons rfl (sub_cons rfl (sub_cons rfl (sub_cons rfl sub_nil))))))) ⟨rfl, Nat.zero_le _, by simpa [ofL] using hJ0, hX0, hs.row, h2, h3, Nat.le_refl _⟩ ?_
  rintro ⟨i, X⟩ E wr ⟨rfl, hi, hj, hX, hrow, hc2, hc3, hz⟩
  dsimp only at hi hj hX ⊢
  by_cases hlt : i < l.length
  · have hat := rowsV_at fc_len hlt
    have hl8 := fc_len l[i]
    have hta := ofL_take (k := k) (known := known) hlt
    have hb1 : b1 < W0.heap.size := h1.lt (by simp)
    have hb2 : b2 < W0.heap.size := h2.lt (by simp)
    have hb3 : b3 < W0.heap.size := h3.lt (by simp)
    have hbA : A.block < W0.heap.size := hs.row.lt (fun e => by have := rowsV_length fc_len l; rw [e] at this; simp at this; omega)
    by_cases hk : l[i].key = k
    · by_cases hn : l[i].known ≤ known
      · rw [if_pos ⟨hk, hn⟩] at hta
        refine ztx ?_
        refine Ox.pure rfl rfl zbc ?_
        refine Ox.fin ?_
        refine zct ?_
        refine zsk ?_
        refine zbl ?_
        refine ztx ?_
        refine Ox.pure rfl rfl zix ?_
        refine Ox.val rfl rfl zra ?_
        refine Ox.act rfl rfl (acts_alloc rfl rfl) ?_
        rintro val wal ⟨eal, bal, rfl, hbal, hBal⟩
        first | (have hCal : Cells wal ⟨bal, 0, none⟩ [_, _, _, _, _, _, _, _] := hBal.cells) | have hCal := Blk.cellsL hBal
        have hlal := hBal.lt
        have hzal := eal.size
        refine Ox.act rfl rfl (acts_store_all rfl rfl rfl hBal rfl (by first | rfl | assumption) (by first | rfl | assumption) (by (first | assumption | exact List.all_eq_true.mp rfl | simp [Value.cells, Value.oneCell']))) ?_
        rintro vst wst ⟨rfl, qst, hBst⟩
        have est := Ext.renew eal qst hbal
        have hzst := est.size
        have hlst := hBst.lt
        first | (have hCst : Cells wst ⟨bal, 0, none⟩ [_, _, _, _, _, _, _, _] := hBst.cells) | have hCst := Blk.cellsL hBst
        refine Ox.fin ?_
        refine ztx ?_
        refine Ox.pure rfl rfl zfa ?_
        refine Ox.val rfl rfl zra ?_
        refine Ox.val rfl rfl zra ?_
        refine Ox.pure rfl rfl (by first | exact rp_eqA_t rfl egKy rfl rfl (eqKy l[i].key k) (by assumption) | exact rp_eqA_f rfl egKy rfl rfl (eqKy l[i].key k) (by assumption)) ?_
        refine Ox.pure rfl rfl zmv ?_
        first | (refine Ox.skip rfl rfl ?_) | (refine Ox.pure rfl rfl zfa ?_)
        first | (refine Ox.skip rfl rfl ?_) | (refine Ox.val rfl rfl zrs ?_)
        first | (refine Ox.skip rfl rfl ?_) | (refine Ox.val rfl rfl zrs ?_)
        first | (refine Ox.skip rfl rfl ?_) | (refine Ox.pure rfl rfl zbc ?_)
        refine Ox.pure rfl rfl zpk ?_
        refine Ox.pure rfl rfl zmv ?_
        first | (refine Ox.skip rfl rfl ?_) | (refine Ox.pure rfl rfl zmv ?_)
        first | (refine Ox.skip rfl rfl ?_) | (refine Ox.val rfl rfl zra ?_)
        first | (refine Ox.skip rfl rfl ?_) | (refine Ox.act rfl rfl (acts_yield rfl rfl rfl (hround ((ofL (l.take i) k known).map ya) (ya l[i]) X _ (by have h9 := (ofL_prefix l k known (i + 1)).map ya; rw [hta, List.map_append] at h9; exact h9) (hJ.stay _ _ _ _ [] hj est (by simp)))) ?_; rintro vyd wyd ⟨rfl, hst⟩)
        first | (refine Ox.skip rfl rfl ?_) | (refine Ox.pure rfl rfl (rp_not rfl rfl) ?_)
        refine Ox.pure rfl rfl zpk ?_
        refine Ox.fin ?_
        refine zcf ?_
        refine zsk ?_
        refine ztx ?_
        refine Ox.pure rfl rfl zba ?_
        refine Ox.pure rfl rfl zmv ?_
        refine Ox.fin ?_
        obtain ⟨X', hj', hY, hX'⟩ := id hst
        have hzs := est.size
        have hzy : wst.heap.size ≤ wyd.heap.size := by obtain ⟨Y, he, _⟩ := hY; exact he.size
        refine ⟨(i + 1, X'), _, sub_cons rfl (sub_cons rfl (sub_cons rfl (sub_cons rfl (sub_cons rfl (sub_cons rfl (sub_cons rfl sub_nil)))))), ⟨rfl, hlt, ?_, ?_, ?_, ?_, ?_, by first | omega | (dsimp only; omega)⟩, by first | omega | (dsimp only; omega)⟩
        · dsimp only
          rw [hta, List.map_append]; exact hj'
        · dsimp only
          intro x hx hS
          rcases hX' x hx with h5 | h5
          · exact hX x h5 hS
          · unfold OfS at hS; omega
        · exact hst.cells (hrow.ext0 est) (fun hm => hX _ hm (.inr (.inr (.inr ⟨by omega, rfl⟩))))
        · exact hst.cells (hc2.ext0 est) (fun hm => hX _ hm (.inr (.inl rfl)))
        · exact hst.cells (hc3.ext0 est) (fun hm => hX _ hm (.inr (.inr (.inl rfl))))
      · rw [if_neg (fun h => hn h.2), List.append_nil] at hta
        refine ztx ?_
        refine Ox.pure rfl rfl zbc ?_
        refine Ox.fin ?_
        refine zct ?_
        refine zsk ?_
        refine zbl ?_
        refine ztx ?_
        refine Ox.pure rfl rfl zix ?_
        refine Ox.val rfl rfl zra ?_
        refine Ox.act rfl rfl (acts_alloc rfl rfl) ?_
        rintro val wal ⟨eal, bal, rfl, hbal, hBal⟩
        first | (have hCal : Cells wal ⟨bal, 0, none⟩ [_, _, _, _, _, _, _, _] := hBal.cells) | have hCal := Blk.cellsL hBal
        have hlal := hBal.lt
        have hzal := eal.size
        refine Ox.act rfl rfl (acts_store_all rfl rfl rfl hBal rfl (by first | rfl | assumption) (by first | rfl | assumption) (by (first | assumption | exact List.all_eq_true.mp rfl | simp [Value.cells, Value.oneCell']))) ?_
        rintro vst wst ⟨rfl, qst, hBst⟩
        have est := Ext.renew eal qst hbal
        have hzst := est.size
        have hlst := hBst.lt
        first | (have hCst : Cells wst ⟨bal, 0, none⟩ [_, _, _, _, _, _, _, _] := hBst.cells) | have hCst := Blk.cellsL hBst
        refine Ox.fin ?_
        refine ztx ?_
        refine Ox.pure rfl rfl zfa ?_
        refine Ox.val rfl rfl zra ?_
        refine Ox.val rfl rfl zra ?_
        refine Ox.pure rfl rfl (by first | exact rp_eqA_t rfl egKy rfl rfl (eqKy l[i].key k) (by assumption) | exact rp_eqA_f rfl egKy rfl rfl (eqKy l[i].key k) (by assumption)) ?_
        refine Ox.pure rfl rfl zmv ?_
        first | (refine Ox.skip rfl rfl ?_) | (refine Ox.pure rfl rfl zfa ?_)
        first | (refine Ox.skip rfl rfl ?_) | (refine Ox.val rfl rfl zrs ?_)
        first | (refine Ox.skip rfl rfl ?_) | (refine Ox.val rfl rfl zrs ?_)
        first | (refine Ox.skip rfl rfl ?_) | (refine Ox.pure rfl rfl zbc ?_)
        refine Ox.pure rfl rfl zpk ?_
        refine Ox.pure rfl rfl zmv ?_
        first | (refine Ox.skip rfl rfl ?_) | (refine Ox.pure rfl rfl zmv ?_)
        first | (refine Ox.skip rfl rfl ?_) | (refine Ox.val rfl rfl zra ?_)
        first | (refine Ox.skip rfl rfl ?_) | (refine Ox.act rfl rfl (acts_yield rfl rfl rfl (hround ((ofL (l.take i) k known).map ya) (ya l[i]) X _ (by have h9 := (ofL_prefix l k known (i + 1)).map ya; rw [hta, List.map_append] at h9; exact h9) (hJ.stay _ _ _ _ [] hj est (by simp)))) ?_; rintro vyd wyd ⟨rfl, hst⟩)
        first | (refine Ox.skip rfl rfl ?_) | (refine Ox.pure rfl rfl (rp_not rfl rfl) ?_)
        refine Ox.pure rfl rfl zpk ?_
        refine Ox.fin ?_
        refine zcf ?_
        refine zsk ?_
        refine ztx ?_
        refine Ox.pure rfl rfl zba ?_
        refine Ox.pure rfl rfl zmv ?_
        refine Ox.fin ?_
        have hzs := est.size
        exact ⟨(i + 1, X), _, sub_cons rfl (sub_cons rfl (sub_cons rfl (sub_cons rfl (sub_cons rfl (sub_cons rfl (sub_cons rfl sub_nil)))))), ⟨rfl, hlt, by rw [hta]; exact hJ.stay _ _ _ _ [] hj est (by simp), hX, hrow.ext0 est, hc2.ext0 est, hc3.ext0 est, by first | omega | (dsimp only; omega)⟩, by first | omega | (dsimp only; omega)⟩
    · rw [if_neg (fun h => hk h.1), List.append_nil] at hta
      refine ztx ?_
      refine Ox.pure rfl rfl zbc ?_
      refine Ox.fin ?_
      refine zct ?_
      refine zsk ?_
      refine zbl ?_
      refine ztx ?_
      refine Ox.pure rfl rfl zix ?_
      refine Ox.val rfl rfl zra ?_
      refine Ox.act rfl rfl (acts_alloc rfl rfl) ?_
      rintro val wal ⟨eal, bal, rfl, hbal, hBal⟩
      first | (have hCal : Cells wal ⟨bal, 0, none⟩ [_, _, _, _, _, _, _, _] := hBal.cells) | have hCal := Blk.cellsL hBal
      have hlal := hBal.lt
      have hzal := eal.size
      refine Ox.act rfl rfl (acts_store_all rfl rfl rfl hBal rfl (by first | rfl | assumption) (by first | rfl | assumption) (by (first | assumption | exact List.all_eq_true.mp rfl | simp [Value.cells, Value.oneCell']))) ?_
      rintro vst wst ⟨rfl, qst, hBst⟩
      have est := Ext.renew eal qst hbal
      have hzst := est.size
      have hlst := hBst.lt
      first | (have hCst : Cells wst ⟨bal, 0, none⟩ [_, _, _, _, _, _, _, _] := hBst.cells) | have hCst := Blk.cellsL hBst
      refine Ox.fin ?_
      refine ztx ?_
      refine Ox.pure rfl rfl zfa ?_
      refine Ox.val rfl rfl zra ?_
      refine Ox.val rfl rfl zra ?_
      refine Ox.pure rfl rfl (by first | exact rp_eqA_t rfl egKy rfl rfl (eqKy l[i].key k) (by assumption) | exact rp_eqA_f rfl egKy rfl rfl (eqKy l[i].key k) (by assumption)) ?_
      refine Ox.pure rfl rfl zmv ?_
      first | (refine Ox.skip rfl rfl ?_) | (refine Ox.pure rfl rfl zfa ?_)
      first | (refine Ox.skip rfl rfl ?_) | (refine Ox.val rfl rfl zrs ?_)
      first | (refine Ox.skip rfl rfl ?_) | (refine Ox.val rfl rfl zrs ?_)
      first | (refine Ox.skip rfl rfl ?_) | (refine Ox.pure rfl rfl zbc ?_)
      refine Ox.pure rfl rfl zpk ?_
      refine Ox.pure rfl rfl zmv ?_
      first | (refine Ox.skip rfl rfl ?_) | (refine Ox.pure rfl rfl zmv ?_)
      first | (refine Ox.skip rfl rfl ?_) | (refine Ox.val rfl rfl zra ?_)
      first | (refine Ox.skip rfl rfl ?_) | (refine Ox.act rfl rfl (acts_yield rfl rfl rfl (hround ((ofL (l.take i) k known).map ya) (ya l[i]) X _ (by have h9 := (ofL_prefix l k known (i + 1)).map ya; rw [hta, List.map_append] at h9; exact h9) (hJ.stay _ _ _ _ [] hj est (by simp)))) ?_; rintro vyd wyd ⟨rfl, hst⟩)
      first | (refine Ox.skip rfl rfl ?_) | (refine Ox.pure rfl rfl (rp_not rfl rfl) ?_)
      refine Ox.pure rfl rfl zpk ?_
      refine Ox.fin ?_
      refine zcf ?_
      refine zsk ?_
      refine ztx ?_
      refine Ox.pure rfl rfl zba ?_
      refine Ox.pure rfl rfl zmv ?_
      refine Ox.fin ?_
      have hzs := est.size
      exact ⟨(i + 1, X), _, sub_cons rfl (sub_cons rfl (sub_cons rfl (sub_cons rfl (sub_cons rfl (sub_cons rfl (sub_cons rfl sub_nil)))))), ⟨rfl, hlt, by rw [hta]; exact hJ.stay _ _ _ _ [] hj est (by simp), hX, hrow.ext0 est, hc2.ext0 est, hc3.ext0 est, by first | omega | (dsimp only; omega)⟩, by first | omega | (dsimp only; omega)⟩
  · rw [List.take_of_length_le (by omega)] at hj
    refine ztx ?_
    refine Ox.pure rfl rfl zbc ?_
    refine Ox.fin ?_
    refine zcf ?_
    refine zex ?_
    exact endE_normal [] trivial ⟨_, X, rfl, hj⟩

end Go.Proofs.Ytfgckcochilpkaa

/- The facts' walks: the value on a day. -/
set_option linter.unusedVariables false
set_option maxRecDepth 100000
set_option maxHeartbeats 4000000
set_option linter.unusedSimpArgs false
namespace Go.Proofs.Ytfgckcochilpkaa
open Go Go.Eng

def zF : Fct := ⟨⟨0, 0, 0⟩, 0, 0, 0, 0, 0⟩
def bestC (b : Option Fct) : List Value := fc (b.getD zF)

theorem ofL_next {l : List Fct} {k : Ky} {known : Int} {fs : List Fct} {x : List Value} (h : fs.map ya ++ [x] <+: (ofL l k known).map ya) : ∃ f, x = ya f := by
  have := h.subset (show x ∈ fs.map ya ++ [x] by simp)
  obtain ⟨f, _, rfl⟩ := List.mem_map.1 this
  exact ⟨f, rfl⟩

theorem at_at (l : List Fct) (k : Ky) (day known : Int) (p : Option Addr) (A : Addr) (c : Nat) (w : World) (hs : SlV fc w p A l c) :
    Calls Try.prog 58 #[.slice p l.length c, .agg (kc k).toArray, .int .i64 day, .int .i64 known] w (Ret fun r w' => Ext [] w w' ∧ r = .tuple #[.int .i64 (atL l k day known).1, .bool (atL l k day known).2]) := by
  refine calls_of_SxG (args := [.slice p l.length c, .agg (kc k).toArray, .int .i64 day, .int .i64 known]) Try.func58 rfl rfl ?_
  refine SxG.run ?_
  refine ztx ?_
  refine Ox.act rfl rfl (acts_box rfl rfl) ?_
  rintro vb5 wb5 ⟨eb5, bb5, rfl, hbb5, hBb5⟩
  first | (have hCb5 : Cells wb5 ⟨bb5, 0, none⟩ [_, _, _] := hBb5.cells) | have hCb5 := Blk.cellsL hBb5
  have hlb5 := hBb5.lt
  have hzb5 := eb5.size
  refine Ox.act rfl rfl (acts_box rfl rfl) ?_
  rintro vb6 wb6 ⟨eb6, bb6, rfl, hbb6, hBb6⟩
  first | (have hCb6 : Cells wb6 ⟨bb6, 0, none⟩ [_] := hBb6.cells) | have hCb6 := Blk.cellsL hBb6
  have hlb6 := hBb6.lt
  have hzb6 := eb6.size
  refine Ox.pure rfl rfl zas ?_
  refine Ox.pure rfl rfl zas ?_
  refine Ox.fin ?_
  refine ⟨rfl, ?_⟩
  refine SxG.run ?_
  refine ztx ?_
  refine Ox.act rfl rfl (acts_alloc rfl rfl) ?_
  rintro vb0 wb0 ⟨eb0, bb0, rfl, hbb0, hBb0⟩
  first | (have hCb0 : Cells wb0 ⟨bb0, 0, none⟩ [_, _, _, _, _, _, _, _] := hBb0.cells) | have hCb0 := Blk.cellsL hBb0
  have hlb0 := hBb0.lt
  have hzb0 := eb0.size
  refine Ox.fin ?_
  refine ⟨rfl, ?_⟩
  refine SxG.run ?_
  refine ztx ?_
  refine Ox.act rfl rfl (acts_alloc rfl rfl) ?_
  rintro vb1 wb1 ⟨eb1, bb1, rfl, hbb1, hBb1⟩
  first | (have hCb1 : Cells wb1 ⟨bb1, 0, none⟩ [_] := hBb1.cells) | have hCb1 := Blk.cellsL hBb1
  have hlb1 := hBb1.lt
  have hzb1 := eb1.size
  refine Ox.act rfl rfl (acts_store_all rfl rfl rfl hBb1 rfl (by first | rfl | assumption) (by first | rfl | assumption) (by (first | assumption | exact List.all_eq_true.mp rfl | simp [Value.cells, Value.oneCell']))) ?_
  rintro vs1 ws1 ⟨rfl, qs1, hBs1⟩
  have es1 := Ext.renew eb1 qs1 hbb1
  have hzs1 := es1.size
  have hls1 := hBs1.lt
  first | (have hCs1 : Cells ws1 ⟨bb1, 0, none⟩ [_] := hBs1.cells) | have hCs1 := Blk.cellsL hBs1
  refine Ox.fin ?_
  refine ⟨rfl, ?_⟩
  refine SxG.seqL ?_
  refine SxG.run ?_
  refine ztx ?_
  refine Ox.pure rfl rfl zmv ?_
  refine Ox.val rfl rfl zra ?_
  refine Ox.pure rfl rfl zmv ?_
  refine Ox.act rfl rfl (acts_call rfl rfl rfl (of_at l k known p c _)) ?_
  rintro vof wof ⟨eof, c1, c2, c3, rfl, hc1, hc2, hc3, hC1, hC2, hC3⟩
  have hzof := eof.size
  refine Ox.fin ?_
  refine ⟨rfl, ?_⟩
  have hBe : Blk wof bb0 64 (bestC none) := hBb0.ext (X := []) zxc (by simp)
  have hBs : Blk wof bb1 4 [.bool false] := hBs1.ext (X := []) zxc (by simp)
  have hC6 : Cells wof ⟨bb6, 0, none⟩ [.int .i64 day] := hCb6.ext0 zxc
  have hsof := hs.ext0 (w' := wof) zxc
  have hnew : w.heap.size ≤ bb0 ∧ w.heap.size ≤ bb1 ∧ w.heap.size ≤ bb6 ∧ w.heap.size ≤ c1 ∧ w.heap.size ≤ c2 ∧ w.heap.size ≤ c3 := by omega
  have hneq : bb0 ≠ bb1 ∧ bb6 ≠ bb0 ∧ bb6 ≠ bb1 ∧ bb0 < c1 ∧ bb0 < c2 ∧ bb0 < c3 ∧ bb1 < c1 ∧ bb1 < c2 ∧ bb1 < c3 := by omega
  have hlc : c1 < wof.heap.size ∧ c2 < wof.heap.size ∧ c3 < wof.heap.size := ⟨hC1.lt (by simp), hC2.lt (by simp), hC3.lt (by simp)⟩
  have hlA : 0 < l.length → A.block < w.heap.size := fun h => hs.row.lt (fun e => by have := rowsV_length fc_len l; rw [e] at this; simp at this; omega)
  have e0 : Ext [] w wof := zxc
  have hz0 := e0.size
  have hl0 := hBe.lt
  have hl1 := hBs.lt
  have hl6 : bb6 < wof.heap.size := hC6.lt (by simp)
  refine SxG.range (g := 82) (B := wof.heap.size) (S := OfS l.length A c1 c2 c3) rfl rfl rfl
    (fun pre X W => X = [bb0, bb1] ∧ Ext [bb0, bb1] wof W ∧ ∃ fs : List Fct, pre = fs.map ya ∧ Blk W bb0 64 (bestC (fs.foldl (dayStep day) none)) ∧ Blk W bb1 4 [.bool (fs.foldl (dayStep day) none).isSome]) ⟨?_, ?_⟩ (Nat.le_refl _) [bb0, bb1] ⟨rfl, Ext.refl _ _, [], rfl, hBe, hBs⟩ ?_ ?_
    (fun W hW => of_iter l k known p A c c1 c2 c3 wof.heap.size W (hsof.ext0 hW) (hC1.ext0 hW) (hC2.ext0 hW) (hC3.ext0 hW)) ?_ ?_ ?_
  · rintro pre X W W' Z ⟨rfl, hE, fs, rfl, hB0, hB1⟩ he hZ
    have h0 : bb0 ∉ Z := fun h => (hZ _ h).2 (by simp)
    have h1 : bb1 ∉ Z := fun h => (hZ _ h).2 (by simp)
    exact ⟨rfl, hE.join he (fun y hy => .inr (hZ y hy).1), fs, rfl, hB0.ext he h0, hB1.ext he h1⟩
  · rintro pre X W ⟨rfl, hE, fs, rfl, hB0, hB1⟩ x hx
    simp only [List.mem_cons, List.not_mem_nil, or_false] at hx
    rcases hx with rfl | rfl
    · exact hB0.lt
    · exact hB1.lt
  · intro x hx hS
    simp only [List.mem_cons, List.not_mem_nil, or_false] at hx
    rcases hS with rfl | rfl | rfl | ⟨h1, rfl⟩
    · omega
    · omega
    · omega
    · have := hlA h1; omega
  · intro x hS
    rcases hS with rfl | rfl | rfl | ⟨h1, rfl⟩
    · omega
    · omega
    · omega
    · have := hlA h1; omega
  · intro pre x hx
    have := hx.subset (show x ∈ pre ++ [x] by simp)
    obtain ⟨f, _, rfl⟩ := List.mem_map.1 this
    rfl
  · rintro pre x X W l' hnx ⟨rfl, hE, fs, rfl, hB0, hB1⟩ hl hl2 hlX
    obtain ⟨f, rfl⟩ := ofL_next hnx
    have hzW := hE.size
    have hC6W : Cells W ⟨bb6, 0, none⟩ [.int .i64 day] := hC6.ext hE (by simp; omega)
    have hl0W := hB0.lt
    have hl1W := hB1.lt
    refine ztx ?_
    refine Ox.act rfl rfl (acts_alloc rfl rfl) ?_
    rintro val wal ⟨eal, bal, rfl, hbal, hBal⟩
    first | (have hCal : Cells wal ⟨bal, 0, none⟩ [_, _, _, _, _, _, _, _] := hBal.cells) | have hCal := Blk.cellsL hBal
    have hlal := hBal.lt
    have hzal := eal.size
    refine Ox.act rfl rfl (acts_store_all rfl rfl rfl hBal rfl (by first | rfl | assumption) (by first | rfl | assumption) (by (first | assumption | exact List.all_eq_true.mp rfl | simp [Value.cells, Value.oneCell']))) ?_
    rintro vst wst ⟨rfl, qst, hBst⟩
    have est := Ext.renew eal qst hbal
    have hzst := est.size
    have hlst := hBst.lt
    first | (have hCst : Cells wst ⟨bal, 0, none⟩ [_, _, _, _, _, _, _, _] := hBst.cells) | have hCst := Blk.cellsL hBst
    refine Ox.fin ?_
    refine ⟨rfl, zxc, fun W2 e2 => ?_⟩
    have hz2 := e2.size
    have hCf : Cells W2 ⟨bal, 0, none⟩ (fc f) := Cells.ext (cs := fc f) hCst e2 (by simp; omega)
    have hCd : Cells W2 ⟨bb6, 0, none⟩ [.int .i64 day] := (hC6W.ext0 est).ext e2 (by simp; omega)
    have hB0' : Blk W2 bb0 64 (bestC (fs.foldl (dayStep day) none)) := (hB0.ext est (by simp)).ext e2 (by simp; omega)
    have hB1' : Blk W2 bb1 4 [.bool (fs.foldl (dayStep day) none).isSome] := (hB1.ext est (by simp)).ext e2 (by simp; omega)
    have hC0' := hB0'.cells
    have hC1' := hB1'.cells
    have hEW2 : Ext [bb0, bb1] wof W2 := (hE.trans est.up).join e2 (fun y hy => by simp only [List.mem_singleton] at hy; subst hy; exact .inr (by omega))
    have hstep : (fs ++ [f]).foldl (dayStep day) none = dayStep day (fs.foldl (dayStep day) none) f := by rw [List.foldl_append]; rfl
    have fin : ∀ (W3 : World), Ext [bb0, bb1] W2 W3 → Blk W3 bb0 64 (bestC (dayStep day (fs.foldl (dayStep day) none) f)) → Blk W3 bb1 4 [.bool (dayStep day (fs.foldl (dayStep day) none) f).isSome] →
        (Exit.normal = Exit.normal ∧ ∃ X', (X' = [bb0, bb1] ∧ Ext [bb0, bb1] wof W3 ∧ ∃ gs : List Fct, fs.map ya ++ [ya f] = gs.map ya ∧ Blk W3 bb0 64 (bestC (gs.foldl (dayStep day) none)) ∧ Blk W3 bb1 4 [.bool (gs.foldl (dayStep day) none).isSome]) ∧
          (∃ Y, Ext Y W2 W3 ∧ ∀ y ∈ Y, y ∈ [bb0, bb1] ∨ W.heap.size ≤ y) ∧ ∀ k ∈ X', k ∈ [bb0, bb1] ∨ W.heap.size ≤ k) := fun W3 e3 h0 h1 =>
      ⟨rfl, [bb0, bb1], ⟨rfl, hEW2.trans e3, fs ++ [f], by simp, by rw [hstep]; exact h0, by rw [hstep]; exact h1⟩, ⟨[bb0, bb1], e3, fun y hy => .inl hy⟩, fun k hk => .inl hk⟩
    generalize hbb : fs.foldl (dayStep day) none = b at *
    by_cases h1 : f.lo ≤ day
    · by_cases h2 : day < f.hi
      · cases b with
        | none =>
          have hd : dayStep day none f = some f := by simp [dayStep, h1, h2]
          rw [hd] at fin
          refine zbl ?_
          refine ztx ?_
          refine Ox.pure rfl rfl zfa ?_
          refine Ox.pure rfl rfl zfa ?_
          refine Ox.val rfl rfl zrs ?_
          refine Ox.val rfl rfl zrs ?_
          refine Ox.pure rfl rfl zbc ?_
          refine Ox.pure rfl rfl zmv ?_
          first | (refine Ox.skip rfl rfl ?_) | (refine Ox.val rfl rfl zrs ?_)
          first | (refine Ox.skip rfl rfl ?_) | (refine Ox.pure rfl rfl zfa ?_)
          first | (refine Ox.skip rfl rfl ?_) | (refine Ox.pure rfl rfl zfa ?_)
          first | (refine Ox.skip rfl rfl ?_) | (refine Ox.val rfl rfl zrs ?_)
          first | (refine Ox.skip rfl rfl ?_) | (refine Ox.pure rfl rfl zbc ?_)
          refine Ox.pure rfl rfl zpk ?_
          refine Ox.pure rfl rfl zmv ?_
          first | (refine Ox.skip rfl rfl ?_) | (refine Ox.val rfl rfl zrs ?_)
          first | (refine Ox.skip rfl rfl ?_) | (refine Ox.pure rfl rfl (rp_not rfl rfl) ?_)
          first | (refine Ox.skip rfl rfl ?_) | (refine Ox.pure rfl rfl zmv ?_)
          first | (refine Ox.skip rfl rfl ?_) | (refine Ox.val rfl rfl zra ?_)
          first | (refine Ox.skip rfl rfl ?_) | (refine Ox.val rfl rfl zra ?_)
          first | (refine Ox.skip rfl rfl ?_) | (refine Ox.act rfl rfl (acts_call rfl rfl rfl (compare_at f g _)) ?_; rintro v1 w1 ⟨e1, rfl⟩; have hz1 := e1.size)
          first | (refine Ox.skip rfl rfl ?_) | (refine Ox.pure rfl rfl zbc ?_)
          first | (refine Ox.skip rfl rfl ?_) | (refine Ox.pure rfl rfl zpk ?_)
          refine Ox.pure rfl rfl zpk ?_
          refine Ox.fin ?_
          refine zct ?_
          refine ztx ?_
          refine Ox.val rfl rfl zra ?_
          refine Ox.act rfl rfl (acts_store_all rfl rfl rfl (hB0'.ext (X := []) zxc (by simp)) rfl rfl rfl (by (first | assumption | exact List.all_eq_true.mp rfl | simp [Value.cells, Value.oneCell']))) ?_
          rintro vs0 ws0 ⟨rfl, qs0, hbs0⟩
          refine Ox.act rfl rfl (acts_store_all rfl rfl rfl ((hB1'.ext (X := []) zxc (by simp)).ext qs0 (by simp; omega)) rfl rfl rfl (by (first | assumption | exact List.all_eq_true.mp rfl | simp [Value.cells, Value.oneCell']))) ?_
          rintro vs1 ws1 ⟨rfl, qs1, hbs1⟩
          refine Ox.fin ?_
          exact fin _ (((Ext.up zxc).trans (qs0.mono (by simp))).trans (qs1.mono (by simp))) (hbs0.ext qs1 (by simp; omega)) hbs1
        | some g =>
          have hge := cmpF_ge f g
          by_cases h3 : before f g
          · have hneg : ¬ 0 ≤ cmpF f g := fun h => hge.1 h h3
            have hd : dayStep day (some g) f = some g := by simp [dayStep, h1, h2, h3]
            rw [hd] at fin
            refine zbl ?_
            refine ztx ?_
            refine Ox.pure rfl rfl zfa ?_
            refine Ox.pure rfl rfl zfa ?_
            refine Ox.val rfl rfl zrs ?_
            refine Ox.val rfl rfl zrs ?_
            refine Ox.pure rfl rfl zbc ?_
            refine Ox.pure rfl rfl zmv ?_
            first | (refine Ox.skip rfl rfl ?_) | (refine Ox.val rfl rfl zrs ?_)
            first | (refine Ox.skip rfl rfl ?_) | (refine Ox.pure rfl rfl zfa ?_)
            first | (refine Ox.skip rfl rfl ?_) | (refine Ox.pure rfl rfl zfa ?_)
            first | (refine Ox.skip rfl rfl ?_) | (refine Ox.val rfl rfl zrs ?_)
            first | (refine Ox.skip rfl rfl ?_) | (refine Ox.pure rfl rfl zbc ?_)
            refine Ox.pure rfl rfl zpk ?_
            refine Ox.pure rfl rfl zmv ?_
            first | (refine Ox.skip rfl rfl ?_) | (refine Ox.val rfl rfl zrs ?_)
            first | (refine Ox.skip rfl rfl ?_) | (refine Ox.pure rfl rfl (rp_not rfl rfl) ?_)
            first | (refine Ox.skip rfl rfl ?_) | (refine Ox.pure rfl rfl zmv ?_)
            first | (refine Ox.skip rfl rfl ?_) | (refine Ox.val rfl rfl zra ?_)
            first | (refine Ox.skip rfl rfl ?_) | (refine Ox.val rfl rfl zra ?_)
            first | (refine Ox.skip rfl rfl ?_) | (refine Ox.act rfl rfl (acts_call rfl rfl rfl (compare_at f g _)) ?_; rintro v2 w2 ⟨e2, rfl⟩; have hz2 := e2.size)
            first | (refine Ox.skip rfl rfl ?_) | (refine Ox.pure rfl rfl zbc ?_)
            first | (refine Ox.skip rfl rfl ?_) | (refine Ox.pure rfl rfl zpk ?_)
            refine Ox.pure rfl rfl zpk ?_
            refine Ox.fin ?_
            refine zcf ?_
            refine zsk ?_
            exact fin _ (Ext.up zxc) (hB0'.ext (X := []) zxc (by simp)) (hB1'.ext (X := []) zxc (by simp))
          · have hpos : 0 ≤ cmpF f g := hge.2 h3
            have hd : dayStep day (some g) f = some f := by simp [dayStep, h1, h2, h3]
            rw [hd] at fin
            refine zbl ?_
            refine ztx ?_
            refine Ox.pure rfl rfl zfa ?_
            refine Ox.pure rfl rfl zfa ?_
            refine Ox.val rfl rfl zrs ?_
            refine Ox.val rfl rfl zrs ?_
            refine Ox.pure rfl rfl zbc ?_
            refine Ox.pure rfl rfl zmv ?_
            first | (refine Ox.skip rfl rfl ?_) | (refine Ox.val rfl rfl zrs ?_)
            first | (refine Ox.skip rfl rfl ?_) | (refine Ox.pure rfl rfl zfa ?_)
            first | (refine Ox.skip rfl rfl ?_) | (refine Ox.pure rfl rfl zfa ?_)
            first | (refine Ox.skip rfl rfl ?_) | (refine Ox.val rfl rfl zrs ?_)
            first | (refine Ox.skip rfl rfl ?_) | (refine Ox.pure rfl rfl zbc ?_)
            refine Ox.pure rfl rfl zpk ?_
            refine Ox.pure rfl rfl zmv ?_
            first | (refine Ox.skip rfl rfl ?_) | (refine Ox.val rfl rfl zrs ?_)
            first | (refine Ox.skip rfl rfl ?_) | (refine Ox.pure rfl rfl (rp_not rfl rfl) ?_)
            first | (refine Ox.skip rfl rfl ?_) | (refine Ox.pure rfl rfl zmv ?_)
            first | (refine Ox.skip rfl rfl ?_) | (refine Ox.val rfl rfl zra ?_)
            first | (refine Ox.skip rfl rfl ?_) | (refine Ox.val rfl rfl zra ?_)
            first | (refine Ox.skip rfl rfl ?_) | (refine Ox.act rfl rfl (acts_call rfl rfl rfl (compare_at f g _)) ?_; rintro v3 w3 ⟨e3, rfl⟩; have hz3 := e3.size)
            first | (refine Ox.skip rfl rfl ?_) | (refine Ox.pure rfl rfl zbc ?_)
            first | (refine Ox.skip rfl rfl ?_) | (refine Ox.pure rfl rfl zpk ?_)
            refine Ox.pure rfl rfl zpk ?_
            refine Ox.fin ?_
            refine zct ?_
            refine ztx ?_
            refine Ox.val rfl rfl zra ?_
            refine Ox.act rfl rfl (acts_store_all rfl rfl rfl (hB0'.ext (X := []) zxc (by simp)) rfl rfl rfl (by (first | assumption | exact List.all_eq_true.mp rfl | simp [Value.cells, Value.oneCell']))) ?_
            rintro vs0 ws0 ⟨rfl, qs0, hbs0⟩
            refine Ox.act rfl rfl (acts_store_all rfl rfl rfl ((hB1'.ext (X := []) zxc (by simp)).ext qs0 (by simp; omega)) rfl rfl rfl (by (first | assumption | exact List.all_eq_true.mp rfl | simp [Value.cells, Value.oneCell']))) ?_
            rintro vs1 ws1 ⟨rfl, qs1, hbs1⟩
            refine Ox.fin ?_
            exact fin _ (((Ext.up zxc).trans (qs0.mono (by simp))).trans (qs1.mono (by simp))) (hbs0.ext qs1 (by simp; omega)) hbs1
      · have hd : dayStep day b f = b := by simp [dayStep, h2]
        rw [hd] at fin
        refine zbl ?_
        refine ztx ?_
        refine Ox.pure rfl rfl zfa ?_
        refine Ox.pure rfl rfl zfa ?_
        refine Ox.val rfl rfl zrs ?_
        refine Ox.val rfl rfl zrs ?_
        refine Ox.pure rfl rfl zbc ?_
        refine Ox.pure rfl rfl zmv ?_
        first | (refine Ox.skip rfl rfl ?_) | (refine Ox.val rfl rfl zrs ?_)
        first | (refine Ox.skip rfl rfl ?_) | (refine Ox.pure rfl rfl zfa ?_)
        first | (refine Ox.skip rfl rfl ?_) | (refine Ox.pure rfl rfl zfa ?_)
        first | (refine Ox.skip rfl rfl ?_) | (refine Ox.val rfl rfl zrs ?_)
        first | (refine Ox.skip rfl rfl ?_) | (refine Ox.pure rfl rfl zbc ?_)
        refine Ox.pure rfl rfl zpk ?_
        refine Ox.pure rfl rfl zmv ?_
        first | (refine Ox.skip rfl rfl ?_) | (refine Ox.val rfl rfl zrs ?_)
        first | (refine Ox.skip rfl rfl ?_) | (refine Ox.pure rfl rfl (rp_not rfl rfl) ?_)
        first | (refine Ox.skip rfl rfl ?_) | (refine Ox.pure rfl rfl zmv ?_)
        first | (refine Ox.skip rfl rfl ?_) | (refine Ox.val rfl rfl zra ?_)
        first | (refine Ox.skip rfl rfl ?_) | (refine Ox.val rfl rfl zra ?_)
        first | (refine Ox.skip rfl rfl ?_) | (refine Ox.act rfl rfl (acts_call rfl rfl rfl (compare_at f g _)) ?_; rintro v4 w4 ⟨e4, rfl⟩; have hz4 := e4.size)
        first | (refine Ox.skip rfl rfl ?_) | (refine Ox.pure rfl rfl zbc ?_)
        first | (refine Ox.skip rfl rfl ?_) | (refine Ox.pure rfl rfl zpk ?_)
        refine Ox.pure rfl rfl zpk ?_
        refine Ox.fin ?_
        refine zcf ?_
        refine zsk ?_
        exact fin _ (Ext.up zxc) (hB0'.ext (X := []) zxc (by simp)) (hB1'.ext (X := []) zxc (by simp))
    · have hd : dayStep day b f = b := by simp [dayStep, h1]
      rw [hd] at fin
      refine zbl ?_
      refine ztx ?_
      refine Ox.pure rfl rfl zfa ?_
      refine Ox.pure rfl rfl zfa ?_
      refine Ox.val rfl rfl zrs ?_
      refine Ox.val rfl rfl zrs ?_
      refine Ox.pure rfl rfl zbc ?_
      refine Ox.pure rfl rfl zmv ?_
      first | (refine Ox.skip rfl rfl ?_) | (refine Ox.val rfl rfl zrs ?_)
      first | (refine Ox.skip rfl rfl ?_) | (refine Ox.pure rfl rfl zfa ?_)
      first | (refine Ox.skip rfl rfl ?_) | (refine Ox.pure rfl rfl zfa ?_)
      first | (refine Ox.skip rfl rfl ?_) | (refine Ox.val rfl rfl zrs ?_)
      first | (refine Ox.skip rfl rfl ?_) | (refine Ox.pure rfl rfl zbc ?_)
      refine Ox.pure rfl rfl zpk ?_
      refine Ox.pure rfl rfl zmv ?_
      first | (refine Ox.skip rfl rfl ?_) | (refine Ox.val rfl rfl zrs ?_)
      first | (refine Ox.skip rfl rfl ?_) | (refine Ox.pure rfl rfl (rp_not rfl rfl) ?_)
      first | (refine Ox.skip rfl rfl ?_) | (refine Ox.pure rfl rfl zmv ?_)
      first | (refine Ox.skip rfl rfl ?_) | (refine Ox.val rfl rfl zra ?_)
      first | (refine Ox.skip rfl rfl ?_) | (refine Ox.val rfl rfl zra ?_)
      first | (refine Ox.skip rfl rfl ?_) | (refine Ox.act rfl rfl (acts_call rfl rfl rfl (compare_at f g _)) ?_; rintro v5 w5 ⟨e5, rfl⟩; have hz5 := e5.size)
      first | (refine Ox.skip rfl rfl ?_) | (refine Ox.pure rfl rfl zbc ?_)
      first | (refine Ox.skip rfl rfl ?_) | (refine Ox.pure rfl rfl zpk ?_)
      refine Ox.pure rfl rfl zpk ?_
      refine Ox.fin ?_
      refine zcf ?_
      refine zsk ?_
      exact fin _ (Ext.up zxc) (hB0'.ext (X := []) zxc (by simp)) (hB1'.ext (X := []) zxc (by simp))
  · rintro D pre X W' hD hR hDX rfl ⟨rfl, hE, fs, hfs, hB0, hB1⟩
    obtain rfl := map_inj' (fun _ _ => ya_inj) hfs
    have hbest : atL l k day known = valO ((ofL l k known).foldl (dayStep day) none) := rfl
    rw [hbest]
    generalize (ofL l k known).foldl (dayStep day) none = b at *
    have hC0' := hB0.cells
    have hC1' := hB1.cells
    have hE' : Ext [] w W' := (Ext.up (X := []) e0).join hE (fun y hy => .inr (by simp only [List.mem_cons, List.not_mem_nil, or_false] at hy; rcases hy with rfl | rfl <;> omega))
    refine SxG.done (Q := endM _ _ _ D) ?_ endM_done
    cases b with
    | none =>
      refine ztx ?_
      refine Ox.val rfl rfl zrs ?_
      refine Ox.pure rfl rfl (rp_not rfl rfl) ?_
      refine Ox.pure rfl rfl zmv ?_
      first | (refine Ox.skip rfl rfl ?_) | (refine Ox.pure rfl rfl zfa ?_)
      first | (refine Ox.skip rfl rfl ?_) | (refine Ox.val rfl rfl zrs ?_)
      first | (refine Ox.skip rfl rfl ?_) | (refine Ox.pure rfl rfl zbc ?_)
      refine Ox.pure rfl rfl zpk ?_
      refine Ox.fin ?_
      refine zct ?_
      refine ztx ?_
      refine Ox.pure rfl rfl zas ?_
      refine Ox.pure rfl rfl zas ?_
      refine Ox.fin ?_
      refine zrt ?_
      exact endM_ret (.inl rfl) [_, _] (hR.ext0 zxc) (fun w' he => ⟨rfl, rfl, trivial⟩) (fun w' he => ⟨Ext.renew (b := D) zxc he (by omega), rfl⟩)
    | some f =>
      by_cases hv : f.val < 0
      · have hvo : valO (some f) = (0, false) := by simp [valO, hv]
        rw [hvo]
        refine ztx ?_
        refine Ox.val rfl rfl zrs ?_
        refine Ox.pure rfl rfl (rp_not rfl rfl) ?_
        refine Ox.pure rfl rfl zmv ?_
        first | (refine Ox.skip rfl rfl ?_) | (refine Ox.pure rfl rfl zfa ?_)
        first | (refine Ox.skip rfl rfl ?_) | (refine Ox.val rfl rfl zrs ?_)
        first | (refine Ox.skip rfl rfl ?_) | (refine Ox.pure rfl rfl zbc ?_)
        refine Ox.pure rfl rfl zpk ?_
        refine Ox.fin ?_
        refine zct ?_
        refine ztx ?_
        refine Ox.pure rfl rfl zas ?_
        refine Ox.pure rfl rfl zas ?_
        refine Ox.fin ?_
        refine zrt ?_
        exact endM_ret (.inl rfl) [_, _] (hR.ext0 zxc) (fun w' he => ⟨rfl, rfl, trivial⟩) (fun w' he => ⟨Ext.renew (b := D) zxc he (by omega), rfl⟩)
      · have hvo : valO (some f) = (f.val, true) := by simp [valO, hv]
        rw [hvo]
        refine ztx ?_
        refine Ox.val rfl rfl zrs ?_
        refine Ox.pure rfl rfl (rp_not rfl rfl) ?_
        refine Ox.pure rfl rfl zmv ?_
        first | (refine Ox.skip rfl rfl ?_) | (refine Ox.pure rfl rfl zfa ?_)
        first | (refine Ox.skip rfl rfl ?_) | (refine Ox.val rfl rfl zrs ?_)
        first | (refine Ox.skip rfl rfl ?_) | (refine Ox.pure rfl rfl zbc ?_)
        refine Ox.pure rfl rfl zpk ?_
        refine Ox.fin ?_
        refine zcf ?_
        refine zsk ?_
        refine ztx ?_
        refine Ox.pure rfl rfl zfa ?_
        refine Ox.val rfl rfl zrs ?_
        refine Ox.pure rfl rfl zas ?_
        refine Ox.pure rfl rfl zas ?_
        refine Ox.fin ?_
        refine zrt ?_
        exact endM_ret (.inl rfl) [_, _] (hR.ext0 zxc) (fun w' he => ⟨rfl, rfl, trivial⟩) (fun w' he => ⟨Ext.renew (b := D) zxc he (by omega), rfl⟩)

end Go.Proofs.Ytfgckcochilpkaa

/- The facts' walks: the reference's value on a day; lists held against each other. -/
set_option linter.unusedVariables false
set_option maxRecDepth 100000
set_option maxHeartbeats 4000000
set_option linter.unusedSimpArgs false
namespace Go.Proofs.Ytfgckcochilpkaa
open Go Go.Eng

theorem bestL_take {l : List Fct} {k : Ky} {day known : Int} {i : Nat} (hi : i < l.length) : bestL (l.take (i + 1)) k day known = if l[i].key = k ∧ l[i].known ≤ known then dayStep day (bestL (l.take i) k day known) l[i] else bestL (l.take i) k day known := by
  unfold bestL
  rw [ofL_take hi, List.foldl_append]
  by_cases h : l[i].key = k ∧ l[i].known ≤ known
  · rw [if_pos h, if_pos h]; rfl
  · rw [if_neg h, if_neg h]; rfl

/-- Where the one that counts lies. -/
def BestAt (l : List Fct) (k : Ky) (day known : Int) (i : Nat) (b : Int) : Prop :=
  (b = -1 ∧ bestL (l.take i) k day known = none) ∨ ∃ j, ∃ h : j < l.length, b = (j : Int) ∧ j < i ∧ bestL (l.take i) k day known = some l[j]

theorem ld_field {α : Type} {enc : α → List Value} {m : Nat} (h : ∀ a, (enc a).length = m) {P : Program} {w : World} {t : TypeId} {A : Addr} {l : List α} (hc : Cells w A (rowsV enc l)) {i : Nat} (hi : i < l.length) (off : Nat) {v : Value} (ht : aggOf P t = some false) (ho : off < m) (hv : (enc l[i])[off]? = some v) : Ld P w t (A.add (i * m + off)) v := by
  refine hc.ld (i * m + off) ht ?_
  have := rowsV_at h hi
  rw [← this, List.getElem?_take_of_lt ho, List.getElem?_drop] at hv
  exact hv

end Go.Proofs.Ytfgckcochilpkaa

/- The facts' walks: lists held against each other. -/
set_option linter.unusedVariables false
set_option maxRecDepth 100000
set_option maxHeartbeats 4000000
set_option linter.unusedSimpArgs false
namespace Go.Proofs.Ytfgckcochilpkaa
open Go Go.Eng

theorem eqFct (a b : Fct) (w : World) : (Op.equalIn (9999 + 1) 64 (.agg (fc a).toArray) (.agg (fc b).toArray)).run Try.prog w = .ok (decide (a = b)) w := by
  rw [eqs rfl (by kernel_rfl) (eqf_sub (by decide) rfl rfl (eqs rfl (by kernel_rfl) (eqf_int (by decide) rfl rfl rfl rfl (eqf_int (by decide) rfl rfl rfl rfl (eqf_int (by decide) rfl rfl rfl rfl (eqf_nil _ _ _ _)))))
    (eqf_int (by decide) rfl rfl rfl rfl (eqf_sub (by decide) rfl rfl (eqs rfl (by kernel_rfl) (eqf_int (by decide) rfl rfl rfl rfl (eqf_int (by decide) rfl rfl rfl rfl (eqf_nil _ _ _ _))))
    (eqf_int (by decide) rfl rfl rfl rfl (eqf_int (by decide) rfl rfl rfl rfl (eqf_nil _ _ _ _))))))]
  simp [Fct.eq_iff, Ky.eq_iff, Bool.decide_and, Bool.and_assoc]
theorem egFct : Try.prog.eqGuardType Try.prog.depth 64 = false := by kernel_rfl

/-- A point: a day, a value. -/
abbrev Pt := Int × Int
abbrev pc (q : Pt) : List Value := [.int .i64 q.1, .int .i64 q.2]
theorem pc_len (q : Pt) : (pc q).length = 2 := rfl
theorem pc_one (q : Pt) : ∀ u ∈ pc q, u.oneCell' = true := by simp [pc, Value.oneCell']
theorem eqPt (a b : Pt) (w : World) : (Op.equalIn (9999 + 1) 104 (.agg (pc a).toArray) (.agg (pc b).toArray)).run Try.prog w = .ok (decide (a = b)) w := by
  rw [eqs rfl (by kernel_rfl) (eqf_int (by decide) rfl rfl rfl rfl (eqf_int (by decide) rfl rfl rfl rfl (eqf_nil _ _ _ _)))]
  obtain ⟨a1, a2⟩ := a
  obtain ⟨b1, b2⟩ := b
  simp [Bool.decide_and]
theorem egPt : Try.prog.eqGuardType Try.prog.depth 104 = false := by kernel_rfl

theorem take_eq_step {α : Type} {l m : List α} {i : Nat} (h1 : i < l.length) (h2 : i < m.length) (h : l.take i = m.take i) (he : l[i] = m[i]) : l.take (i + 1) = m.take (i + 1) := by
  rw [← List.take_append_getElem h1, ← List.take_append_getElem h2, h, he]

theorem ref_Same (l m : List Fct) (p q : Option Addr) (A B : Addr) (c d : Nat) (w : World) (hs : SlV fc w p A l c) (ht : SlV fc w q B m d) :
    Calls Try.prog 21 #[.slice p l.length c, .slice q m.length d] w (Ret fun r w' => Ext [] w w' ∧ r = .bool (decide (l = m))) := by
  have hp := hs.ptr
  have hrow := hs.row
  have hfew := hs.few
  have hp2 := ht.ptr
  have hrow2 := ht.row
  have hfew2 := ht.few
  refine calls_of_Sx (args := [.slice p l.length c, .slice q m.length d]) Try.func21 rfl rfl ?_
  by_cases hlen : l.length = m.length; rotate_left
  · refine ztx ?_
    refine Ox.pure rfl rfl zas ?_
    refine Ox.fin ?_
    refine ztx ?_
    refine Ox.pure rfl rfl zmv ?_
    refine Ox.pure rfl rfl (rp_lenS rfl rfl rfl) ?_
    refine Ox.pure rfl rfl zmv ?_
    refine Ox.pure rfl rfl (rp_lenS rfl rfl rfl) ?_
    refine Ox.pure rfl rfl zbc ?_
    refine Ox.fin ?_
    refine zct ?_
    refine ztx ?_
    refine Ox.pure rfl rfl zas ?_
    refine Ox.fin ?_
    refine zrt ?_
    exact endE_ret [_] ⟨rfl, trivial⟩ ⟨zxc, congrArg Value.bool (decide_eq_false (fun h => hlen (by rw [h]))).symm⟩
  refine ztx ?_
  refine Ox.pure rfl rfl zas ?_
  refine Ox.fin ?_
  refine ztx ?_
  refine Ox.pure rfl rfl zmv ?_
  refine Ox.pure rfl rfl (rp_lenS rfl rfl rfl) ?_
  refine Ox.pure rfl rfl zmv ?_
  refine Ox.pure rfl rfl (rp_lenS rfl rfl rfl) ?_
  refine Ox.pure rfl rfl zbc ?_
  refine Ox.fin ?_
  refine zcf ?_
  refine zsk ?_
  refine ztx ?_
  refine Ox.pure rfl rfl zas ?_
  refine Ox.fin ?_
  refine zbl ?_
  refine Sx.loop (ι := Nat) (fun i E wr => E = [(0, .slice p l.length c), (1, .slice q m.length d), (5, .int .i64 (i : Int))] ∧ i ≤ l.length ∧ l.take i = m.take i ∧ Ext [] w wr) (fun i => l.length - i) 0
    (sub_cons rfl (sub_cons rfl (sub_cons rfl sub_nil))) ⟨rfl, Nat.zero_le _, rfl, zxc⟩ ?_
  rintro i E wr ⟨rfl, hi, hf, er⟩
  by_cases hlt : i < l.length
  · have hlt2 : i < m.length := by omega
    have hat := rowsV_at fc_len hlt
    have hl8 := fc_len l[i]
    have hat2 := rowsV_at fc_len hlt2
    have hl82 := fc_len m[i]
    by_cases he : l[i] = m[i]
    · refine ztx ?_
      refine Ox.pure rfl rfl zmv ?_
      refine Ox.pure rfl rfl zmv ?_
      refine Ox.pure rfl rfl (rp_lenS rfl rfl rfl) ?_
      refine Ox.pure rfl rfl zbc ?_
      refine Ox.fin ?_
      refine zct ?_
      refine zsk ?_
      refine zbl ?_
      (repeat refine Sx.seq ?_)
      refine Sx.walkR rfl (fun _ _ _ _ h => h) [0, 1, 2, 3, 4, 5, 6, 7, 8] [0, 1, 2, 3, 4, 5, 6, 7, 8] (0) (by kernel_rfl) ?_
      intro hq w1 e1; have hz1 := e1.size
      refine Wx.pure hq rfl rfl rfl rfl zmv ?_
      refine Wx.pure hq rfl rfl rfl rfl zmv ?_
      refine Wx.pure hq rfl rfl rfl rfl zix ?_
      refine Wx.val hq rfl rfl rfl rfl ([]) zra ?_
      refine Wx.pure hq rfl rfl rfl rfl zmv ?_
      refine Wx.pure hq rfl rfl rfl rfl zmv ?_
      refine Wx.pure hq rfl rfl rfl rfl zix ?_
      refine Wx.val hq rfl rfl rfl rfl ([]) zra ?_
      refine Wx.pure hq rfl rfl rfl rfl (by first | exact rp_neA_t rfl egFct rfl rfl (eqFct l[i] m[i]) (by assumption) | exact rp_neA_f rfl egFct rfl rfl (eqFct l[i] m[i]) (by assumption)) ?_
      refine Wx.fin ?_
      refine zcf ?_
      refine zsk ?_
      refine ztx ?_
      refine Ox.pure rfl rfl zmv ?_
      refine Ox.pure rfl rfl zba ?_
      refine Ox.pure rfl rfl zas ?_
      refine Ox.fin ?_
      exact ⟨i + 1, _, sub_cons rfl (sub_cons rfl (sub_cons rfl sub_nil)), ⟨rfl, hlt, take_eq_step hlt hlt2 hf he, zxc⟩, by omega⟩
    · refine ztx ?_
      refine Ox.pure rfl rfl zmv ?_
      refine Ox.pure rfl rfl zmv ?_
      refine Ox.pure rfl rfl (rp_lenS rfl rfl rfl) ?_
      refine Ox.pure rfl rfl zbc ?_
      refine Ox.fin ?_
      refine zct ?_
      refine zsk ?_
      refine zbl ?_
      (repeat refine Sx.seq ?_)
      refine Sx.walkR rfl (fun _ _ _ _ h => h) [0, 1, 2, 3, 4, 5, 6, 7, 8] [0, 1, 2, 3, 4, 5, 6, 7, 8] (0) (by kernel_rfl) ?_
      intro hq w2 e2; have hz2 := e2.size
      refine Wx.pure hq rfl rfl rfl rfl zmv ?_
      refine Wx.pure hq rfl rfl rfl rfl zmv ?_
      refine Wx.pure hq rfl rfl rfl rfl zix ?_
      refine Wx.val hq rfl rfl rfl rfl ([]) zra ?_
      refine Wx.pure hq rfl rfl rfl rfl zmv ?_
      refine Wx.pure hq rfl rfl rfl rfl zmv ?_
      refine Wx.pure hq rfl rfl rfl rfl zix ?_
      refine Wx.val hq rfl rfl rfl rfl ([]) zra ?_
      refine Wx.pure hq rfl rfl rfl rfl (by first | exact rp_neA_t rfl egFct rfl rfl (eqFct l[i] m[i]) (by assumption) | exact rp_neA_f rfl egFct rfl rfl (eqFct l[i] m[i]) (by assumption)) ?_
      refine Wx.fin ?_
      refine zct ?_
      refine ztx ?_
      refine Ox.pure rfl rfl zas ?_
      refine Ox.fin ?_
      refine zrt ?_
      exact endE_ret [_] ⟨rfl, trivial⟩ ⟨zxc, congrArg Value.bool (decide_eq_false (fun h => he (by subst h; rfl))).symm⟩
  · rw [List.take_of_length_le (by omega), List.take_of_length_le (by omega)] at hf
    refine ztx ?_
    refine Ox.pure rfl rfl zmv ?_
    refine Ox.pure rfl rfl zmv ?_
    refine Ox.pure rfl rfl (rp_lenS rfl rfl rfl) ?_
    refine Ox.pure rfl rfl zbc ?_
    refine Ox.fin ?_
    refine zcf ?_
    refine zex ?_
    refine ztx ?_
    refine Ox.pure rfl rfl zas ?_
    refine Ox.fin ?_
    refine zrt ?_
    exact endE_ret [_] ⟨rfl, trivial⟩ ⟨zxc, congrArg Value.bool (decide_eq_true hf).symm⟩

theorem ref_SamePoints (l m : List Pt) (p q : Option Addr) (A B : Addr) (c d : Nat) (w : World) (hs : SlV pc w p A l c) (ht : SlV pc w q B m d) :
    Calls Try.prog 56 #[.slice p l.length c, .slice q m.length d] w (Ret fun r w' => Ext [] w w' ∧ r = .bool (decide (l = m))) := by
  have hp := hs.ptr
  have hrow := hs.row
  have hfew := hs.few
  have hp2 := ht.ptr
  have hrow2 := ht.row
  have hfew2 := ht.few
  refine calls_of_Sx (args := [.slice p l.length c, .slice q m.length d]) Try.func56 rfl rfl ?_
  by_cases hlen : l.length = m.length; rotate_left
  · refine ztx ?_
    refine Ox.pure rfl rfl zas ?_
    refine Ox.fin ?_
    refine ztx ?_
    refine Ox.pure rfl rfl zmv ?_
    refine Ox.pure rfl rfl (rp_lenS rfl rfl rfl) ?_
    refine Ox.pure rfl rfl zmv ?_
    refine Ox.pure rfl rfl (rp_lenS rfl rfl rfl) ?_
    refine Ox.pure rfl rfl zbc ?_
    refine Ox.fin ?_
    refine zct ?_
    refine ztx ?_
    refine Ox.pure rfl rfl zas ?_
    refine Ox.fin ?_
    refine zrt ?_
    exact endE_ret [_] ⟨rfl, trivial⟩ ⟨zxc, congrArg Value.bool (decide_eq_false (fun h => hlen (by rw [h]))).symm⟩
  refine ztx ?_
  refine Ox.pure rfl rfl zas ?_
  refine Ox.fin ?_
  refine ztx ?_
  refine Ox.pure rfl rfl zmv ?_
  refine Ox.pure rfl rfl (rp_lenS rfl rfl rfl) ?_
  refine Ox.pure rfl rfl zmv ?_
  refine Ox.pure rfl rfl (rp_lenS rfl rfl rfl) ?_
  refine Ox.pure rfl rfl zbc ?_
  refine Ox.fin ?_
  refine zcf ?_
  refine zsk ?_
  refine ztx ?_
  refine Ox.pure rfl rfl zas ?_
  refine Ox.fin ?_
  refine zbl ?_
  refine Sx.loop (ι := Nat) (fun i E wr => E = [(0, .slice p l.length c), (1, .slice q m.length d), (5, .int .i64 (i : Int))] ∧ i ≤ l.length ∧ l.take i = m.take i ∧ Ext [] w wr) (fun i => l.length - i) 0
    (sub_cons rfl (sub_cons rfl (sub_cons rfl sub_nil))) ⟨rfl, Nat.zero_le _, rfl, zxc⟩ ?_
  rintro i E wr ⟨rfl, hi, hf, er⟩
  by_cases hlt : i < l.length
  · have hlt2 : i < m.length := by omega
    have hat := rowsV_at pc_len hlt
    have hl8 := pc_len l[i]
    have hat2 := rowsV_at pc_len hlt2
    have hl82 := pc_len m[i]
    by_cases he : l[i] = m[i]
    · refine ztx ?_
      refine Ox.pure rfl rfl zmv ?_
      refine Ox.pure rfl rfl zmv ?_
      refine Ox.pure rfl rfl (rp_lenS rfl rfl rfl) ?_
      refine Ox.pure rfl rfl zbc ?_
      refine Ox.fin ?_
      refine zct ?_
      refine zsk ?_
      refine zbl ?_
      (repeat refine Sx.seq ?_)
      refine Sx.walkR rfl (fun _ _ _ _ h => h) [0, 1, 2, 3, 4, 5, 6, 7, 8] [0, 1, 2, 3, 4, 5, 6, 7, 8] (0) (by kernel_rfl) ?_
      intro hq w3 e3; have hz3 := e3.size
      refine Wx.pure hq rfl rfl rfl rfl zmv ?_
      refine Wx.pure hq rfl rfl rfl rfl zmv ?_
      refine Wx.pure hq rfl rfl rfl rfl zix ?_
      refine Wx.val hq rfl rfl rfl rfl ([]) zra ?_
      refine Wx.pure hq rfl rfl rfl rfl zmv ?_
      refine Wx.pure hq rfl rfl rfl rfl zmv ?_
      refine Wx.pure hq rfl rfl rfl rfl zix ?_
      refine Wx.val hq rfl rfl rfl rfl ([]) zra ?_
      refine Wx.pure hq rfl rfl rfl rfl (by first | exact rp_neA_t rfl egPt rfl rfl (eqPt l[i] m[i]) (by assumption) | exact rp_neA_f rfl egPt rfl rfl (eqPt l[i] m[i]) (by assumption)) ?_
      refine Wx.fin ?_
      refine zcf ?_
      refine zsk ?_
      refine ztx ?_
      refine Ox.pure rfl rfl zmv ?_
      refine Ox.pure rfl rfl zba ?_
      refine Ox.pure rfl rfl zas ?_
      refine Ox.fin ?_
      exact ⟨i + 1, _, sub_cons rfl (sub_cons rfl (sub_cons rfl sub_nil)), ⟨rfl, hlt, take_eq_step hlt hlt2 hf he, zxc⟩, by omega⟩
    · refine ztx ?_
      refine Ox.pure rfl rfl zmv ?_
      refine Ox.pure rfl rfl zmv ?_
      refine Ox.pure rfl rfl (rp_lenS rfl rfl rfl) ?_
      refine Ox.pure rfl rfl zbc ?_
      refine Ox.fin ?_
      refine zct ?_
      refine zsk ?_
      refine zbl ?_
      (repeat refine Sx.seq ?_)
      refine Sx.walkR rfl (fun _ _ _ _ h => h) [0, 1, 2, 3, 4, 5, 6, 7, 8] [0, 1, 2, 3, 4, 5, 6, 7, 8] (0) (by kernel_rfl) ?_
      intro hq w4 e4; have hz4 := e4.size
      refine Wx.pure hq rfl rfl rfl rfl zmv ?_
      refine Wx.pure hq rfl rfl rfl rfl zmv ?_
      refine Wx.pure hq rfl rfl rfl rfl zix ?_
      refine Wx.val hq rfl rfl rfl rfl ([]) zra ?_
      refine Wx.pure hq rfl rfl rfl rfl zmv ?_
      refine Wx.pure hq rfl rfl rfl rfl zmv ?_
      refine Wx.pure hq rfl rfl rfl rfl zix ?_
      refine Wx.val hq rfl rfl rfl rfl ([]) zra ?_
      refine Wx.pure hq rfl rfl rfl rfl (by first | exact rp_neA_t rfl egPt rfl rfl (eqPt l[i] m[i]) (by assumption) | exact rp_neA_f rfl egPt rfl rfl (eqPt l[i] m[i]) (by assumption)) ?_
      refine Wx.fin ?_
      refine zct ?_
      refine ztx ?_
      refine Ox.pure rfl rfl zas ?_
      refine Ox.fin ?_
      refine zrt ?_
      exact endE_ret [_] ⟨rfl, trivial⟩ ⟨zxc, congrArg Value.bool (decide_eq_false (fun h => he (by subst h; rfl))).symm⟩
  · rw [List.take_of_length_le (by omega), List.take_of_length_le (by omega)] at hf
    refine ztx ?_
    refine Ox.pure rfl rfl zmv ?_
    refine Ox.pure rfl rfl zmv ?_
    refine Ox.pure rfl rfl (rp_lenS rfl rfl rfl) ?_
    refine Ox.pure rfl rfl zbc ?_
    refine Ox.fin ?_
    refine zcf ?_
    refine zex ?_
    refine ztx ?_
    refine Ox.pure rfl rfl zas ?_
    refine Ox.fin ?_
    refine zrt ?_
    exact endE_ret [_] ⟨rfl, trivial⟩ ⟨zxc, congrArg Value.bool (decide_eq_true hf).symm⟩

end Go.Proofs.Ytfgckcochilpkaa

/- The facts' walks: the values on all days. -/
set_option linter.unusedVariables false
set_option maxRecDepth 100000
set_option maxHeartbeats 4000000
set_option linter.unusedSimpArgs false
namespace Go.Proofs.Ytfgckcochilpkaa
open Go Go.Eng

/-! ## Tables of 1024 -/
def tab {α : Type} (g : Nat → α) : List α := (List.range 1024).map g
theorem tab_length {α : Type} (g : Nat → α) : (tab g).length = 1024 := by simp [tab]
theorem tab_get {α : Type} (g : Nat → α) {i : Nat} (h : i < (tab g).length) : (tab g)[i] = g i := by simp [tab]
theorem tab_ext {α : Type} {g h : Nat → α} (he : ∀ i, i < 1024 → g i = h i) : tab g = tab h := List.map_congr_left fun i hi => he i (by simpa using hi)
theorem tab_set {α : Type} (g : Nat → α) (i : Nat) (x : α) : (tab g).set i x = tab (fun j => if j = i then x else g j) := by
  apply List.ext_getElem
  · simp [tab]
  · intro j h1 h2
    rw [List.getElem_set, tab_get]
    by_cases h : i = j
    · subst h; rw [if_pos rfl, tab_get, if_pos rfl]
    · rw [if_neg h, tab_get, if_neg (Ne.symm h)]
theorem tab_same {α : Type} {g : Nat → α} {i : Nat} {x : α} (h : g i = x) : tab (fun j => if j = i then x else g j) = tab g := tab_ext fun j _ => by
  by_cases hj : j = i
  · subst hj; simp [h]
  · simp [hj]

abbrev sc (b : Option Fct) : List Value := [.bool b.isSome]
theorem sc_len (b : Option Fct) : (sc b).length = 1 := rfl
theorem ic_len (a : Int) : (ic a).length = 1 := rfl
theorem bestC_len (b : Option Fct) : (bestC b).length = 8 := rfl
theorem bestC_one (b : Option Fct) : ∀ u ∈ bestC b, u.oneCell' = true := fc_one _

def stepF (g : Nat → Option Fct) (f : Fct) (j : Nat) : Option Fct := dayStep (j : Int) (g j) f
/-- The table when the days before d have been looked at. -/
def upto (g : Nat → Option Fct) (f : Fct) (d : Int) (j : Nat) : Option Fct := if (j : Int) < d then stepF g f j else g j
theorem upto_start (g : Nat → Option Fct) (f : Fct) : tab (upto g f (max 0 f.lo)) = tab g := tab_ext fun j _ => by
  unfold upto stepF dayStep
  by_cases h : (j : Int) < max 0 f.lo
  · rw [if_pos h, if_neg (by omega)]
  · rw [if_neg h]
theorem upto_end (g : Nat → Option Fct) (f : Fct) {d : Int} (h : ¬ d < min f.hi 1024) : tab (upto g f d) = tab (stepF g f) := tab_ext fun j hj => by
  unfold upto
  by_cases h2 : (j : Int) < d
  · rw [if_pos h2]
  · rw [if_neg h2]; unfold stepF dayStep; rw [if_neg (by omega)]
theorem upto_step (g : Nat → Option Fct) (f : Fct) (d : Nat) : tab (upto g f ((d : Int) + 1)) = tab (fun j => if j = d then stepF g f d else upto g f d j) := tab_ext fun j _ => by
  unfold upto
  by_cases hj : j = d
  · subst hj; rw [if_pos (by omega), if_pos rfl]
  · rw [if_neg hj]
    by_cases h2 : (j : Int) < (d : Int)
    · rw [if_pos h2, if_pos (by omega)]
    · rw [if_neg h2, if_neg (by omega)]
theorem upto_at (g : Nat → Option Fct) (f : Fct) (d : Nat) : upto g f d d = g d := by unfold upto; rw [if_neg (by omega)]

def foldD (fs : List Fct) (j : Nat) : Option Fct := fs.foldl (dayStep (j : Int)) none
theorem foldD_snoc (fs : List Fct) (f : Fct) : foldD (fs ++ [f]) = stepF (foldD fs) f := by
  funext j; unfold foldD stepF; rw [List.foldl_append]; rfl
def valuesL (l : List Fct) (k : Ky) (known : Int) : List Int := tab (fun j => rowO (bestL l k (j : Int) known))
theorem valuesL_length (l : List Fct) (k : Ky) (known : Int) : (valuesL l k known).length = 1024 := tab_length _

/-- The values when i days have been gone through. -/
def rowTo (g : Nat → Option Fct) (i : Nat) (j : Nat) : Int := if j < i then rowO (g j) else 0
theorem rowTo_step (g : Nat → Option Fct) (i : Nat) : (tab (rowTo g i)).set i (rowO (g i)) = tab (rowTo g (i + 1)) := by
  rw [tab_set]
  refine tab_ext fun j _ => ?_
  unfold rowTo
  by_cases hj : j = i
  · subst hj; simp
  · rw [if_neg hj]
    by_cases h : j < i
    · rw [if_pos h, if_pos (by omega)]
    · rw [if_neg h, if_neg (by omega)]
theorem rowTo_end (g : Nat → Option Fct) : tab (rowTo g 1024) = tab (fun j => rowO (g j)) := tab_ext fun j hj => by unfold rowTo; rw [if_pos hj]

theorem z70 : (zrOf Try.prog 106).map (fun z => z.cells.toList) = some (rowsV ic (tab fun _ => 0)) := by kernel_rfl
theorem z84 : (zrOf Try.prog 116).map (fun z => z.cells.toList) = some (rowsV bestC (tab (foldD []))) := by kernel_rfl
theorem z85 : (zrOf Try.prog 117).map (fun z => z.cells.toList) = some (rowsV sc (tab (foldD []))) := by kernel_rfl


theorem values_at (l : List Fct) (k : Ky) (known : Int) (p : Option Addr) (A : Addr) (c : Nat) (w : World) (hs : SlV fc w p A l c) :
    Calls Try.prog 76 #[.slice p l.length c, .agg (kc k).toArray, .int .i64 known] w (Ret fun r w' => Ext [] w w' ∧ r = .agg (rowsV ic (valuesL l k known)).toArray) := by
  refine calls_of_SxG (args := [.slice p l.length c, .agg (kc k).toArray, .int .i64 known]) Try.func76 rfl rfl ?_
  refine SxG.run ?_
  refine ztx ?_
  refine Ox.act rfl rfl (acts_box rfl rfl) ?_
  rintro vb4 wb4 ⟨eb4, bb4, rfl, hbb4, hBb4⟩
  first | (have hCb4 : Cells wb4 ⟨bb4, 0, none⟩ [_, _, _] := hBb4.cells) | have hCb4 := Blk.cellsL hBb4
  have hlb4 := hBb4.lt
  have hzb4 := eb4.size
  refine Ox.act rfl rfl (acts_alloc_z rfl z70) ?_
  rintro vb6 wb6 ⟨eb6, bb6, rfl, hbb6, hBb6⟩
  have hzb6 := eb6.size
  have hlb6 := hBb6.lt
  refine Ox.fin ?_
  refine ⟨rfl, ?_⟩
  refine SxG.run ?_
  refine ztx ?_
  refine Ox.act rfl rfl (acts_alloc_z rfl z84) ?_
  rintro vb7 wb7 ⟨eb7, bb7, rfl, hbb7, hBb7⟩
  have hzb7 := eb7.size
  have hlb7 := hBb7.lt
  refine Ox.fin ?_
  refine ⟨rfl, ?_⟩
  refine SxG.run ?_
  refine ztx ?_
  refine Ox.act rfl rfl (acts_alloc_z rfl z85) ?_
  rintro vb8 wb8 ⟨eb8, bb8, rfl, hbb8, hBb8⟩
  have hzb8 := eb8.size
  have hlb8 := hBb8.lt
  refine Ox.fin ?_
  refine ⟨rfl, ?_⟩
  refine SxG.seqL ?_
  refine SxG.run ?_
  refine ztx ?_
  refine Ox.pure rfl rfl zmv ?_
  refine Ox.val rfl rfl zra ?_
  refine Ox.pure rfl rfl zmv ?_
  refine Ox.act rfl rfl (acts_call rfl rfl rfl (of_at l k known p c _)) ?_
  rintro vof wof ⟨eof, c1, c2, c3, rfl, hc1, hc2, hc3, hC1, hC2, hC3⟩
  have hzof := eof.size
  refine Ox.fin ?_
  refine ⟨rfl, ?_⟩
  have hBr : Blk wof bb6 106 (rowsV ic (tab fun _ => 0)) := hBb6.ext (X := []) zxc (by simp)
  have hBe : Blk wof bb7 116 (rowsV bestC (tab (foldD []))) := hBb7.ext (X := []) zxc (by simp)
  have hBs : Blk wof bb8 117 (rowsV sc (tab (foldD []))) := hBb8.ext (X := []) zxc (by simp)
  have hsof := hs.ext0 (w' := wof) zxc
  have hnew : w.heap.size ≤ bb6 ∧ w.heap.size ≤ bb7 ∧ w.heap.size ≤ bb8 ∧ w.heap.size ≤ c1 ∧ w.heap.size ≤ c2 ∧ w.heap.size ≤ c3 := by omega
  have hneq : bb6 < bb7 ∧ bb7 < bb8 ∧ bb8 < c1 ∧ bb8 < c2 ∧ bb8 < c3 := by omega
  have hlc : c1 < wof.heap.size ∧ c2 < wof.heap.size ∧ c3 < wof.heap.size := ⟨hC1.lt (by simp), hC2.lt (by simp), hC3.lt (by simp)⟩
  have hlA : 0 < l.length → A.block < w.heap.size := fun h => hs.row.lt (fun e => by have := rowsV_length fc_len l; rw [e] at this; simp at this; omega)
  have e0 : Ext [] w wof := zxc
  have hz0 := e0.size
  have hl6 := hBr.lt
  have hl7 := hBe.lt
  have hl8 := hBs.lt
  refine SxG.range (g := 82) (B := wof.heap.size) (S := OfS l.length A c1 c2 c3) rfl rfl rfl
    (fun pre X W => X = [bb7, bb8] ∧ Ext [bb7, bb8] wof W ∧ ∃ fs : List Fct, pre = fs.map ya ∧ Blk W bb7 116 (rowsV bestC (tab (foldD fs))) ∧ Blk W bb8 117 (rowsV sc (tab (foldD fs)))) ⟨?_, ?_⟩ (Nat.le_refl _) [bb7, bb8] ⟨rfl, Ext.refl _ _, [], rfl, hBe, hBs⟩ ?_ ?_
    (fun W hW => of_iter l k known p A c c1 c2 c3 wof.heap.size W (hsof.ext0 hW) (hC1.ext0 hW) (hC2.ext0 hW) (hC3.ext0 hW)) ?_ ?_ ?_
  · rintro pre X W W' Z ⟨rfl, hE, fs, rfl, hB0, hB1⟩ he hZ
    have h0 : bb7 ∉ Z := fun h => (hZ _ h).2 (by simp)
    have h1 : bb8 ∉ Z := fun h => (hZ _ h).2 (by simp)
    exact ⟨rfl, hE.join he (fun y hy => .inr (hZ y hy).1), fs, rfl, hB0.ext he h0, hB1.ext he h1⟩
  · rintro pre X W ⟨rfl, hE, fs, rfl, hB0, hB1⟩ x hx
    simp only [List.mem_cons, List.not_mem_nil, or_false] at hx
    rcases hx with rfl | rfl
    · exact hB0.lt
    · exact hB1.lt
  · intro x hx hS
    simp only [List.mem_cons, List.not_mem_nil, or_false] at hx
    rcases hS with rfl | rfl | rfl | ⟨h1, rfl⟩
    · omega
    · omega
    · omega
    · have := hlA h1; omega
  · intro x hS
    rcases hS with rfl | rfl | rfl | ⟨h1, rfl⟩
    · omega
    · omega
    · omega
    · have := hlA h1; omega
  · intro pre x hx
    have := hx.subset (show x ∈ pre ++ [x] by simp)
    obtain ⟨f, _, rfl⟩ := List.mem_map.1 this
    rfl
  · rintro pre x X W l' hnx ⟨rfl, hE, fs, rfl, hB0, hB1⟩ hl hl2 hlX
    obtain ⟨f, rfl⟩ := ofL_next hnx
    have hzW := hE.size
    have hl7W := hB0.lt
    have hl8W := hB1.lt
    refine ztx ?_
    refine Ox.act rfl rfl (acts_alloc rfl rfl) ?_
    rintro val wal ⟨eal, bal, rfl, hbal, hBal⟩
    first | (have hCal : Cells wal ⟨bal, 0, none⟩ [_, _, _, _, _, _, _, _] := hBal.cells) | have hCal := Blk.cellsL hBal
    have hlal := hBal.lt
    have hzal := eal.size
    refine Ox.act rfl rfl (acts_store_all rfl rfl rfl hBal rfl (by first | rfl | assumption) (by first | rfl | assumption) (by (first | assumption | exact List.all_eq_true.mp rfl | simp [Value.cells, Value.oneCell']))) ?_
    rintro vst wst ⟨rfl, qst, hBst⟩
    have est := Ext.renew eal qst hbal
    have hzst := est.size
    have hlst := hBst.lt
    first | (have hCst : Cells wst ⟨bal, 0, none⟩ [_, _, _, _, _, _, _, _] := hBst.cells) | have hCst := Blk.cellsL hBst
    refine Ox.fin ?_
    refine ⟨rfl, zxc, fun W2 e2 => ?_⟩
    have hz2 := e2.size
    have hCf : Cells W2 ⟨bal, 0, none⟩ (fc f) := Cells.ext (cs := fc f) hCst e2 (by simp; omega)
    have hB0' := (hB0.ext est (by simp)).ext e2 (by simp; omega)
    have hB1' := (hB1.ext est (by simp)).ext e2 (by simp; omega)
    have hEW2 : Ext [bb7, bb8] wof W2 := (hE.trans est.up).join e2 (fun y hy => by simp only [List.mem_singleton] at hy; subst hy; exact .inr (by omega))
    generalize hg : foldD fs = g at *
    refine zbl ?_
    refine ztx ?_
    refine Ox.pure rfl rfl zfa ?_
    refine Ox.pure rfl rfl zfa ?_
    refine Ox.val rfl rfl zrs ?_
    refine Ox.pure rfl rfl (rp_max rfl rfl rfl) ?_
    refine Ox.pure rfl rfl zas ?_
    refine Ox.fin ?_
    refine zbl ?_
    refine Sx.loop (ι := Int) (fun d E wr => E = [(7, .pointer (some ⟨bb7, 0, none⟩)), (8, .pointer (some ⟨bb8, 0, none⟩)), (9, .pointer (some ⟨bal, 0, none⟩)), (10, .int .i64 d)] ∧ max 0 f.lo ≤ d ∧ d ≤ max (max 0 f.lo) (min f.hi 1024) ∧ Ext [bb7, bb8] W2 wr ∧ Blk wr bb7 116 (rowsV bestC (tab (upto g f d))) ∧ Blk wr bb8 117 (rowsV sc (tab (upto g f d)))) (fun d => (1024 - d).toNat) (max 0 f.lo)
      (sub_cons rfl (sub_cons rfl (sub_cons rfl (sub_cons rfl sub_nil)))) ⟨rfl, Int.le_refl _, by omega, Ext.up zxc, by rw [upto_start]; exact hB0'.ext (X := []) zxc (by simp), by rw [upto_start]; exact hB1'.ext (X := []) zxc (by simp)⟩ ?_
    rintro d E wr ⟨rfl, hd, hdm, er, hBw, hBz⟩
    have hCfr : Cells wr ⟨bal, 0, none⟩ (fc f) := hCf.ext er (by simp; omega)
    by_cases hlt : d < min f.hi 1024
    · obtain ⟨j, rfl⟩ : ∃ j : Nat, d = (j : Int) := ⟨d.toNat, by omega⟩
      have hj : j < 1024 := by omega
      have hjt : j < (tab (upto g f (j : Int))).length := by rw [tab_length]; exact hj
      have hatE : ((rowsV bestC (tab (upto g f (j : Int)))).drop (j * 8)).take 8 = fc ((g j).getD zF) := by rw [rowsV_at bestC_len hjt, tab_get, upto_at]; rfl
      have hl8E := fc_len ((g j).getD zF)
      have hatS : (rowsV sc (tab (upto g f (j : Int))))[j * 1]? = some (.bool (g j).isSome) := by
        have := congrArg (fun c => c[0]?) (rowsV_at sc_len hjt)
        rw [tab_get, upto_at] at this
        simpa using this
      have hCE := hBw.cells
      have hCS := hBz.cells
      have hdec : f.lo ≤ (j : Int) ∧ (j : Int) < f.hi := by omega
      have turn : stepF g f j = some f → ∀ W3, Ext [bb7, bb8] wr W3 → Blk W3 bb7 116 (rowsV bestC ((tab (upto g f (j : Int))).set j (some f))) → Blk W3 bb8 117 (rowsV sc ((tab (upto g f (j : Int))).set j (some f))) →
          Ext [bb7, bb8] W2 W3 ∧ Blk W3 bb7 116 (rowsV bestC (tab (upto g f ((j : Int) + 1)))) ∧ Blk W3 bb8 117 (rowsV sc (tab (upto g f ((j : Int) + 1)))) := fun hst W3 e3 h7 h8 => by
        rw [tab_set, ← hst, ← upto_step] at h7 h8
        exact ⟨er.trans e3, h7, h8⟩
      have stay : stepF g f j = g j → ∀ W3, Ext [] wr W3 →
          Ext [bb7, bb8] W2 W3 ∧ Blk W3 bb7 116 (rowsV bestC (tab (upto g f ((j : Int) + 1)))) ∧ Blk W3 bb8 117 (rowsV sc (tab (upto g f ((j : Int) + 1)))) := fun hst W3 e3 => by
        have hsame : tab (upto g f ((j : Int) + 1)) = tab (upto g f (j : Int)) := by rw [upto_step, tab_same (by rw [upto_at, hst])]
        rw [hsame]
        exact ⟨er.trans e3.up, hBw.ext e3 (by simp), hBz.ext e3 (by simp)⟩
      cases hgj : g j with
      | none =>
        rw [hgj] at hatE hatS hl8E
        have hst : stepF g f j = some f := by unfold stepF dayStep; rw [if_pos hdec, hgj]
        refine ztx ?_
        refine Ox.pure rfl rfl zmv ?_
        refine Ox.pure rfl rfl zfa ?_
        refine Ox.pure rfl rfl zfa ?_
        refine Ox.val rfl rfl zrs ?_
        refine Ox.pure rfl rfl (rp_min rfl rfl rfl) ?_
        refine Ox.pure rfl rfl zbc ?_
        refine Ox.fin ?_
        refine zct ?_
        refine zsk ?_
        refine zbl ?_
        (repeat refine Sx.seq ?_)
        refine Sx.walkR rfl (fun _ _ _ _ h => h) [0, 1, 2, 3, 4, 5, 6, 7, 8, 9, 10, 11] [0, 1, 2, 3, 4, 5, 6, 7, 8, 10, 11] (0) (by kernel_rfl) ?_
        intro hq w1 e1; have hz1 := e1.size
        refine Wx.pure hq rfl rfl rfl rfl zmv ?_
        refine Wx.pure hq rfl rfl rfl rfl (rp_indexArr j rfl rfl rfl rfl rfl rfl (by omega)) ?_
        refine Wx.val hq rfl rfl rfl rfl ([]) (rv_load rfl rfl (fun u hu => ((hCS.ext0 zxc).ext0 hu).ld _ rfl hatS)) ?_
        refine Wx.pure hq rfl rfl rfl rfl (rp_not rfl rfl) ?_
        refine Wx.pure hq rfl rfl rfl rfl zmv ?_
        first | (refine Wx.skip hq rfl rfl rfl rfl ?_) | (refine Wx.val hq rfl rfl rfl rfl ([]) zra ?_)
        first | (refine Wx.skip hq rfl rfl rfl rfl ?_) | (refine Wx.pure hq rfl rfl rfl rfl zmv ?_)
        first | (refine Wx.skip hq rfl rfl rfl rfl ?_) | (refine Wx.pure hq rfl rfl rfl rfl (rp_indexArr j rfl rfl rfl rfl rfl rfl (by omega)) ?_)
        first | (refine Wx.skip hq rfl rfl rfl rfl ?_) | (refine Wx.val hq rfl rfl rfl rfl ([]) zra ?_)
        refine Wx.actSkip rfl rfl rfl rfl ?_
        first | (refine Wx.skip hq rfl rfl rfl rfl ?_) | (refine Wx.pure hq rfl rfl rfl rfl zbc ?_)
        refine Wx.pure hq rfl rfl rfl rfl zpk ?_
        refine Wx.fin ?_
        refine zct ?_
        refine ztx ?_
        refine Ox.pure rfl rfl zmv ?_
        refine Ox.pure rfl rfl zmv ?_
        refine Ox.val rfl rfl zra ?_
        refine Ox.pure rfl rfl (rp_indexArr j rfl rfl rfl rfl rfl rfl (by omega)) ?_
        refine Ox.act rfl rfl (acts_store_row bestC_len (some f) rfl rfl rfl rfl rfl (hBw.ext (X := []) zxc (by simp)) hjt (bestC_one _)) ?_
        rintro vs7 ws7 ⟨rfl, qs7, hbs7⟩
        refine Ox.pure rfl rfl (rp_indexArr j rfl rfl rfl rfl rfl rfl (by omega)) ?_
        refine Ox.act rfl rfl (acts_store_row sc_len (some f) rfl rfl rfl rfl rfl ((hBz.ext (X := []) zxc (by simp)).ext qs7 (by simp; omega)) hjt (by simp [Value.oneCell'])) ?_
        rintro vs8 ws8 ⟨rfl, qs8, hbs8⟩
        refine Ox.fin ?_
        refine ztx ?_
        refine Ox.pure rfl rfl zmv ?_
        refine Ox.pure rfl rfl zba ?_
        refine Ox.pure rfl rfl zas ?_
        refine Ox.fin ?_
        obtain ⟨t1, t2, t3⟩ := turn hst _ (((Ext.up zxc).trans (qs7.mono (by simp))).trans (qs8.mono (by simp))) (hbs7.ext qs8 (by simp; omega)) hbs8
        exact ⟨(j : Int) + 1, _, sub_cons rfl (sub_cons rfl (sub_cons rfl (sub_cons rfl sub_nil))), ⟨rfl, by omega, by omega, t1, t2, t3⟩, by omega⟩
      | some h =>
        rw [hgj] at hatE hatS hl8E
        have hge := cmpF_ge f h
        by_cases h3 : before f h
        · have hneg : ¬ 0 ≤ cmpF f h := fun hh => hge.1 hh h3
          have hst : stepF g f j = g j := by unfold stepF dayStep; rw [if_pos hdec, hgj]; simp [h3]
          refine ztx ?_
          refine Ox.pure rfl rfl zmv ?_
          refine Ox.pure rfl rfl zfa ?_
          refine Ox.pure rfl rfl zfa ?_
          refine Ox.val rfl rfl zrs ?_
          refine Ox.pure rfl rfl (rp_min rfl rfl rfl) ?_
          refine Ox.pure rfl rfl zbc ?_
          refine Ox.fin ?_
          refine zct ?_
          refine zsk ?_
          refine zbl ?_
          (repeat refine Sx.seq ?_)
          refine Sx.walkR rfl (fun _ _ _ _ h => h) [0, 1, 2, 3, 4, 5, 6, 7, 8, 9, 10, 11] [0, 1, 2, 3, 4, 5, 6, 7, 8, 10, 11] (0) (by kernel_rfl) ?_
          intro hq w3 e3; have hz3 := e3.size
          refine Wx.pure hq rfl rfl rfl rfl zmv ?_
          refine Wx.pure hq rfl rfl rfl rfl (rp_indexArr j rfl rfl rfl rfl rfl rfl (by omega)) ?_
          refine Wx.val hq rfl rfl rfl rfl ([]) (rv_load rfl rfl (fun u hu => ((hCS.ext0 zxc).ext0 hu).ld _ rfl hatS)) ?_
          refine Wx.pure hq rfl rfl rfl rfl (rp_not rfl rfl) ?_
          refine Wx.pure hq rfl rfl rfl rfl zmv ?_
          first | (refine Wx.skip hq rfl rfl rfl rfl ?_) | (refine Wx.val hq rfl rfl rfl rfl ([]) zra ?_)
          first | (refine Wx.skip hq rfl rfl rfl rfl ?_) | (refine Wx.pure hq rfl rfl rfl rfl zmv ?_)
          first | (refine Wx.skip hq rfl rfl rfl rfl ?_) | (refine Wx.pure hq rfl rfl rfl rfl (rp_indexArr j rfl rfl rfl rfl rfl rfl (by omega)) ?_)
          first | (refine Wx.skip hq rfl rfl rfl rfl ?_) | (refine Wx.val hq rfl rfl rfl rfl ([]) zra ?_)
          first | (refine Wx.actSkip rfl rfl rfl rfl ?_) | (refine Wx.actNew rfl rfl rfl rfl (acts_call rfl rfl rfl (compare_at f h _)) ?_; rintro v4 w4 e4 rfl; have hz4 := e4.size)
          first | (refine Wx.skip hq rfl rfl rfl rfl ?_) | (refine Wx.pure hq rfl rfl rfl rfl zbc ?_)
          refine Wx.pure hq rfl rfl rfl rfl zpk ?_
          refine Wx.fin ?_
          refine zcf ?_
          refine zsk ?_
          refine ztx ?_
          refine Ox.pure rfl rfl zmv ?_
          refine Ox.pure rfl rfl zba ?_
          refine Ox.pure rfl rfl zas ?_
          refine Ox.fin ?_
          exact ⟨(j : Int) + 1, _, sub_cons rfl (sub_cons rfl (sub_cons rfl (sub_cons rfl sub_nil))), ⟨rfl, by omega, by omega, (stay hst _ zxc).1, (stay hst _ zxc).2.1, (stay hst _ zxc).2.2⟩, by omega⟩
        · have hpos : 0 ≤ cmpF f h := hge.2 h3
          have hst : stepF g f j = some f := by unfold stepF dayStep; rw [if_pos hdec, hgj]; simp [h3]
          refine ztx ?_
          refine Ox.pure rfl rfl zmv ?_
          refine Ox.pure rfl rfl zfa ?_
          refine Ox.pure rfl rfl zfa ?_
          refine Ox.val rfl rfl zrs ?_
          refine Ox.pure rfl rfl (rp_min rfl rfl rfl) ?_
          refine Ox.pure rfl rfl zbc ?_
          refine Ox.fin ?_
          refine zct ?_
          refine zsk ?_
          refine zbl ?_
          (repeat refine Sx.seq ?_)
          refine Sx.walkR rfl (fun _ _ _ _ h => h) [0, 1, 2, 3, 4, 5, 6, 7, 8, 9, 10, 11] [0, 1, 2, 3, 4, 5, 6, 7, 8, 10, 11] (0) (by kernel_rfl) ?_
          intro hq w5 e5; have hz5 := e5.size
          refine Wx.pure hq rfl rfl rfl rfl zmv ?_
          refine Wx.pure hq rfl rfl rfl rfl (rp_indexArr j rfl rfl rfl rfl rfl rfl (by omega)) ?_
          refine Wx.val hq rfl rfl rfl rfl ([]) (rv_load rfl rfl (fun u hu => ((hCS.ext0 zxc).ext0 hu).ld _ rfl hatS)) ?_
          refine Wx.pure hq rfl rfl rfl rfl (rp_not rfl rfl) ?_
          refine Wx.pure hq rfl rfl rfl rfl zmv ?_
          first | (refine Wx.skip hq rfl rfl rfl rfl ?_) | (refine Wx.val hq rfl rfl rfl rfl ([]) zra ?_)
          first | (refine Wx.skip hq rfl rfl rfl rfl ?_) | (refine Wx.pure hq rfl rfl rfl rfl zmv ?_)
          first | (refine Wx.skip hq rfl rfl rfl rfl ?_) | (refine Wx.pure hq rfl rfl rfl rfl (rp_indexArr j rfl rfl rfl rfl rfl rfl (by omega)) ?_)
          first | (refine Wx.skip hq rfl rfl rfl rfl ?_) | (refine Wx.val hq rfl rfl rfl rfl ([]) zra ?_)
          first | (refine Wx.actSkip rfl rfl rfl rfl ?_) | (refine Wx.actNew rfl rfl rfl rfl (acts_call rfl rfl rfl (compare_at f h _)) ?_; rintro v6 w6 e6 rfl; have hz6 := e6.size)
          first | (refine Wx.skip hq rfl rfl rfl rfl ?_) | (refine Wx.pure hq rfl rfl rfl rfl zbc ?_)
          refine Wx.pure hq rfl rfl rfl rfl zpk ?_
          refine Wx.fin ?_
          refine zct ?_
          refine ztx ?_
          refine Ox.pure rfl rfl zmv ?_
          refine Ox.pure rfl rfl zmv ?_
          refine Ox.val rfl rfl zra ?_
          refine Ox.pure rfl rfl (rp_indexArr j rfl rfl rfl rfl rfl rfl (by omega)) ?_
          refine Ox.act rfl rfl (acts_store_row bestC_len (some f) rfl rfl rfl rfl rfl (hBw.ext (X := []) zxc (by simp)) hjt (bestC_one _)) ?_
          rintro vs7 ws7 ⟨rfl, qs7, hbs7⟩
          refine Ox.pure rfl rfl (rp_indexArr j rfl rfl rfl rfl rfl rfl (by omega)) ?_
          refine Ox.act rfl rfl (acts_store_row sc_len (some f) rfl rfl rfl rfl rfl ((hBz.ext (X := []) zxc (by simp)).ext qs7 (by simp; omega)) hjt (by simp [Value.oneCell'])) ?_
          rintro vs8 ws8 ⟨rfl, qs8, hbs8⟩
          refine Ox.fin ?_
          refine ztx ?_
          refine Ox.pure rfl rfl zmv ?_
          refine Ox.pure rfl rfl zba ?_
          refine Ox.pure rfl rfl zas ?_
          refine Ox.fin ?_
          obtain ⟨t1, t2, t3⟩ := turn hst _ (((Ext.up zxc).trans (qs7.mono (by simp))).trans (qs8.mono (by simp))) (hbs7.ext qs8 (by simp; omega)) hbs8
          exact ⟨(j : Int) + 1, _, sub_cons rfl (sub_cons rfl (sub_cons rfl (sub_cons rfl sub_nil))), ⟨rfl, by omega, by omega, t1, t2, t3⟩, by omega⟩
    · refine ztx ?_
      refine Ox.pure rfl rfl zmv ?_
      refine Ox.pure rfl rfl zfa ?_
      refine Ox.pure rfl rfl zfa ?_
      refine Ox.val rfl rfl zrs ?_
      refine Ox.pure rfl rfl (rp_min rfl rfl rfl) ?_
      refine Ox.pure rfl rfl zbc ?_
      refine Ox.fin ?_
      refine zcf ?_
      refine zex ?_
      have hsn : foldD (fs ++ [f]) = stepF g f := by rw [foldD_snoc, hg]
      have hE6 := upto_end g f hlt
      rw [hE6] at hBw hBz
      exact ⟨rfl, [bb7, bb8], ⟨rfl, (hEW2.trans er).trans (Ext.up zxc), fs ++ [f], by simp, by rw [hsn]; exact hBw.ext (X := []) zxc (by simp), by rw [hsn]; exact hBz.ext (X := []) zxc (by simp)⟩, ⟨[bb7, bb8], er.trans (Ext.up zxc), fun y hy => .inl hy⟩, fun k hk => .inl hk⟩
  · rintro D pre X W' hD hR hDX rfl ⟨rfl, hE, fs, hfs, hB0, hB1⟩
    obtain rfl := map_inj' (fun _ _ => ya_inj) hfs
    have hval : valuesL l k known = tab (fun j => rowO (foldD (ofL l k known) j)) := rfl
    rw [hval]
    generalize foldD (ofL l k known) = g at *
    have hBr' := hBr.ext hE (by simp; omega)
    have hE' : Ext [] w W' := (Ext.up (X := []) e0).join hE (fun y hy => by simp only [List.mem_cons, List.not_mem_nil, or_false] at hy; rcases hy with rfl | rfl <;> exact .inr (by omega))
    have hzE := hE'.size
    have hCE := hB0.cells
    have hCS := hB1.cells
    refine SxG.done (Q := endM _ _ _ D) ?_ endM_done
    have hstart : tab (rowTo g 0) = tab (fun _ => (0 : Int)) := tab_ext fun j _ => by unfold rowTo; rw [if_neg (by omega)]
    refine ztx ?_
    refine Ox.pure rfl rfl zmv ?_
    refine Ox.fin ?_
    refine Sx.upto (fun E' w' => (∀ t v, get [(6, .pointer (some ⟨bb6, 0, none⟩))] t = some v → get E' t = some v) ∧ Ext [bb6] W' w' ∧ Blk w' bb6 106 (rowsV ic (tab (fun j => rowO (g j))))) ?_ ?_
    · refine zbl ?_
      refine Sx.loop (ι := Nat) (fun i E wr => E = [(6, .pointer (some ⟨bb6, 0, none⟩)), (7, .pointer (some ⟨bb7, 0, none⟩)), (8, .pointer (some ⟨bb8, 0, none⟩)), (46, .int .i64 (i : Int))] ∧ i ≤ 1024 ∧ Ext [bb6] W' wr ∧ Blk wr bb6 106 (rowsV ic (tab (rowTo g i)))) (fun i => 1024 - i) 0
        (sub_cons rfl (sub_cons rfl (sub_cons rfl (sub_cons rfl sub_nil)))) ⟨rfl, Nat.zero_le _, Ext.refl _ _, by rw [hstart]; exact hBr'⟩ ?_
      rintro i E wr ⟨rfl, hi, er, hBw⟩
      by_cases hlt : i < 1024
      · have hit : i < (tab g).length := by rw [tab_length]; exact hlt
        have hir : i < (tab (rowTo g i)).length := by rw [tab_length]; exact hlt
        have hir2 : i < ((tab (rowTo g i)).set i (-1)).length := by rw [List.length_set, tab_length]; exact hlt
        have hCE' : Cells wr ⟨bb7, 0, none⟩ (rowsV bestC (tab g)) := hCE.ext er (by simp; omega)
        have hCS' : Cells wr ⟨bb8, 0, none⟩ (rowsV sc (tab g)) := hCS.ext er (by simp; omega)
        have hatS : (rowsV sc (tab g))[i * 1]? = some (.bool (g i).isSome) := by
          have := congrArg (fun c => c[0]?) (rowsV_at sc_len hit)
          rw [tab_get] at this
          simpa using this
        cases hgi : g i with
        | none =>
          rw [hgi] at hatS
          have hrt := rowTo_step g i
          rw [hgi] at hrt
          refine ztx ?_
          refine Ox.pure rfl rfl zbc ?_
          refine Ox.fin ?_
          refine zct ?_
          refine zsk ?_
          refine zbl ?_
          refine ztx ?_
          refine Ox.pure rfl rfl zmv ?_
          refine Ox.pure rfl rfl zas ?_
          refine Ox.fin ?_
          refine ztx ?_
          refine Ox.pure rfl rfl zmv ?_
          refine Ox.pure rfl rfl (rp_indexArr i rfl rfl rfl rfl rfl rfl (by omega)) ?_
          refine Ox.act rfl rfl (acts_store_row ic_len (-1) rfl rfl rfl rfl rfl (hBw.ext (X := []) zxc (by simp)) hir (by simp [Value.oneCell'])) ?_
          rintro vs13 ws13 ⟨rfl, qs13, hbs13⟩
          refine Ox.fin ?_
          refine ztx ?_
          refine Ox.pure rfl rfl zmv ?_
          refine Ox.pure rfl rfl (rp_indexArr i rfl rfl rfl rfl rfl rfl (by omega)) ?_
          refine Ox.val rfl rfl (rv_load rfl rfl (fun u hu => (((hCS'.ext qs13 (by simp; omega)).ext0 zxc).ext0 hu).ld _ rfl hatS)) ?_
          refine Ox.fin ?_
          refine zcf ?_
          refine zsk ?_
          refine ztx ?_
          refine Ox.pure rfl rfl zba ?_
          refine Ox.pure rfl rfl zmv ?_
          refine Ox.fin ?_
          refine ⟨i + 1, _, sub_cons rfl (sub_cons rfl (sub_cons rfl (sub_cons rfl sub_nil))), ⟨rfl, hlt, (er.trans (Ext.up zxc)).trans (qs13.trans (Ext.up zxc)), ?_⟩, by omega⟩
          rw [← hrt]
          exact hbs13.ext (X := []) zxc (by simp)
        | some f =>
          rw [hgi] at hatS
          have hrt := rowTo_step g i
          rw [hgi] at hrt
          have hv3 : (bestC ((tab g)[i]'hit))[3]? = some (.int .i64 f.val) := by rw [tab_get, hgi]; rfl
          refine ztx ?_
          refine Ox.pure rfl rfl zbc ?_
          refine Ox.fin ?_
          refine zct ?_
          refine zsk ?_
          refine zbl ?_
          refine ztx ?_
          refine Ox.pure rfl rfl zmv ?_
          refine Ox.pure rfl rfl zas ?_
          refine Ox.fin ?_
          refine ztx ?_
          refine Ox.pure rfl rfl zmv ?_
          refine Ox.pure rfl rfl (rp_indexArr i rfl rfl rfl rfl rfl rfl (by omega)) ?_
          refine Ox.act rfl rfl (acts_store_row ic_len (-1) rfl rfl rfl rfl rfl (hBw.ext (X := []) zxc (by simp)) hir (by simp [Value.oneCell'])) ?_
          rintro vs13 ws13 ⟨rfl, qs13, hbs13⟩
          refine Ox.fin ?_
          refine ztx ?_
          refine Ox.pure rfl rfl zmv ?_
          refine Ox.pure rfl rfl (rp_indexArr i rfl rfl rfl rfl rfl rfl (by omega)) ?_
          refine Ox.val rfl rfl (rv_load rfl rfl (fun u hu => (((hCS'.ext qs13 (by simp; omega)).ext0 zxc).ext0 hu).ld _ rfl hatS)) ?_
          refine Ox.fin ?_
          refine zct ?_
          refine ztx ?_
          refine Ox.pure rfl rfl zmv ?_
          refine Ox.pure rfl rfl zmv ?_
          refine Ox.pure rfl rfl (rp_indexArr i rfl rfl rfl rfl rfl rfl (by omega)) ?_
          refine Ox.pure rfl rfl zfa ?_
          refine Ox.val rfl rfl (rv_load rfl rfl (fun u hu => ld_field bestC_len (((hCE'.ext qs13 (by simp; omega)).ext0 zxc).ext0 hu) hit 3 rfl (by decide) hv3)) ?_
          refine Ox.pure rfl rfl (rp_max rfl rfl rfl) ?_
          refine Ox.pure rfl rfl (rp_indexArr i rfl rfl rfl rfl rfl rfl (by omega)) ?_
          refine Ox.act rfl rfl (acts_store_row ic_len (max f.val (-1)) rfl rfl rfl rfl rfl (hbs13.ext (X := []) zxc (by simp)) hir2 (by simp [Value.oneCell'])) ?_
          rintro vs15 ws15 ⟨rfl, qs15, hbs15⟩
          refine Ox.fin ?_
          refine ztx ?_
          refine Ox.pure rfl rfl zba ?_
          refine Ox.pure rfl rfl zmv ?_
          refine Ox.fin ?_
          refine ⟨i + 1, _, sub_cons rfl (sub_cons rfl (sub_cons rfl (sub_cons rfl sub_nil))), ⟨rfl, hlt, ((er.trans (Ext.up zxc)).trans (qs13.trans (Ext.up zxc))).trans (qs15.trans (Ext.up zxc)), ?_⟩, by omega⟩
          rw [← hrt]
          have := hbs15.ext (X := []) (w' := ws15) (Ext.refl _ _) (by simp)
          rw [List.set_set] at this
          exact this
      · obtain rfl : i = 1024 := by omega
        refine ztx ?_
        refine Ox.pure rfl rfl zbc ?_
        refine Ox.fin ?_
        refine zcf ?_
        refine zex ?_
        exact ⟨sub_cons rfl sub_nil, er.trans (Ext.up zxc), by rw [← rowTo_end]; exact hBw.ext (X := []) zxc (by simp)⟩
    · rintro E' w' ⟨hsub, he, hB⟩
      refine thenE_normal (Sx.weaken ?_ hsub)
      have hlen : (rowsV ic (tab (fun j => rowO (g j)))).length = 1024 := by rw [rowsV_length ic_len, tab_length]
      have hCr := hB.cells
      have hRw := hR.ext he (by simp; omega)
      refine ztx ?_
      refine Ox.val rfl rfl zra ?_
      refine Ox.act rfl rfl (acts_store_all (m := 1024) rfl rfl rfl (hB.ext (X := []) zxc (by simp)) rfl (by show (rowsV ic (tab (fun j => rowO (g j)))).toArray.size = 1024; simpa using hlen) hlen (rowsV_all (by simp [Value.oneCell']) _)) ?_
      rintro vs17 ws17 ⟨rfl, qs17, hbs17⟩
      refine Ox.fin ?_
      refine zrt ?_
      have hE17 : Ext [bb6] W' ws17 := he.trans ((Ext.up zxc).trans qs17)
      have hCf : Cells ws17 ⟨bb6, 0, none⟩ (rowsV ic (tab (fun j => rowO (g j)))) := hbs17.cells
      exact endM_ret (.inl rfl) [_] (hR.ext hE17 (by simp; omega)) (fun w' he => ⟨⟨⟨bb6, 0, none⟩, rfl, (hCf.ext he (by simp; omega)).ldL rfl rfl hlen⟩, trivial⟩)
        (fun w' he => ⟨Ext.renew (b := D) (Ext.join (X := []) hE' hE17 (fun y hy => by simp only [List.mem_singleton] at hy; subst hy; exact .inr (by omega))) he (by omega), rfl⟩)

end Go.Proofs.Ytfgckcochilpkaa

/- The facts' walks: points. -/
set_option linter.unusedVariables false
set_option maxRecDepth 100000
set_option maxHeartbeats 4000000
set_option linter.unusedSimpArgs false
namespace Go.Proofs.Ytfgckcochilpkaa
open Go Go.Eng

/-- The points of n days from d on. -/
def ptsN (g : Int → Int × Bool) : Int → Nat → List Pt
  | _, 0 => []
  | d, n + 1 => (if (g d).2 then [(d, (g d).1)] else []) ++ ptsN g (d + 1) n
theorem ptsN_step (g : Int → Int × Bool) {d e : Int} (h : d < e) : ptsN g d (e - d).toNat = (if (g d).2 then [(d, (g d).1)] else []) ++ ptsN g (d + 1) (e - (d + 1)).toNat := by
  rw [show (e - d).toNat = (e - (d + 1)).toNat + 1 by omega, ptsN]
theorem ptsN_end (g : Int → Int × Bool) {d e : Int} (h : ¬ d < e) : ptsN g d (e - d).toNat = [] := by
  rw [show (e - d).toNat = 0 by omega, ptsN]
def pointsL (l : List Fct) (k : Ky) (lo hi known : Int) : List Pt := ptsN (fun d => atL l k d known) (max 0 lo) (min hi 1024 - max 0 lo).toNat
theorem ptsN_le (g : Int → Int × Bool) : ∀ (n : Nat) (d : Int), (ptsN g d n).length ≤ n
  | 0, d => by simp [ptsN]
  | n + 1, d => by
    rw [ptsN, List.length_append]
    have := ptsN_le g n (d + 1)
    split <;> simp <;> omega
theorem pointsL_le (l : List Fct) (k : Ky) (lo hi known : Int) : (pointsL l k lo hi known).length ≤ 1024 := by
  have := ptsN_le (fun d => atL l k d known) (min hi 1024 - max 0 lo).toNat (max 0 lo)
  unfold pointsL; omega

def OwnP (base : Nat) (w : World) (v : Value) (l : List Pt) : Prop := w.ownsRow base 104 2 v l.length (rowsV pc l)
theorem OwnP.sl {base : Nat} {w : World} {v : Value} {l : List Pt} (h : OwnP base w v l) (hl : l.length ≤ 1000000) : ∃ p cap A, v = .slice p l.length cap ∧ SlV pc w p A l cap ∧ (0 < l.length → base ≤ A.block ∧ A.block < w.heap.size) := SlV.of_own h (by omega)
theorem OwnP.snoc {base : Nat} {w w' : World} {v v' : Value} {l : List Pt} {q : Pt} (h : Grew base 104 2 w v (l.length + 1) (rowsV pc l ++ pc q) v' w') : OwnP base w' v' (l ++ [q]) := by
  have := h.own
  unfold OwnP
  rw [List.length_append, rowsV_append, rowsV_one]
  exact this

theorem points_at (l : List Fct) (k : Ky) (lo hi known : Int) (p : Option Addr) (A : Addr) (c : Nat) (w : World) (hs : SlV fc w p A l c) :
    Calls Try.prog 57 #[.slice p l.length c, .agg (kc k).toArray, .int .i64 lo, .int .i64 hi, .int .i64 known] w (Ret fun r w' => Ext [] w w' ∧ OwnP w.heap.size w' r (pointsL l k lo hi known)) := by
  refine calls_of_Sx (args := [.slice p l.length c, .agg (kc k).toArray, .int .i64 lo, .int .i64 hi, .int .i64 known]) Try.func57 rfl rfl ?_
  have hvl : (rowsV ic (valuesL l k known)).length = 1024 := by rw [rowsV_length ic_len, valuesL_length]
  refine ztx ?_
  refine Ox.act rfl rfl (acts_box rfl rfl) ?_
  rintro v1 w1 ⟨e1, b1, rfl, hb1, hB1⟩
  first | (have hC1 : Cells w1 ⟨b1, 0, none⟩ [_, _, _] := hB1.cells) | have hC1 := Blk.cellsL hB1
  have hl1 := hB1.lt
  have hz1 := e1.size
  refine Ox.pure rfl rfl zas ?_
  refine Ox.fin ?_
  refine ztx ?_
  refine Ox.pure rfl rfl zmv ?_
  refine Ox.val rfl rfl zra ?_
  refine Ox.pure rfl rfl zmv ?_
  refine Ox.act rfl rfl (acts_call rfl rfl rfl (values_at l k known p A c _ (hs.ext0 zxc))) ?_
  rintro v2 w2 ⟨e2, rfl⟩
  have hz2 := e2.size
  refine Ox.act rfl rfl (acts_alloc_z rfl z70) ?_
  rintro val wal ⟨eal, bal, rfl, hbal, hBal⟩
  have hzal := eal.size
  have hlal := hBal.lt
  refine Ox.act rfl rfl (acts_store_all (m := 1024) rfl rfl rfl hBal rfl (by show (rowsV ic (valuesL l k known)).toArray.size = 1024; simpa using hvl) (by rw [rowsV_length ic_len, tab_length]) (rowsV_all (by simp [Value.oneCell']) _)) ?_
  rintro vst wst ⟨rfl, qst, hBst⟩
  have est := Ext.renew eal qst hbal; have hzst := est.size
  refine Ox.fin ?_
  refine ztx ?_
  refine Ox.pure rfl rfl zmv ?_
  refine Ox.pure rfl rfl (rp_max rfl rfl rfl) ?_
  refine Ox.pure rfl rfl zas ?_
  refine Ox.fin ?_
  refine zbl ?_
  have hCr : Cells wst ⟨bal, 0, none⟩ (rowsV ic (valuesL l k known)) := hBst.cells
  refine Sx.loop (ι := Int × Value × List Pt) (fun i E wr => E = [(3, .int .i64 hi), (10, i.2.1), (11, .pointer (some ⟨bal, 0, none⟩)), (12, .int .i64 i.1)] ∧ max 0 lo ≤ i.1 ∧ i.1 ≤ max (max 0 lo) (min hi 1024) ∧ Ext [] wst wr ∧ OwnP wst.heap.size wr i.2.1 i.2.2 ∧
      i.2.2 ++ ptsN (fun d => atL l k d known) i.1 (min hi 1024 - i.1).toNat = pointsL l k lo hi known) (fun i => (1024 - i.1).toNat) (max 0 lo, nilS, [])
    (sub_cons rfl (sub_cons rfl (sub_cons rfl (sub_cons rfl sub_nil)))) ⟨rfl, Int.le_refl _, by dsimp only; omega, zxc, World.ownsRow_nil _ _ _ _, rfl⟩ ?_
  rintro ⟨d, v, acc⟩ E wr ⟨rfl, hd, hdm, er, hown, hacc⟩
  dsimp only at hd hdm hown hacc ⊢
  have hz := er.size
  by_cases hlt : d < min hi 1024
  · obtain ⟨j, rfl⟩ : ∃ j : Nat, d = (j : Int) := ⟨d.toNat, by omega⟩
    have hjv : j < (valuesL l k known).length := by rw [valuesL_length]; omega
    have hlen := congrArg List.length hacc
    have hple := pointsL_le l k lo hi known
    rw [List.length_append] at hlen
    rw [ptsN_step _ hlt] at hacc
    have hvj : (valuesL l k known)[j] = rowO (bestL l k (j : Int) known) := by simp [valuesL, tab]
    have hcell : (rowsV ic (valuesL l k known))[j * 1]? = some (.int .i64 (rowO (bestL l k (j : Int) known))) := by
      have := congrArg (fun c => c[0]?) (rowsV_at ic_len hjv)
      rw [hvj] at this
      simpa using this
    obtain ⟨hr1, hr2, hr3⟩ := rowO_val (bestL l k (j : Int) known)
    have hat : atL l k (j : Int) known = valO (bestL l k (j : Int) known) := rfl
    rw [hat] at hacc
    generalize bestL l k (j : Int) known = b at *
    by_cases hpos : 0 ≤ rowO b
    · rw [if_pos (hr1.1 hpos), hr2 hpos] at hacc
      refine ztx ?_
      refine Ox.pure rfl rfl zmv ?_
      refine Ox.pure rfl rfl zmv ?_
      refine Ox.pure rfl rfl (rp_min rfl rfl rfl) ?_
      refine Ox.pure rfl rfl zbc ?_
      refine Ox.fin ?_
      refine zct ?_
      refine zsk ?_
      refine zbl ?_
      refine ztx ?_
      refine Ox.pure rfl rfl zmv ?_
      refine Ox.pure rfl rfl (rp_indexArr j rfl rfl rfl rfl rfl rfl (by omega)) ?_
      refine Ox.val rfl rfl (rv_load rfl rfl (fun u hu => ((hCr.ext0 zxc).ext0 hu).ld _ rfl hcell)) ?_
      refine Ox.pure rfl rfl zbc ?_
      refine Ox.fin ?_
      refine zct ?_
      refine ztx ?_
      refine Ox.pure rfl rfl zmv ?_
      refine Ox.pure rfl rfl zmv ?_
      refine Ox.pure rfl rfl zmv ?_
      refine Ox.pure rfl rfl (rp_indexArr j rfl rfl rfl rfl rfl rfl (by omega)) ?_
      refine Ox.val rfl rfl (rv_load rfl rfl (fun u hu => ((hCr.ext0 zxc).ext0 hu).ld _ rfl hcell)) ?_
      refine Ox.pure rfl rfl (rp_buildS (ps := [(0, .tmp 30), (1, .tmp 33)]) rfl rfl rfl rfl rfl) ?_
      refine Ox.act rfl rfl (acts_buildSlice (ps := [(0, .tmp 34)]) rfl rfl rfl rfl rfl rfl rfl rfl) ?_
      rintro vbs wbs ⟨ebs, bbs, rfl, hbbs, hBbs⟩
      first | (have hCbs : Cells wbs ⟨bbs, 0, none⟩ [_, _] := hBbs.cells) | have hCbs := Blk.cellsL hBbs
      have hlbs := hBbs.lt
      have hzbs := ebs.size
      refine Ox.act rfl rfl (acts_append (e := 104) (size := 2) (bytes := 16) rfl rfl rfl rfl (own_keep0 hown zxc) (source_slice rfl rfl (fun _ => rfl) hCbs (by simp [Value.oneCell'])) (by first | omega | (dsimp only; omega)) (by first | omega | (dsimp only; omega)) (by omega)) ?_
      rintro vap wap hgap
      refine Ox.pure rfl rfl zas ?_
      refine Ox.fin ?_
      refine ztx ?_
      refine Ox.pure rfl rfl zmv ?_
      refine Ox.pure rfl rfl zba ?_
      refine Ox.pure rfl rfl zas ?_
      refine Ox.fin ?_
      refine ⟨((j : Int) + 1, vap, acc ++ [((j : Int), rowO b)]), _, sub_cons rfl (sub_cons rfl (sub_cons rfl (sub_cons rfl sub_nil))), ⟨rfl, by dsimp only; omega, by dsimp only; omega, hgap.ext0 zxc (fun g hg => (own_lt hown g (by simp [hg])).1), OwnP.snoc hgap, by rw [← hacc]; simp⟩, by dsimp only; omega⟩
    · rw [if_neg (fun h => hpos (hr1.2 h)), List.nil_append] at hacc
      refine ztx ?_
      refine Ox.pure rfl rfl zmv ?_
      refine Ox.pure rfl rfl zmv ?_
      refine Ox.pure rfl rfl (rp_min rfl rfl rfl) ?_
      refine Ox.pure rfl rfl zbc ?_
      refine Ox.fin ?_
      refine zct ?_
      refine zsk ?_
      refine zbl ?_
      refine ztx ?_
      refine Ox.pure rfl rfl zmv ?_
      refine Ox.pure rfl rfl (rp_indexArr j rfl rfl rfl rfl rfl rfl (by omega)) ?_
      refine Ox.val rfl rfl (rv_load rfl rfl (fun u hu => ((hCr.ext0 zxc).ext0 hu).ld _ rfl hcell)) ?_
      refine Ox.pure rfl rfl zbc ?_
      refine Ox.fin ?_
      refine zcf ?_
      refine zsk ?_
      refine ztx ?_
      refine Ox.pure rfl rfl zmv ?_
      refine Ox.pure rfl rfl zba ?_
      refine Ox.pure rfl rfl zas ?_
      refine Ox.fin ?_
      exact ⟨((j : Int) + 1, v, acc), _, sub_cons rfl (sub_cons rfl (sub_cons rfl (sub_cons rfl sub_nil))), ⟨rfl, by dsimp only; omega, by dsimp only; omega, zxc, own_keep0 hown zxc, hacc⟩, by dsimp only; omega⟩
  · rw [ptsN_end _ hlt, List.append_nil] at hacc
    refine ztx ?_
    refine Ox.pure rfl rfl zmv ?_
    refine Ox.pure rfl rfl zmv ?_
    refine Ox.pure rfl rfl (rp_min rfl rfl rfl) ?_
    refine Ox.pure rfl rfl zbc ?_
    refine Ox.fin ?_
    refine zcf ?_
    refine zex ?_
    refine ztx ?_
    refine Ox.pure rfl rfl zmv ?_
    refine Ox.pure rfl rfl zas ?_
    refine Ox.fin ?_
    refine zrt ?_
    exact endE_ret [_] ⟨rfl, trivial⟩ ⟨zxc, by rw [← hacc]; exact own_base (own_keep0 hown zxc) (by omega)⟩

end Go.Proofs.Ytfgckcochilpkaa

/- The facts' walks: the facts up to a time. -/
set_option linter.unusedVariables false
set_option maxRecDepth 100000
set_option maxHeartbeats 4000000
set_option linter.unusedSimpArgs false
namespace Go.Proofs.Ytfgckcochilpkaa
open Go Go.Eng

theorem filter_take_step {α : Type} {q : α → Bool} {l : List α} {j : Nat} (hj : j < l.length) : (l.take (j + 1)).filter q = (l.take j).filter q ++ (if q l[j] then [l[j]] else []) := by
  rw [← List.take_append_getElem hj, List.filter_append]
  congr 1
  by_cases h : q l[j] = true
  · rw [if_pos h, List.filter_cons_of_pos h]; rfl
  · rw [if_neg h, List.filter_cons_of_neg h]; rfl
theorem set_take {α : Type} {r : List α} {i : Nat} (hi : i < r.length) (a : α) : (r.set i a).take (i + 1) = r.take i ++ [a] := by
  have h2 : i < (r.set i a).length := by rw [List.length_set]; exact hi
  rw [← List.take_append_getElem h2, List.take_set_of_le (Nat.le_refl i), List.getElem_set_self]

/-- The facts up to a time. -/
def uptoL (l : List Fct) (known : Int) : List Fct := l.filter fun f => decide (f.known ≤ known)

end Go.Proofs.Ytfgckcochilpkaa

/- The facts' walks: what was read. -/
set_option linter.unusedVariables false
set_option maxRecDepth 100000
set_option maxHeartbeats 4000000
set_option linter.unusedSimpArgs false
namespace Go.Proofs.Ytfgckcochilpkaa
open Go Go.Eng

structure Rd where
  key : Ky
  lo : Int
  hi : Int
abbrev rc (r : Rd) : List Value := [.int .i64 r.key.k, .int .i64 r.key.s, .int .i64 r.key.o, .int .i64 r.lo, .int .i64 r.hi]
theorem rc_len (r : Rd) : (rc r).length = 5 := rfl
theorem rc_one (r : Rd) : ∀ u ∈ rc r, u.oneCell' = true := by simp [rc, Value.oneCell']
def alike1 (l : List Fct) (r : Rd) (bef aft : Int) : Prop := pointsL l r.key r.lo r.hi bef = pointsL l r.key r.lo r.hi aft
instance (l : List Fct) (r : Rd) (bef aft : Int) : Decidable (alike1 l r bef aft) := inferInstanceAs (Decidable (_ = _))
def alikeL (l : List Fct) (reads : List Rd) (bef aft : Int) : Bool := reads.all fun r => decide (alike1 l r bef aft)
theorem all_take_step {α : Type} {q : α → Bool} {l : List α} {i : Nat} (hi : i < l.length) (h : (l.take i).all q = true) (h2 : q l[i] = true) : (l.take (i + 1)).all q = true := by
  rw [← List.take_append_getElem hi, List.all_append, h]; simp [h2]
theorem all_no {α : Type} {q : α → Bool} {l : List α} {i : Nat} (hi : i < l.length) (h2 : q l[i] = false) : l.all q = false := by
  rw [Bool.eq_false_iff]; intro h
  have := List.all_eq_true.1 h _ (List.getElem_mem hi)
  rw [h2] at this; cases this

end Go.Proofs.Ytfgckcochilpkaa
