/- The facts' walks: facts that are added; lists held against each other. -/
import Derived.Test.YtfnekbnlokigcaaRows
import Derived.Test.YtfnekbnlokigcaaFactB
set_option linter.unusedVariables false
set_option maxRecDepth 100000
set_option linter.unusedSimpArgs false
namespace Go.Proofs.Ytfnekbnlokigcaa
open Go Go.Eng

/-- Facts in memory of the call's own. -/
def OwnF (base : Nat) (w : World) (v : Value) (l : List Fct) : Prop := w.ownsRow base 61 8 v l.length (rowsV fc l)
theorem OwnF.ext {base : Nat} {w w' : World} {v : Value} {l : List Fct} (h : OwnF base w v l) (he : Ext [] w w') : OwnF base w' v l := own_keep0 h he
theorem OwnF.sl {base : Nat} {w : World} {v : Value} {l : List Fct} (h : OwnF base w v l) (hl : l.length ≤ 1000000) : ∃ p cap A, v = .slice p l.length cap ∧ SlV fc w p A l cap ∧ (0 < l.length → base ≤ A.block ∧ A.block < w.heap.size) := SlV.of_own h (by omega)
theorem OwnF.base {base base' : Nat} {w : World} {v : Value} {l : List Fct} (h : OwnF base w v l) (hb : base' ≤ base) : OwnF base' w v l := own_base h hb

theorem clip_at (l : List Fct) (p : Option Addr) (A : Addr) (c : Nat) (w : World) (hs : SlV fc w p A l c) :
    Calls Try.prog 39 #[.slice p l.length c] w (Ret fun r w' => Ext [] w w' ∧ ∃ p', r = .slice p' l.length l.length ∧ SlV fc w' p' A l l.length) := by
  have hle := hs.le
  have hsm := hs.small
  have hfew := hs.few
  refine calls_of_Sx (args := [.slice p l.length c]) Try.func39 rfl rfl ?_
  (repeat refine Sx.seq ?_)
  refine Sx.textR ?_
  refine Ox.pure rfl rfl (rp_assign rfl rfl) ?_
  refine Ox.nil ?_
  (repeat first | refine thenE_normal ?_ | refine blockE_normal ?_ | refine scopeE_normal ?_)
  (repeat refine Sx.seq ?_)
  refine Sx.textR ?_
  refine Ox.pure rfl rfl (rp_move rfl rfl) ?_
  refine Ox.pure rfl rfl (rp_move rfl rfl) ?_
  refine Ox.pure rfl rfl (rp_lenS rfl rfl rfl) ?_
  refine Ox.pure rfl rfl (rp_move rfl rfl) ?_
  refine Ox.pure rfl rfl (rp_lenS rfl rfl rfl) ?_
  refine Ox.pure rfl rfl (rp_slice3 0 l.length l.length rfl rfl rfl rfl rfl rfl rfl (.inl ⟨rfl, rfl⟩) ⟨_, rfl⟩ ⟨_, rfl⟩ (by omega) (by omega) hle) ?_
  refine Ox.pure rfl rfl (rp_assign rfl rfl) ?_
  refine Ox.nil ?_
  (repeat first | refine thenE_normal ?_ | refine blockE_normal ?_ | refine scopeE_normal ?_)
  (repeat refine Sx.seq ?_); refine Sx.ret ?_
  (repeat first | refine thenE_ret ?_ | refine blockE_ret ?_ | refine scopeE_ret ?_)
  refine endE_ret [_] ⟨rfl, trivial⟩ ⟨by (repeat first | exact .refl _ _ | assumption | refine .trans ?_ (by assumption)); first | done | fail, _, rfl, ⟨fun h0 => ?_, hs.row.ext0 (by (repeat first | exact .refl _ _ | assumption | refine .trans ?_ (by assumption)); first | done | fail), by omega, by omega, hfew⟩⟩
  rw [if_neg (by omega), hs.ptr h0]
  simp [addr_add0]

theorem lastBad_get {l : List Fct} {f : Fct} (h : 0 < l.length) : lastBad l f = !decide (before (l[l.length - 1]'(by omega)) f) := by
  unfold lastBad
  rw [List.getLast?_eq_getElem?, List.getElem?_eq_getElem (by omega)]
theorem lastBad_nil (f : Fct) : lastBad [] f = false := rfl

theorem add_at (l : List Fct) (f : Fct) (p : Option Addr) (A : Addr) (c : Nat) (w : World) (hs : SlV fc w p A l c) (hl : l.length ≤ 1000000) :
    Calls Try.prog 25 #[.slice p l.length c, .agg (fc f).toArray] w (Ret fun r w' => Ext [] w w' ∧ ∃ v, r = .tuple #[v, .int .i64 (addL l f).2] ∧ OwnF w.heap.size w' v (addL l f).1) := by
  have hp := hs.ptr
  have hrow := hs.row
  have hin := checkL_in l
  refine calls_of_Sx (args := [.slice p l.length c, .agg (fc f).toArray]) Try.func25 rfl rfl ?_
  by_cases h0 : checkL l = 0
  · by_cases hv : Fits f
    · (repeat refine Sx.seq ?_)
      refine Sx.textR ?_
      refine Ox.act rfl rfl (acts_box rfl rfl) ?_
      rintro vbx wbx ⟨ebx, bbx, rfl, hbbx, hBbx⟩
      first | (have hCbx : Cells wbx ⟨bbx, 0, none⟩ [_, _, _, _, _, _, _, _] := hBbx.cells) | have hCbx := Blk.cellsL hBbx
      have hlbx := hBbx.lt
      have hzbx := ebx.size
      refine Ox.pure rfl rfl (rp_assign rfl rfl) ?_
      refine Ox.pure rfl rfl (rp_assign rfl rfl) ?_
      refine Ox.nil ?_
      (repeat first | refine thenE_normal ?_ | refine blockE_normal ?_ | refine scopeE_normal ?_)
      (repeat refine Sx.seq ?_)
      refine Sx.textR ?_
      refine Ox.pure rfl rfl (rp_move rfl rfl) ?_
      refine Ox.act rfl rfl (acts_call rfl rfl rfl (check_at l p A c _ (hs.ext0 (by (repeat first | exact .refl _ _ | assumption | refine .trans ?_ (by assumption)); first | done | fail)))) ?_
      rintro v1 w1 ⟨e1, rfl⟩
      have hz1 := e1.size
      refine Ox.pure rfl rfl (rp_assign rfl rfl) ?_
      refine Ox.nil ?_
      (repeat first | refine thenE_normal ?_ | refine blockE_normal ?_ | refine scopeE_normal ?_)
      (repeat refine Sx.seq ?_)
      refine Sx.textR ?_
      refine Ox.pure rfl rfl (rp_move rfl rfl) ?_
      refine Ox.pure rfl rfl (by first | exact rp_bin rfl rfl rfl (binI_t (by omega)) | exact rp_bin rfl rfl rfl (binI_f (by omega)) | exact rp_bin rfl rfl rfl rfl) ?_
      refine Ox.nil ?_
      (repeat first | refine thenE_normal ?_ | refine blockE_normal ?_ | refine scopeE_normal ?_)
      (repeat refine Sx.seq ?_); first | refine Sx.cond_false rfl ?_ | refine Sx.cond rfl (fun h => absurd h (by simp [*])) (fun _ => ?_)
      (repeat refine Sx.seq ?_); refine Sx.skip ?_
      (repeat first | refine thenE_normal ?_ | refine blockE_normal ?_ | refine scopeE_normal ?_)
      (repeat refine Sx.seq ?_)
      refine Sx.textR ?_
      refine Ox.val rfl rfl (rv_load rfl rfl (by (intro u hu; first | exact Cells.lA (by assumption) (by (repeat first | exact .refl _ _ | assumption | refine .trans ?_ (by assumption)); first | done | fail) rfl rfl | exact Cells.lL (by assumption) (by (repeat first | exact .refl _ _ | assumption | refine .trans ?_ (by assumption)); first | done | fail) rfl rfl (by assumption) | exact Cells.lP (by assumption) (by (repeat first | exact .refl _ _ | assumption | refine .trans ?_ (by assumption)); first | done | fail) _ rfl rfl rfl rfl | exact Cells.lP (by assumption) (by (repeat first | exact .refl _ _ | assumption | refine .trans ?_ (by assumption)); first | done | fail) _ rfl rfl (by assumption) (by assumption)))) ?_
      refine Ox.act rfl rfl (acts_call rfl rfl rfl (fits_at f _)) ?_
      rintro v2 w2 ⟨e2, rfl⟩
      have hz2 := e2.size
      rw [decide_eq_true hv]
      refine Ox.pure rfl rfl (rp_not rfl rfl) ?_
      refine Ox.nil ?_
      (repeat first | refine thenE_normal ?_ | refine blockE_normal ?_ | refine scopeE_normal ?_)
      (repeat refine Sx.seq ?_); first | refine Sx.cond_false rfl ?_ | refine Sx.cond rfl (fun h => absurd h (by simp [*])) (fun _ => ?_)
      (repeat refine Sx.seq ?_); refine Sx.skip ?_
      (repeat first | refine thenE_normal ?_ | refine blockE_normal ?_ | refine scopeE_normal ?_)
      refine Sx.seq ?_
      refine Sx.cut (ι := Unit) (fun _ => [(0, .slice p l.length c), (3, .pointer (some ⟨bbx, 0, none⟩)), (27, .bool (lastBad l f))]) (fun _ w' => Ext [] wbx w') ?_ ?_
      · by_cases hlen : 0 < l.length
        · have hi1 : l.length - 1 < l.length := by omega
          have hat := rowsV_at fc_len hi1
          have hl8 := fc_len (l[l.length - 1])
          have hge := cmpF_ge (l[l.length - 1]) f
          rw [lastBad_get hlen]
          by_cases hb : before (l[l.length - 1]) f
          · have hneg : ¬ 0 ≤ cmpF (l[l.length - 1]) f := fun h => hge.1 h hb
            rw [decide_eq_true hb]
            (repeat refine Sx.seq ?_)
            refine Sx.walkR rfl (fun _ _ _ _ h => h) [0, 1, 2, 3, 4, 5, 6, 7, 8, 9, 10, 11, 12, 13] [0, 1, 2, 3, 4, 5, 6, 7, 8, 9, 10, 12, 13] (0) (by kernel_rfl) ?_
            intro hq w3 e3; have hz3 := e3.size
            refine Wx.pure hq rfl rfl rfl rfl (rp_move rfl rfl) ?_
            refine Wx.pure hq rfl rfl rfl rfl (rp_lenS rfl rfl rfl) ?_
            refine Wx.pure hq rfl rfl rfl rfl (by first | exact rp_bin rfl rfl rfl (binI_t (by omega)) | exact rp_bin rfl rfl rfl (binI_f (by omega)) | exact rp_bin rfl rfl rfl rfl) ?_
            refine Wx.pure hq rfl rfl rfl rfl (rp_move rfl rfl) ?_
            first | (refine Wx.skip hq rfl rfl rfl rfl ?_) | (refine Wx.pure hq rfl rfl rfl rfl (rp_move rfl rfl) ?_)
            first | (refine Wx.skip hq rfl rfl rfl rfl ?_) | (refine Wx.pure hq rfl rfl rfl rfl (rp_move rfl rfl) ?_)
            first | (refine Wx.skip hq rfl rfl rfl rfl ?_) | (refine Wx.pure hq rfl rfl rfl rfl (rp_lenS rfl rfl rfl) ?_)
            first | (refine Wx.skip hq rfl rfl rfl rfl ?_) | (refine Wx.pure hq rfl rfl rfl rfl (by first | exact rp_bin rfl rfl rfl (binI_fit_sub (wrap64 (by omega))) | exact rp_bin rfl rfl rfl rfl) ?_)
            first | (refine Wx.skip hq rfl rfl rfl rfl ?_) | (refine Wx.pure hq rfl rfl rfl rfl (rp_indexAddr (l.length - 1) rfl rfl rfl rfl rfl (by assumption) (by omega) (by omega)) ?_)
            first | (refine Wx.skip hq rfl rfl rfl rfl ?_) | (refine Wx.val hq rfl rfl rfl rfl ([]) (rv_load rfl rfl (by (intro u hu; first | exact Cells.lA (by assumption) (by (repeat first | exact .refl _ _ | assumption | refine .trans ?_ (by assumption)); first | done | fail) rfl rfl | exact Cells.lL (by assumption) (by (repeat first | exact .refl _ _ | assumption | refine .trans ?_ (by assumption)); first | done | fail) rfl rfl (by assumption) | exact Cells.lP (by assumption) (by (repeat first | exact .refl _ _ | assumption | refine .trans ?_ (by assumption)); first | done | fail) _ rfl rfl rfl rfl | exact Cells.lP (by assumption) (by (repeat first | exact .refl _ _ | assumption | refine .trans ?_ (by assumption)); first | done | fail) _ rfl rfl (by assumption) (by assumption)))) ?_)
            first | (refine Wx.skip hq rfl rfl rfl rfl ?_) | (refine Wx.val hq rfl rfl rfl rfl ([]) (rv_load rfl rfl (by (intro u hu; first | exact Cells.lA (by assumption) (by (repeat first | exact .refl _ _ | assumption | refine .trans ?_ (by assumption)); first | done | fail) rfl rfl | exact Cells.lL (by assumption) (by (repeat first | exact .refl _ _ | assumption | refine .trans ?_ (by assumption)); first | done | fail) rfl rfl (by assumption) | exact Cells.lP (by assumption) (by (repeat first | exact .refl _ _ | assumption | refine .trans ?_ (by assumption)); first | done | fail) _ rfl rfl rfl rfl | exact Cells.lP (by assumption) (by (repeat first | exact .refl _ _ | assumption | refine .trans ?_ (by assumption)); first | done | fail) _ rfl rfl (by assumption) (by assumption)))) ?_)
            first | (refine Wx.actSkip rfl rfl rfl rfl ?_) | (refine Wx.actNew rfl rfl rfl rfl (acts_call rfl rfl rfl (compare_at (l[l.length - 1]) f _)) ?_; rintro v4 w4 e4 rfl; have hz4 := e4.size)
            first | (refine Wx.skip hq rfl rfl rfl rfl ?_) | (refine Wx.pure hq rfl rfl rfl rfl (by first | exact rp_bin rfl rfl rfl (binI_t (by omega)) | exact rp_bin rfl rfl rfl (binI_f (by omega)) | exact rp_bin rfl rfl rfl rfl) ?_)
            refine Wx.pure hq rfl rfl rfl rfl (by first | exact rp_pick_t rfl rfl rfl | exact rp_pick_f rfl rfl rfl) ?_
            refine Wx.nil ?_
            (repeat first | refine thenE_normal ?_ | refine blockE_normal ?_ | refine scopeE_normal ?_)
            exact ⟨(), sub_cons rfl (sub_cons rfl (sub_cons rfl sub_nil)), by (repeat first | exact .refl _ _ | assumption | refine .trans ?_ (by assumption)); first | done | fail⟩
          · have hpos : 0 ≤ cmpF (l[l.length - 1]) f := hge.2 hb
            rw [decide_eq_false hb]
            (repeat refine Sx.seq ?_)
            refine Sx.walkR rfl (fun _ _ _ _ h => h) [0, 1, 2, 3, 4, 5, 6, 7, 8, 9, 10, 11, 12, 13] [0, 1, 2, 3, 4, 5, 6, 7, 8, 9, 10, 12, 13] (0) (by kernel_rfl) ?_
            intro hq w5 e5; have hz5 := e5.size
            refine Wx.pure hq rfl rfl rfl rfl (rp_move rfl rfl) ?_
            refine Wx.pure hq rfl rfl rfl rfl (rp_lenS rfl rfl rfl) ?_
            refine Wx.pure hq rfl rfl rfl rfl (by first | exact rp_bin rfl rfl rfl (binI_t (by omega)) | exact rp_bin rfl rfl rfl (binI_f (by omega)) | exact rp_bin rfl rfl rfl rfl) ?_
            refine Wx.pure hq rfl rfl rfl rfl (rp_move rfl rfl) ?_
            first | (refine Wx.skip hq rfl rfl rfl rfl ?_) | (refine Wx.pure hq rfl rfl rfl rfl (rp_move rfl rfl) ?_)
            first | (refine Wx.skip hq rfl rfl rfl rfl ?_) | (refine Wx.pure hq rfl rfl rfl rfl (rp_move rfl rfl) ?_)
            first | (refine Wx.skip hq rfl rfl rfl rfl ?_) | (refine Wx.pure hq rfl rfl rfl rfl (rp_lenS rfl rfl rfl) ?_)
            first | (refine Wx.skip hq rfl rfl rfl rfl ?_) | (refine Wx.pure hq rfl rfl rfl rfl (by first | exact rp_bin rfl rfl rfl (binI_fit_sub (wrap64 (by omega))) | exact rp_bin rfl rfl rfl rfl) ?_)
            first | (refine Wx.skip hq rfl rfl rfl rfl ?_) | (refine Wx.pure hq rfl rfl rfl rfl (rp_indexAddr (l.length - 1) rfl rfl rfl rfl rfl (by assumption) (by omega) (by omega)) ?_)
            first | (refine Wx.skip hq rfl rfl rfl rfl ?_) | (refine Wx.val hq rfl rfl rfl rfl ([]) (rv_load rfl rfl (by (intro u hu; first | exact Cells.lA (by assumption) (by (repeat first | exact .refl _ _ | assumption | refine .trans ?_ (by assumption)); first | done | fail) rfl rfl | exact Cells.lL (by assumption) (by (repeat first | exact .refl _ _ | assumption | refine .trans ?_ (by assumption)); first | done | fail) rfl rfl (by assumption) | exact Cells.lP (by assumption) (by (repeat first | exact .refl _ _ | assumption | refine .trans ?_ (by assumption)); first | done | fail) _ rfl rfl rfl rfl | exact Cells.lP (by assumption) (by (repeat first | exact .refl _ _ | assumption | refine .trans ?_ (by assumption)); first | done | fail) _ rfl rfl (by assumption) (by assumption)))) ?_)
            first | (refine Wx.skip hq rfl rfl rfl rfl ?_) | (refine Wx.val hq rfl rfl rfl rfl ([]) (rv_load rfl rfl (by (intro u hu; first | exact Cells.lA (by assumption) (by (repeat first | exact .refl _ _ | assumption | refine .trans ?_ (by assumption)); first | done | fail) rfl rfl | exact Cells.lL (by assumption) (by (repeat first | exact .refl _ _ | assumption | refine .trans ?_ (by assumption)); first | done | fail) rfl rfl (by assumption) | exact Cells.lP (by assumption) (by (repeat first | exact .refl _ _ | assumption | refine .trans ?_ (by assumption)); first | done | fail) _ rfl rfl rfl rfl | exact Cells.lP (by assumption) (by (repeat first | exact .refl _ _ | assumption | refine .trans ?_ (by assumption)); first | done | fail) _ rfl rfl (by assumption) (by assumption)))) ?_)
            first | (refine Wx.actSkip rfl rfl rfl rfl ?_) | (refine Wx.actNew rfl rfl rfl rfl (acts_call rfl rfl rfl (compare_at (l[l.length - 1]) f _)) ?_; rintro v6 w6 e6 rfl; have hz6 := e6.size)
            first | (refine Wx.skip hq rfl rfl rfl rfl ?_) | (refine Wx.pure hq rfl rfl rfl rfl (by first | exact rp_bin rfl rfl rfl (binI_t (by omega)) | exact rp_bin rfl rfl rfl (binI_f (by omega)) | exact rp_bin rfl rfl rfl rfl) ?_)
            refine Wx.pure hq rfl rfl rfl rfl (by first | exact rp_pick_t rfl rfl rfl | exact rp_pick_f rfl rfl rfl) ?_
            refine Wx.nil ?_
            (repeat first | refine thenE_normal ?_ | refine blockE_normal ?_ | refine scopeE_normal ?_)
            exact ⟨(), sub_cons rfl (sub_cons rfl (sub_cons rfl sub_nil)), by (repeat first | exact .refl _ _ | assumption | refine .trans ?_ (by assumption)); first | done | fail⟩
        · obtain rfl : l = [] := List.eq_nil_of_length_eq_zero (by omega)
          (repeat refine Sx.seq ?_)
          refine Sx.walkR rfl (fun _ _ _ _ h => h) [0, 1, 2, 3, 4, 5, 6, 7, 8, 9, 10, 11, 12, 13] [0, 1, 2, 3, 4, 5, 6, 7, 8, 9, 10, 12, 13] (0) (by kernel_rfl) ?_
          intro hq w7 e7; have hz7 := e7.size
          refine Wx.pure hq rfl rfl rfl rfl (rp_move rfl rfl) ?_
          refine Wx.pure hq rfl rfl rfl rfl (rp_lenS rfl rfl rfl) ?_
          refine Wx.pure hq rfl rfl rfl rfl (by first | exact rp_bin rfl rfl rfl (binI_t (by omega)) | exact rp_bin rfl rfl rfl (binI_f (by omega)) | exact rp_bin rfl rfl rfl rfl) ?_
          refine Wx.pure hq rfl rfl rfl rfl (rp_move rfl rfl) ?_
          first | (refine Wx.skip hq rfl rfl rfl rfl ?_) | (refine Wx.pure hq rfl rfl rfl rfl (rp_move rfl rfl) ?_)
          first | (refine Wx.skip hq rfl rfl rfl rfl ?_) | (refine Wx.pure hq rfl rfl rfl rfl (rp_move rfl rfl) ?_)
          first | (refine Wx.skip hq rfl rfl rfl rfl ?_) | (refine Wx.pure hq rfl rfl rfl rfl (rp_lenS rfl rfl rfl) ?_)
          first | (refine Wx.skip hq rfl rfl rfl rfl ?_) | (refine Wx.pure hq rfl rfl rfl rfl (by first | exact rp_bin rfl rfl rfl (binI_fit_sub (wrap64 (by omega))) | exact rp_bin rfl rfl rfl rfl) ?_)
          first | (refine Wx.skip hq rfl rfl rfl rfl ?_) | (refine Wx.pure hq rfl rfl rfl rfl (rp_indexAddr (l.length - 1) rfl rfl rfl rfl rfl (by assumption) (by omega) (by omega)) ?_)
          first | (refine Wx.skip hq rfl rfl rfl rfl ?_) | (refine Wx.val hq rfl rfl rfl rfl ([]) (rv_load rfl rfl (by (intro u hu; first | exact Cells.lA (by assumption) (by (repeat first | exact .refl _ _ | assumption | refine .trans ?_ (by assumption)); first | done | fail) rfl rfl | exact Cells.lL (by assumption) (by (repeat first | exact .refl _ _ | assumption | refine .trans ?_ (by assumption)); first | done | fail) rfl rfl (by assumption) | exact Cells.lP (by assumption) (by (repeat first | exact .refl _ _ | assumption | refine .trans ?_ (by assumption)); first | done | fail) _ rfl rfl rfl rfl | exact Cells.lP (by assumption) (by (repeat first | exact .refl _ _ | assumption | refine .trans ?_ (by assumption)); first | done | fail) _ rfl rfl (by assumption) (by assumption)))) ?_)
          first | (refine Wx.skip hq rfl rfl rfl rfl ?_) | (refine Wx.val hq rfl rfl rfl rfl ([]) (rv_load rfl rfl (by (intro u hu; first | exact Cells.lA (by assumption) (by (repeat first | exact .refl _ _ | assumption | refine .trans ?_ (by assumption)); first | done | fail) rfl rfl | exact Cells.lL (by assumption) (by (repeat first | exact .refl _ _ | assumption | refine .trans ?_ (by assumption)); first | done | fail) rfl rfl (by assumption) | exact Cells.lP (by assumption) (by (repeat first | exact .refl _ _ | assumption | refine .trans ?_ (by assumption)); first | done | fail) _ rfl rfl rfl rfl | exact Cells.lP (by assumption) (by (repeat first | exact .refl _ _ | assumption | refine .trans ?_ (by assumption)); first | done | fail) _ rfl rfl (by assumption) (by assumption)))) ?_)
          first | (refine Wx.actSkip rfl rfl rfl rfl ?_) | (refine Wx.actNew rfl rfl rfl rfl (acts_call rfl rfl rfl (compare_at (l[l.length - 1]) f _)) ?_; rintro v8 w8 e8 rfl; have hz8 := e8.size)
          first | (refine Wx.skip hq rfl rfl rfl rfl ?_) | (refine Wx.pure hq rfl rfl rfl rfl (by first | exact rp_bin rfl rfl rfl (binI_t (by omega)) | exact rp_bin rfl rfl rfl (binI_f (by omega)) | exact rp_bin rfl rfl rfl rfl) ?_)
          refine Wx.pure hq rfl rfl rfl rfl (by first | exact rp_pick_t rfl rfl rfl | exact rp_pick_f rfl rfl rfl) ?_
          refine Wx.nil ?_
          (repeat first | refine thenE_normal ?_ | refine blockE_normal ?_ | refine scopeE_normal ?_)
          exact ⟨(), sub_cons rfl (sub_cons rfl (sub_cons rfl sub_nil)), by (repeat first | exact .refl _ _ | assumption | refine .trans ?_ (by assumption)); first | done | fail⟩
      rintro _ wa ea
      cases hlb : lastBad l f with
      | true =>
        (repeat refine Sx.seq ?_); first | refine Sx.cond_true rfl ?_ | refine Sx.cond rfl (fun _ => ?_) (fun h => absurd h (by simp [*]))
        (repeat refine Sx.seq ?_)
        refine Sx.textR ?_
        refine Ox.pure rfl rfl (rp_assign rfl rfl) ?_
        refine Ox.pure rfl rfl (rp_assign rfl rfl) ?_
        refine Ox.nil ?_
        (repeat first | refine thenE_normal ?_ | refine blockE_normal ?_ | refine scopeE_normal ?_)
        (repeat refine Sx.seq ?_); refine Sx.ret ?_
        (repeat first | refine thenE_ret ?_ | refine blockE_ret ?_ | refine scopeE_ret ?_)
        exact endE_ret [_, _] ⟨rfl, rfl, trivial⟩ ⟨by (repeat first | exact .refl _ _ | assumption | refine .trans ?_ (by assumption)); first | done | fail, nilS, by simp [addL, h0, hv, hlb, resV], by simp [addL, h0, hv, hlb]; exact World.ownsRow_nil _ _ _ _⟩
      | false =>
        have hzx := ebx.size
        have hza := ea.size
        have hadd : addL l f = (l ++ [f], 0) := by simp [addL, h0, hv, hlb]
        (repeat refine Sx.seq ?_); first | refine Sx.cond_false rfl ?_ | refine Sx.cond rfl (fun h => absurd h (by simp [*])) (fun _ => ?_)
        (repeat refine Sx.seq ?_); refine Sx.skip ?_
        (repeat first | refine thenE_normal ?_ | refine blockE_normal ?_ | refine scopeE_normal ?_)
        refine Sx.seq (Sx.upto (fun E' w' => Ext [] w w' ∧ ∃ v, get E' 4 = some v ∧ get E' 5 = some (.int .i64 0) ∧ OwnF w.heap.size w' v (l ++ [f])) ?_ ?_)
        · (repeat refine Sx.seq ?_)
          refine Sx.walkR rfl (fun _ _ _ _ h => h) [0, 2] [0, 2, 5, 6] (5) (by kernel_rfl) ?_
          intro hq w9 e9; have hz9 := e9.size
          refine Wx.pure hq rfl rfl rfl rfl (rp_move rfl rfl) ?_
          refine Wx.val hq rfl rfl rfl rfl ([]) (rv_load rfl rfl (by (intro u hu; first | exact Cells.lA (by assumption) (by (repeat first | exact .refl _ _ | assumption | refine .trans ?_ (by assumption)); first | done | fail) rfl rfl | exact Cells.lL (by assumption) (by (repeat first | exact .refl _ _ | assumption | refine .trans ?_ (by assumption)); first | done | fail) rfl rfl (by assumption) | exact Cells.lP (by assumption) (by (repeat first | exact .refl _ _ | assumption | refine .trans ?_ (by assumption)); first | done | fail) _ rfl rfl rfl rfl | exact Cells.lP (by assumption) (by (repeat first | exact .refl _ _ | assumption | refine .trans ?_ (by assumption)); first | done | fail) _ rfl rfl (by assumption) (by assumption)))) ?_
          refine Wx.fork (i := 1) (j := 3) (by kernel_rfl) ?_ ?_
          · refine Br.mk [(2, [], w9)] rfl rfl rfl ([]) (.keep (fun y hy => .inl hy) (PendK.nil)) (acts_call rfl rfl rfl (clip_at l p A c _ (hs.ext0 (by (repeat first | exact .refl _ _ | assumption | refine .trans ?_ (by assumption)); first | done | fail)))) (fun _ _ h => h.1) [3, 4, 5, 6] (0) (by kernel_rfl) ?_
            rintro vcl wcl ⟨ecl, p', rfl, hsc⟩
            have hzcl := ecl.size
            refine Wx.actNew rfl rfl rfl rfl (acts_buildSlice (ps := [(0, .tmp 30)]) rfl rfl rfl rfl rfl rfl rfl rfl) ?_
            rintro vbs wbs ebs ⟨bbs, rfl, hbbs, hBbs⟩
            first | (have hCbs : Cells wbs ⟨bbs, 0, none⟩ [_, _, _, _, _, _, _, _] := hBbs.cells) | have hCbs := Blk.cellsL hBbs
            have hlbs := hBbs.lt
            have hzbs := ebs.size
            refine Wx.actLast rfl rfl rfl rfl (by kernel_rfl) (acts_append_full (e := 61) (size := 8) (bytes := 64) rfl rfl rfl rfl hsc.ptr (rowsV_length fc_len l) (hsc.row.ext0 (by (repeat first | exact .refl _ _ | assumption | refine .trans ?_ (by assumption)); first | done | fail)) (source_slice rfl rfl (fun _ => rfl) (hCbs.ext0 (by (repeat first | exact .refl _ _ | assumption | refine .trans ?_ (by assumption)); first | done | fail)) (fc_one f)) (by decide) (by omega) (by omega) w.heap.size (by omega)) ?_
            rintro vap wap ⟨hownap, eap⟩
            refine Wx.pure hq rfl rfl rfl rfl (rp_assign rfl rfl) ?_
            refine Wx.pure hq rfl rfl rfl rfl (rp_assign rfl rfl) ?_
            refine Wx.nil ?_
            (repeat first | refine thenE_normal ?_ | refine blockE_normal ?_ | refine scopeE_normal ?_)
            refine ⟨by (repeat first | exact .refl _ _ | assumption | refine .trans ?_ (by assumption)); first | done | fail, _, rfl, rfl, ?_⟩
            unfold OwnF
            rw [List.length_append, rowsV_append, rowsV_one]
            exact hownap
          · refine Br.mk [] rfl rfl rfl ([]) (.drop (by kernel_rfl) (PendK.nil)) (acts_buildSlice (ps := [(0, .tmp 30)]) rfl rfl rfl rfl rfl rfl rfl rfl) (fun _ _ h => h.1) [1, 4, 5, 6] (0) (by kernel_rfl) ?_
            rintro vbs wbs ⟨ebs, bbs, rfl, hbbs, hBbs⟩
            first | (have hCbs : Cells wbs ⟨bbs, 0, none⟩ [_, _, _, _, _, _, _, _] := hBbs.cells) | have hCbs := Blk.cellsL hBbs
            have hlbs := hBbs.lt
            have hzbs := ebs.size
            refine Wx.actNew rfl rfl rfl rfl (acts_call rfl rfl rfl (clip_at l p A c _ (hs.ext0 (by (repeat first | exact .refl _ _ | assumption | refine .trans ?_ (by assumption)); first | done | fail)))) ?_
            rintro vcl wcl ecl ⟨p', rfl, hsc⟩
            have hzcl := ecl.size
            refine Wx.actLast rfl rfl rfl rfl (by kernel_rfl) (acts_append_full (e := 61) (size := 8) (bytes := 64) rfl rfl rfl rfl hsc.ptr (rowsV_length fc_len l) (hsc.row.ext0 (by (repeat first | exact .refl _ _ | assumption | refine .trans ?_ (by assumption)); first | done | fail)) (source_slice rfl rfl (fun _ => rfl) (hCbs.ext0 (by (repeat first | exact .refl _ _ | assumption | refine .trans ?_ (by assumption)); first | done | fail)) (fc_one f)) (by decide) (by omega) (by omega) w.heap.size (by omega)) ?_
            rintro vap wap ⟨hownap, eap⟩
            refine Wx.pure hq rfl rfl rfl rfl (rp_assign rfl rfl) ?_
            refine Wx.pure hq rfl rfl rfl rfl (rp_assign rfl rfl) ?_
            refine Wx.nil ?_
            (repeat first | refine thenE_normal ?_ | refine blockE_normal ?_ | refine scopeE_normal ?_)
            refine ⟨by (repeat first | exact .refl _ _ | assumption | refine .trans ?_ (by assumption)); first | done | fail, _, rfl, rfl, ?_⟩
            unfold OwnF
            rw [List.length_append, rowsV_append, rowsV_one]
            exact hownap
        · rintro E' w' ⟨hx, v, h4, h5, ho⟩
          refine thenE_normal ?_
          (repeat refine Sx.seq ?_); refine Sx.ret ?_
          (repeat first | refine thenE_ret ?_ | refine blockE_ret ?_ | refine scopeE_ret ?_)
          refine endE_ret [v, .int .i64 0] ⟨h4, h5, trivial⟩ ⟨hx, v, ?_, ?_⟩
          · rw [hadd]; rfl
          · rw [hadd]; exact ho
    · (repeat refine Sx.seq ?_)
      refine Sx.textR ?_
      refine Ox.act rfl rfl (acts_box rfl rfl) ?_
      rintro vbx wbx ⟨ebx, bbx, rfl, hbbx, hBbx⟩
      first | (have hCbx : Cells wbx ⟨bbx, 0, none⟩ [_, _, _, _, _, _, _, _] := hBbx.cells) | have hCbx := Blk.cellsL hBbx
      have hlbx := hBbx.lt
      have hzbx := ebx.size
      refine Ox.pure rfl rfl (rp_assign rfl rfl) ?_
      refine Ox.pure rfl rfl (rp_assign rfl rfl) ?_
      refine Ox.nil ?_
      (repeat first | refine thenE_normal ?_ | refine blockE_normal ?_ | refine scopeE_normal ?_)
      (repeat refine Sx.seq ?_)
      refine Sx.textR ?_
      refine Ox.pure rfl rfl (rp_move rfl rfl) ?_
      refine Ox.act rfl rfl (acts_call rfl rfl rfl (check_at l p A c _ (hs.ext0 (by (repeat first | exact .refl _ _ | assumption | refine .trans ?_ (by assumption)); first | done | fail)))) ?_
      rintro v10 w10 ⟨e10, rfl⟩
      have hz10 := e10.size
      refine Ox.pure rfl rfl (rp_assign rfl rfl) ?_
      refine Ox.nil ?_
      (repeat first | refine thenE_normal ?_ | refine blockE_normal ?_ | refine scopeE_normal ?_)
      (repeat refine Sx.seq ?_)
      refine Sx.textR ?_
      refine Ox.pure rfl rfl (rp_move rfl rfl) ?_
      refine Ox.pure rfl rfl (by first | exact rp_bin rfl rfl rfl (binI_t (by omega)) | exact rp_bin rfl rfl rfl (binI_f (by omega)) | exact rp_bin rfl rfl rfl rfl) ?_
      refine Ox.nil ?_
      (repeat first | refine thenE_normal ?_ | refine blockE_normal ?_ | refine scopeE_normal ?_)
      (repeat refine Sx.seq ?_); first | refine Sx.cond_false rfl ?_ | refine Sx.cond rfl (fun h => absurd h (by simp [*])) (fun _ => ?_)
      (repeat refine Sx.seq ?_); refine Sx.skip ?_
      (repeat first | refine thenE_normal ?_ | refine blockE_normal ?_ | refine scopeE_normal ?_)
      (repeat refine Sx.seq ?_)
      refine Sx.textR ?_
      refine Ox.val rfl rfl (rv_load rfl rfl (by (intro u hu; first | exact Cells.lA (by assumption) (by (repeat first | exact .refl _ _ | assumption | refine .trans ?_ (by assumption)); first | done | fail) rfl rfl | exact Cells.lL (by assumption) (by (repeat first | exact .refl _ _ | assumption | refine .trans ?_ (by assumption)); first | done | fail) rfl rfl (by assumption) | exact Cells.lP (by assumption) (by (repeat first | exact .refl _ _ | assumption | refine .trans ?_ (by assumption)); first | done | fail) _ rfl rfl rfl rfl | exact Cells.lP (by assumption) (by (repeat first | exact .refl _ _ | assumption | refine .trans ?_ (by assumption)); first | done | fail) _ rfl rfl (by assumption) (by assumption)))) ?_
      refine Ox.act rfl rfl (acts_call rfl rfl rfl (fits_at f _)) ?_
      rintro v11 w11 ⟨e11, rfl⟩
      have hz11 := e11.size
      rw [decide_eq_false hv]
      refine Ox.pure rfl rfl (rp_not rfl rfl) ?_
      refine Ox.nil ?_
      (repeat first | refine thenE_normal ?_ | refine blockE_normal ?_ | refine scopeE_normal ?_)
      (repeat refine Sx.seq ?_); first | refine Sx.cond_true rfl ?_ | refine Sx.cond rfl (fun _ => ?_) (fun h => absurd h (by simp [*]))
      (repeat refine Sx.seq ?_)
      refine Sx.textR ?_
      refine Ox.pure rfl rfl (rp_assign rfl rfl) ?_
      refine Ox.pure rfl rfl (rp_assign rfl rfl) ?_
      refine Ox.nil ?_
      (repeat first | refine thenE_normal ?_ | refine blockE_normal ?_ | refine scopeE_normal ?_)
      (repeat refine Sx.seq ?_); refine Sx.ret ?_
      (repeat first | refine thenE_ret ?_ | refine blockE_ret ?_ | refine scopeE_ret ?_)
      exact endE_ret [_, _] ⟨rfl, rfl, trivial⟩ ⟨by (repeat first | exact .refl _ _ | assumption | refine .trans ?_ (by assumption)); first | done | fail, nilS, by simp [addL, h0, hv, resV], by simp [addL, h0, hv]; exact World.ownsRow_nil _ _ _ _⟩
  · (repeat refine Sx.seq ?_)
    refine Sx.textR ?_
    refine Ox.act rfl rfl (acts_box rfl rfl) ?_
    rintro vbx wbx ⟨ebx, bbx, rfl, hbbx, hBbx⟩
    first | (have hCbx : Cells wbx ⟨bbx, 0, none⟩ [_, _, _, _, _, _, _, _] := hBbx.cells) | have hCbx := Blk.cellsL hBbx
    have hlbx := hBbx.lt
    have hzbx := ebx.size
    refine Ox.pure rfl rfl (rp_assign rfl rfl) ?_
    refine Ox.pure rfl rfl (rp_assign rfl rfl) ?_
    refine Ox.nil ?_
    (repeat first | refine thenE_normal ?_ | refine blockE_normal ?_ | refine scopeE_normal ?_)
    (repeat refine Sx.seq ?_)
    refine Sx.textR ?_
    refine Ox.pure rfl rfl (rp_move rfl rfl) ?_
    refine Ox.act rfl rfl (acts_call rfl rfl rfl (check_at l p A c _ (hs.ext0 (by (repeat first | exact .refl _ _ | assumption | refine .trans ?_ (by assumption)); first | done | fail)))) ?_
    rintro v12 w12 ⟨e12, rfl⟩
    have hz12 := e12.size
    refine Ox.pure rfl rfl (rp_assign rfl rfl) ?_
    refine Ox.nil ?_
    (repeat first | refine thenE_normal ?_ | refine blockE_normal ?_ | refine scopeE_normal ?_)
    (repeat refine Sx.seq ?_)
    refine Sx.textR ?_
    refine Ox.pure rfl rfl (rp_move rfl rfl) ?_
    refine Ox.pure rfl rfl (by first | exact rp_bin rfl rfl rfl (binI_t (by omega)) | exact rp_bin rfl rfl rfl (binI_f (by omega)) | exact rp_bin rfl rfl rfl rfl) ?_
    refine Ox.nil ?_
    (repeat first | refine thenE_normal ?_ | refine blockE_normal ?_ | refine scopeE_normal ?_)
    (repeat refine Sx.seq ?_); first | refine Sx.cond_true rfl ?_ | refine Sx.cond rfl (fun _ => ?_) (fun h => absurd h (by simp [*]))
    (repeat refine Sx.seq ?_)
    refine Sx.textR ?_
    refine Ox.pure rfl rfl (rp_move rfl rfl) ?_
    refine Ox.pure rfl rfl (rp_assign rfl rfl) ?_
    refine Ox.pure rfl rfl (rp_assign rfl rfl) ?_
    refine Ox.nil ?_
    (repeat first | refine thenE_normal ?_ | refine blockE_normal ?_ | refine scopeE_normal ?_)
    (repeat refine Sx.seq ?_); refine Sx.ret ?_
    (repeat first | refine thenE_ret ?_ | refine blockE_ret ?_ | refine scopeE_ret ?_)
    exact endE_ret [_, _] ⟨rfl, rfl, trivial⟩ ⟨by (repeat first | exact .refl _ _ | assumption | refine .trans ?_ (by assumption)); first | done | fail, nilS, by simp [addL, h0, resV], by simp [addL, h0]; exact World.ownsRow_nil _ _ _ _⟩

theorem ref_Add (l : List Fct) (f : Fct) (p : Option Addr) (A : Addr) (c : Nat) (w : World) (hs : SlV fc w p A l c) (hl : l.length ≤ 1000000) :
    Calls Try.prog 29 #[.slice p l.length c, .agg (fc f).toArray] w (Ret fun r w' => Ext [] w w' ∧ ∃ v, r = .tuple #[v, .int .i64 (addL l f).2] ∧ OwnF w.heap.size w' v (addL l f).1) := by
  have hp := hs.ptr
  have hrow := hs.row
  have hin := checkL_in l
  refine calls_of_Sx (args := [.slice p l.length c, .agg (fc f).toArray]) Try.func29 rfl rfl ?_
  by_cases h0 : checkL l = 0
  · by_cases hv : Fits f
    · (repeat refine Sx.seq ?_)
      refine Sx.textR ?_
      refine Ox.act rfl rfl (acts_box rfl rfl) ?_
      rintro vbx wbx ⟨ebx, bbx, rfl, hbbx, hBbx⟩
      first | (have hCbx : Cells wbx ⟨bbx, 0, none⟩ [_, _, _, _, _, _, _, _] := hBbx.cells) | have hCbx := Blk.cellsL hBbx
      have hlbx := hBbx.lt
      have hzbx := ebx.size
      refine Ox.pure rfl rfl (rp_assign rfl rfl) ?_
      refine Ox.pure rfl rfl (rp_assign rfl rfl) ?_
      refine Ox.nil ?_
      (repeat first | refine thenE_normal ?_ | refine blockE_normal ?_ | refine scopeE_normal ?_)
      (repeat refine Sx.seq ?_)
      refine Sx.textR ?_
      refine Ox.pure rfl rfl (rp_move rfl rfl) ?_
      refine Ox.act rfl rfl (acts_call rfl rfl rfl (ref_Check l p A c _ (hs.ext0 (by (repeat first | exact .refl _ _ | assumption | refine .trans ?_ (by assumption)); first | done | fail)))) ?_
      rintro v13 w13 ⟨e13, rfl⟩
      have hz13 := e13.size
      refine Ox.pure rfl rfl (rp_assign rfl rfl) ?_
      refine Ox.nil ?_
      (repeat first | refine thenE_normal ?_ | refine blockE_normal ?_ | refine scopeE_normal ?_)
      (repeat refine Sx.seq ?_)
      refine Sx.textR ?_
      refine Ox.pure rfl rfl (rp_move rfl rfl) ?_
      refine Ox.pure rfl rfl (by first | exact rp_bin rfl rfl rfl (binI_t (by omega)) | exact rp_bin rfl rfl rfl (binI_f (by omega)) | exact rp_bin rfl rfl rfl rfl) ?_
      refine Ox.nil ?_
      (repeat first | refine thenE_normal ?_ | refine blockE_normal ?_ | refine scopeE_normal ?_)
      (repeat refine Sx.seq ?_); first | refine Sx.cond_false rfl ?_ | refine Sx.cond rfl (fun h => absurd h (by simp [*])) (fun _ => ?_)
      (repeat refine Sx.seq ?_); refine Sx.skip ?_
      (repeat first | refine thenE_normal ?_ | refine blockE_normal ?_ | refine scopeE_normal ?_)
      (repeat refine Sx.seq ?_)
      refine Sx.textR ?_
      refine Ox.val rfl rfl (rv_load rfl rfl (by (intro u hu; first | exact Cells.lA (by assumption) (by (repeat first | exact .refl _ _ | assumption | refine .trans ?_ (by assumption)); first | done | fail) rfl rfl | exact Cells.lL (by assumption) (by (repeat first | exact .refl _ _ | assumption | refine .trans ?_ (by assumption)); first | done | fail) rfl rfl (by assumption) | exact Cells.lP (by assumption) (by (repeat first | exact .refl _ _ | assumption | refine .trans ?_ (by assumption)); first | done | fail) _ rfl rfl rfl rfl | exact Cells.lP (by assumption) (by (repeat first | exact .refl _ _ | assumption | refine .trans ?_ (by assumption)); first | done | fail) _ rfl rfl (by assumption) (by assumption)))) ?_
      refine Ox.act rfl rfl (acts_call rfl rfl rfl (ref_Valid f _)) ?_
      rintro v14 w14 ⟨e14, rfl⟩
      have hz14 := e14.size
      rw [decide_eq_true hv]
      refine Ox.pure rfl rfl (rp_not rfl rfl) ?_
      refine Ox.nil ?_
      (repeat first | refine thenE_normal ?_ | refine blockE_normal ?_ | refine scopeE_normal ?_)
      (repeat refine Sx.seq ?_); first | refine Sx.cond_false rfl ?_ | refine Sx.cond rfl (fun h => absurd h (by simp [*])) (fun _ => ?_)
      (repeat refine Sx.seq ?_); refine Sx.skip ?_
      (repeat first | refine thenE_normal ?_ | refine blockE_normal ?_ | refine scopeE_normal ?_)
      refine Sx.seq ?_
      refine Sx.cut (ι := Unit) (fun _ => [(0, .slice p l.length c), (3, .pointer (some ⟨bbx, 0, none⟩)), (28, .bool (lastBad l f))]) (fun _ w' => Ext [] wbx w') ?_ ?_
      · by_cases hlen : 0 < l.length
        · have hi1 : l.length - 1 < l.length := by omega
          have hat := rowsV_at fc_len hi1
          have hl8 := fc_len (l[l.length - 1])
          rw [lastBad_get hlen]
          (repeat refine Sx.seq ?_)
          refine Sx.walkR rfl (fun _ _ _ _ h => h) [0, 1, 2, 3, 4, 5, 6, 7, 8, 9, 10, 11, 12, 13] [0, 1, 2, 3, 4, 5, 6, 7, 8, 9, 10, 12, 13] (0) (by kernel_rfl) ?_
          intro hq w15 e15; have hz15 := e15.size
          refine Wx.pure hq rfl rfl rfl rfl (rp_move rfl rfl) ?_
          refine Wx.pure hq rfl rfl rfl rfl (rp_lenS rfl rfl rfl) ?_
          refine Wx.pure hq rfl rfl rfl rfl (by first | exact rp_bin rfl rfl rfl (binI_t (by omega)) | exact rp_bin rfl rfl rfl (binI_f (by omega)) | exact rp_bin rfl rfl rfl rfl) ?_
          refine Wx.pure hq rfl rfl rfl rfl (rp_move rfl rfl) ?_
          first | (refine Wx.skip hq rfl rfl rfl rfl ?_) | (refine Wx.pure hq rfl rfl rfl rfl (rp_move rfl rfl) ?_)
          first | (refine Wx.skip hq rfl rfl rfl rfl ?_) | (refine Wx.pure hq rfl rfl rfl rfl (rp_move rfl rfl) ?_)
          first | (refine Wx.skip hq rfl rfl rfl rfl ?_) | (refine Wx.pure hq rfl rfl rfl rfl (rp_lenS rfl rfl rfl) ?_)
          first | (refine Wx.skip hq rfl rfl rfl rfl ?_) | (refine Wx.pure hq rfl rfl rfl rfl (by first | exact rp_bin rfl rfl rfl (binI_fit_sub (wrap64 (by omega))) | exact rp_bin rfl rfl rfl rfl) ?_)
          first | (refine Wx.skip hq rfl rfl rfl rfl ?_) | (refine Wx.pure hq rfl rfl rfl rfl (rp_indexAddr (l.length - 1) rfl rfl rfl rfl rfl (by assumption) (by omega) (by omega)) ?_)
          first | (refine Wx.skip hq rfl rfl rfl rfl ?_) | (refine Wx.val hq rfl rfl rfl rfl ([]) (rv_load rfl rfl (by (intro u hu; first | exact Cells.lA (by assumption) (by (repeat first | exact .refl _ _ | assumption | refine .trans ?_ (by assumption)); first | done | fail) rfl rfl | exact Cells.lL (by assumption) (by (repeat first | exact .refl _ _ | assumption | refine .trans ?_ (by assumption)); first | done | fail) rfl rfl (by assumption) | exact Cells.lP (by assumption) (by (repeat first | exact .refl _ _ | assumption | refine .trans ?_ (by assumption)); first | done | fail) _ rfl rfl rfl rfl | exact Cells.lP (by assumption) (by (repeat first | exact .refl _ _ | assumption | refine .trans ?_ (by assumption)); first | done | fail) _ rfl rfl (by assumption) (by assumption)))) ?_)
          first | (refine Wx.skip hq rfl rfl rfl rfl ?_) | (refine Wx.val hq rfl rfl rfl rfl ([]) (rv_load rfl rfl (by (intro u hu; first | exact Cells.lA (by assumption) (by (repeat first | exact .refl _ _ | assumption | refine .trans ?_ (by assumption)); first | done | fail) rfl rfl | exact Cells.lL (by assumption) (by (repeat first | exact .refl _ _ | assumption | refine .trans ?_ (by assumption)); first | done | fail) rfl rfl (by assumption) | exact Cells.lP (by assumption) (by (repeat first | exact .refl _ _ | assumption | refine .trans ?_ (by assumption)); first | done | fail) _ rfl rfl rfl rfl | exact Cells.lP (by assumption) (by (repeat first | exact .refl _ _ | assumption | refine .trans ?_ (by assumption)); first | done | fail) _ rfl rfl (by assumption) (by assumption)))) ?_)
          first | (refine Wx.actSkip rfl rfl rfl rfl ?_) | (refine Wx.actNew rfl rfl rfl rfl (acts_call rfl rfl rfl (ref_Before (l[l.length - 1]) f _)) ?_; rintro v16 w16 e16 rfl; have hz16 := e16.size)
          first | (refine Wx.skip hq rfl rfl rfl rfl ?_) | (refine Wx.pure hq rfl rfl rfl rfl (rp_not rfl rfl) ?_)
          refine Wx.pure hq rfl rfl rfl rfl (by first | exact rp_pick_t rfl rfl rfl | exact rp_pick_f rfl rfl rfl) ?_
          refine Wx.nil ?_
          (repeat first | refine thenE_normal ?_ | refine blockE_normal ?_ | refine scopeE_normal ?_)
          exact ⟨(), sub_cons rfl (sub_cons rfl (sub_cons rfl sub_nil)), by (repeat first | exact .refl _ _ | assumption | refine .trans ?_ (by assumption)); first | done | fail⟩
        · obtain rfl : l = [] := List.eq_nil_of_length_eq_zero (by omega)
          (repeat refine Sx.seq ?_)
          refine Sx.walkR rfl (fun _ _ _ _ h => h) [0, 1, 2, 3, 4, 5, 6, 7, 8, 9, 10, 11, 12, 13] [0, 1, 2, 3, 4, 5, 6, 7, 8, 9, 10, 12, 13] (0) (by kernel_rfl) ?_
          intro hq w17 e17; have hz17 := e17.size
          refine Wx.pure hq rfl rfl rfl rfl (rp_move rfl rfl) ?_
          refine Wx.pure hq rfl rfl rfl rfl (rp_lenS rfl rfl rfl) ?_
          refine Wx.pure hq rfl rfl rfl rfl (by first | exact rp_bin rfl rfl rfl (binI_t (by omega)) | exact rp_bin rfl rfl rfl (binI_f (by omega)) | exact rp_bin rfl rfl rfl rfl) ?_
          refine Wx.pure hq rfl rfl rfl rfl (rp_move rfl rfl) ?_
          first | (refine Wx.skip hq rfl rfl rfl rfl ?_) | (refine Wx.pure hq rfl rfl rfl rfl (rp_move rfl rfl) ?_)
          first | (refine Wx.skip hq rfl rfl rfl rfl ?_) | (refine Wx.pure hq rfl rfl rfl rfl (rp_move rfl rfl) ?_)
          first | (refine Wx.skip hq rfl rfl rfl rfl ?_) | (refine Wx.pure hq rfl rfl rfl rfl (rp_lenS rfl rfl rfl) ?_)
          first | (refine Wx.skip hq rfl rfl rfl rfl ?_) | (refine Wx.pure hq rfl rfl rfl rfl (by first | exact rp_bin rfl rfl rfl (binI_fit_sub (wrap64 (by omega))) | exact rp_bin rfl rfl rfl rfl) ?_)
          first | (refine Wx.skip hq rfl rfl rfl rfl ?_) | (refine Wx.pure hq rfl rfl rfl rfl (rp_indexAddr (l.length - 1) rfl rfl rfl rfl rfl (by assumption) (by omega) (by omega)) ?_)
          first | (refine Wx.skip hq rfl rfl rfl rfl ?_) | (refine Wx.val hq rfl rfl rfl rfl ([]) (rv_load rfl rfl (by (intro u hu; first | exact Cells.lA (by assumption) (by (repeat first | exact .refl _ _ | assumption | refine .trans ?_ (by assumption)); first | done | fail) rfl rfl | exact Cells.lL (by assumption) (by (repeat first | exact .refl _ _ | assumption | refine .trans ?_ (by assumption)); first | done | fail) rfl rfl (by assumption) | exact Cells.lP (by assumption) (by (repeat first | exact .refl _ _ | assumption | refine .trans ?_ (by assumption)); first | done | fail) _ rfl rfl rfl rfl | exact Cells.lP (by assumption) (by (repeat first | exact .refl _ _ | assumption | refine .trans ?_ (by assumption)); first | done | fail) _ rfl rfl (by assumption) (by assumption)))) ?_)
          first | (refine Wx.skip hq rfl rfl rfl rfl ?_) | (refine Wx.val hq rfl rfl rfl rfl ([]) (rv_load rfl rfl (by (intro u hu; first | exact Cells.lA (by assumption) (by (repeat first | exact .refl _ _ | assumption | refine .trans ?_ (by assumption)); first | done | fail) rfl rfl | exact Cells.lL (by assumption) (by (repeat first | exact .refl _ _ | assumption | refine .trans ?_ (by assumption)); first | done | fail) rfl rfl (by assumption) | exact Cells.lP (by assumption) (by (repeat first | exact .refl _ _ | assumption | refine .trans ?_ (by assumption)); first | done | fail) _ rfl rfl rfl rfl | exact Cells.lP (by assumption) (by (repeat first | exact .refl _ _ | assumption | refine .trans ?_ (by assumption)); first | done | fail) _ rfl rfl (by assumption) (by assumption)))) ?_)
          first | (refine Wx.actSkip rfl rfl rfl rfl ?_) | (refine Wx.actNew rfl rfl rfl rfl (acts_call rfl rfl rfl (ref_Before (l[l.length - 1]) f _)) ?_; rintro v18 w18 e18 rfl; have hz18 := e18.size)
          first | (refine Wx.skip hq rfl rfl rfl rfl ?_) | (refine Wx.pure hq rfl rfl rfl rfl (rp_not rfl rfl) ?_)
          refine Wx.pure hq rfl rfl rfl rfl (by first | exact rp_pick_t rfl rfl rfl | exact rp_pick_f rfl rfl rfl) ?_
          refine Wx.nil ?_
          (repeat first | refine thenE_normal ?_ | refine blockE_normal ?_ | refine scopeE_normal ?_)
          exact ⟨(), sub_cons rfl (sub_cons rfl (sub_cons rfl sub_nil)), by (repeat first | exact .refl _ _ | assumption | refine .trans ?_ (by assumption)); first | done | fail⟩
      rintro _ wa ea
      cases hlb : lastBad l f with
      | true =>
        (repeat refine Sx.seq ?_); first | refine Sx.cond_true rfl ?_ | refine Sx.cond rfl (fun _ => ?_) (fun h => absurd h (by simp [*]))
        (repeat refine Sx.seq ?_)
        refine Sx.textR ?_
        refine Ox.pure rfl rfl (rp_assign rfl rfl) ?_
        refine Ox.pure rfl rfl (rp_assign rfl rfl) ?_
        refine Ox.nil ?_
        (repeat first | refine thenE_normal ?_ | refine blockE_normal ?_ | refine scopeE_normal ?_)
        (repeat refine Sx.seq ?_); refine Sx.ret ?_
        (repeat first | refine thenE_ret ?_ | refine blockE_ret ?_ | refine scopeE_ret ?_)
        exact endE_ret [_, _] ⟨rfl, rfl, trivial⟩ ⟨by (repeat first | exact .refl _ _ | assumption | refine .trans ?_ (by assumption)); first | done | fail, nilS, by simp [addL, h0, hv, hlb, resV], by simp [addL, h0, hv, hlb]; exact World.ownsRow_nil _ _ _ _⟩
      | false =>
        have hzx := ebx.size
        have hza := ea.size
        have hadd : addL l f = (l ++ [f], 0) := by simp [addL, h0, hv, hlb]
        (repeat refine Sx.seq ?_); first | refine Sx.cond_false rfl ?_ | refine Sx.cond rfl (fun h => absurd h (by simp [*])) (fun _ => ?_)
        (repeat refine Sx.seq ?_); refine Sx.skip ?_
        (repeat first | refine thenE_normal ?_ | refine blockE_normal ?_ | refine scopeE_normal ?_)
        refine Sx.seq (Sx.upto (fun E' w' => Ext [] w w' ∧ ∃ v, get E' 4 = some v ∧ get E' 5 = some (.int .i64 0) ∧ OwnF w.heap.size w' v (l ++ [f])) ?_ ?_)
        · (repeat refine Sx.seq ?_)
          refine Sx.walkR rfl (fun _ _ _ _ h => h) [1, 3] [1, 3, 6, 7] (6) (by kernel_rfl) ?_
          intro hq w19 e19; have hz19 := e19.size
          refine Wx.pure hq rfl rfl rfl rfl (rp_move rfl rfl) ?_
          refine Wx.val hq rfl rfl rfl rfl ([]) (rv_load rfl rfl (by (intro u hu; first | exact Cells.lA (by assumption) (by (repeat first | exact .refl _ _ | assumption | refine .trans ?_ (by assumption)); first | done | fail) rfl rfl | exact Cells.lL (by assumption) (by (repeat first | exact .refl _ _ | assumption | refine .trans ?_ (by assumption)); first | done | fail) rfl rfl (by assumption) | exact Cells.lP (by assumption) (by (repeat first | exact .refl _ _ | assumption | refine .trans ?_ (by assumption)); first | done | fail) _ rfl rfl rfl rfl | exact Cells.lP (by assumption) (by (repeat first | exact .refl _ _ | assumption | refine .trans ?_ (by assumption)); first | done | fail) _ rfl rfl (by assumption) (by assumption)))) ?_
          refine Wx.fork (i := 0) (j := 4) (by kernel_rfl) ?_ ?_
          · refine Br.mk [(3, [], w19)] rfl rfl rfl ([]) (.keep (fun y hy => .inl hy) (PendK.nil)) (acts_buildSlice (ps := []) rfl rfl rfl rfl rfl rfl rfl rfl) (fun _ _ h => h.1) [] (5) (by kernel_rfl) ?_
            rintro vb0 wb0 ⟨eb0, bb0, rfl, hbb0, hBb0⟩
            first | (have hCb0 : Cells wb0 ⟨bb0, 0, none⟩ [] := hBb0.cells) | have hCb0 := Blk.cellsL hBb0
            have hlb0 := hBb0.lt
            have hzb0 := eb0.size
            have ho0 : wb0.ownsRow w.heap.size 61 8 (.slice (some ⟨bb0, 0, none⟩) 0 0) 0 [] := own_built (size := 8) (len := 0) hBb0 (by omega) rfl (by decide)
            refine Wx.fork (i := 2) (j := 4) (by kernel_rfl) ?_ ?_
            · refine Br.mk [(3, [], w19)] rfl rfl rfl ([bb0]) (.keep (fun y hy => .inr (by simp only [List.mem_singleton] at hy; subst hy; simp only; omega)) (PendK.nil)) (acts_append (e := 61) (size := 8) (bytes := 64) rfl rfl rfl rfl (own_keep0 ho0 (by (repeat first | exact .refl _ _ | assumption | refine .trans ?_ (by assumption)); first | done | fail)) ((hs.ext0 (by (repeat first | exact .refl _ _ | assumption | refine .trans ?_ (by assumption)); first | done | fail)).src rfl fc_len fc_one) (by omega) (by omega) (by omega)) (fun _ _ h => h.ext) [4, 5, 6, 7] (0) (by kernel_rfl) ?_
              rintro va1 wa1 hga1
              have ea1 : Ext [] w wa1 := hga1.ext0 (by (repeat first | exact .refl _ _ | assumption | refine .trans ?_ (by assumption)); first | done | fail) (fun g hg => by simp [Value.ownBlock] at hg; omega); have hza1 := hga1.ext.size
              refine Wx.actNew rfl rfl rfl rfl (acts_buildSlice (ps := [(0, .tmp 32)]) rfl rfl rfl rfl rfl rfl rfl rfl) ?_
              rintro vbs wbs ebs ⟨bbs, rfl, hbbs, hBbs⟩
              first | (have hCbs : Cells wbs ⟨bbs, 0, none⟩ [_, _, _, _, _, _, _, _] := hBbs.cells) | have hCbs := Blk.cellsL hBbs
              have hlbs := hBbs.lt
              have hzbs := ebs.size
              refine Wx.actLast rfl rfl rfl rfl (by kernel_rfl) (acts_append (e := 61) (size := 8) (bytes := 64) rfl rfl rfl rfl (own_keep0 hga1.own (by (repeat first | exact .refl _ _ | assumption | refine .trans ?_ (by assumption)); first | done | fail)) (by first | exact source_slice rfl rfl (fun _ => rfl) (hCbs.ext0 (by (repeat first | exact .refl _ _ | assumption | refine .trans ?_ (by assumption)); first | done | fail)) (fc_one f) | exact source_slice rfl rfl (fun _ => rfl) ((hCbs.ext0 (by (repeat first | exact .refl _ _ | assumption | refine .trans ?_ (by assumption)); first | done | fail)).ext hga1.ext (by simp [Value.ownBlock]; omega)) (fc_one f)) (by omega) (by omega) (by omega)) ?_
              rintro vap wap hgap
              refine Wx.pure hq rfl rfl rfl rfl (rp_assign rfl rfl) ?_
              refine Wx.pure hq rfl rfl rfl rfl (rp_assign rfl rfl) ?_
              refine Wx.nil ?_
              (repeat first | refine thenE_normal ?_ | refine blockE_normal ?_ | refine scopeE_normal ?_)
              refine ⟨hgap.ext0 (by (repeat first | exact .refl _ _ | assumption | refine .trans ?_ (by assumption)); first | done | fail) (fun g hg => (own_lt hga1.own g (by simp [hg])).1), _, rfl, rfl, ?_⟩
              have := hgap.own
              simpa [OwnF, rowsV_append, rowsV_one] using this
            · refine Br.mk [] rfl rfl rfl ([]) (.drop (by kernel_rfl) (PendK.nil)) (acts_buildSlice (ps := [(0, .tmp 32)]) rfl rfl rfl rfl rfl rfl rfl rfl) (fun _ _ h => h.1) [2, 5, 6, 7] (0) (by kernel_rfl) ?_
              rintro vbs wbs ⟨ebs, bbs, rfl, hbbs, hBbs⟩
              first | (have hCbs : Cells wbs ⟨bbs, 0, none⟩ [_, _, _, _, _, _, _, _] := hBbs.cells) | have hCbs := Blk.cellsL hBbs
              have hlbs := hBbs.lt
              have hzbs := ebs.size
              refine Wx.actX [] rfl rfl rfl rfl ([bb0]) (PendK.nil) (acts_append (e := 61) (size := 8) (bytes := 64) rfl rfl rfl rfl (own_keep0 ho0 (by (repeat first | exact .refl _ _ | assumption | refine .trans ?_ (by assumption)); first | done | fail)) ((hs.ext0 (by (repeat first | exact .refl _ _ | assumption | refine .trans ?_ (by assumption)); first | done | fail)).src rfl fc_len fc_one) (by omega) (by omega) (by omega)) (fun _ _ h => h.ext) ?_
              rintro va1 wa1 hga1
              have ea1 : Ext [] w wa1 := hga1.ext0 (by (repeat first | exact .refl _ _ | assumption | refine .trans ?_ (by assumption)); first | done | fail) (fun g hg => by simp [Value.ownBlock] at hg; omega); have hza1 := hga1.ext.size
              refine Wx.actLast rfl rfl rfl rfl (by kernel_rfl) (acts_append (e := 61) (size := 8) (bytes := 64) rfl rfl rfl rfl (own_keep0 hga1.own (by (repeat first | exact .refl _ _ | assumption | refine .trans ?_ (by assumption)); first | done | fail)) (by first | exact source_slice rfl rfl (fun _ => rfl) (hCbs.ext0 (by (repeat first | exact .refl _ _ | assumption | refine .trans ?_ (by assumption)); first | done | fail)) (fc_one f) | exact source_slice rfl rfl (fun _ => rfl) ((hCbs.ext0 (by (repeat first | exact .refl _ _ | assumption | refine .trans ?_ (by assumption)); first | done | fail)).ext hga1.ext (by simp [Value.ownBlock]; omega)) (fc_one f)) (by omega) (by omega) (by omega)) ?_
              rintro vap wap hgap
              refine Wx.pure hq rfl rfl rfl rfl (rp_assign rfl rfl) ?_
              refine Wx.pure hq rfl rfl rfl rfl (rp_assign rfl rfl) ?_
              refine Wx.nil ?_
              (repeat first | refine thenE_normal ?_ | refine blockE_normal ?_ | refine scopeE_normal ?_)
              refine ⟨hgap.ext0 (by (repeat first | exact .refl _ _ | assumption | refine .trans ?_ (by assumption)); first | done | fail) (fun g hg => (own_lt hga1.own g (by simp [hg])).1), _, rfl, rfl, ?_⟩
              have := hgap.own
              simpa [OwnF, rowsV_append, rowsV_one] using this
          · refine Br.mk [] rfl rfl rfl ([]) (.drop (by kernel_rfl) (PendK.nil)) (acts_buildSlice (ps := [(0, .tmp 32)]) rfl rfl rfl rfl rfl rfl rfl rfl) (fun _ _ h => h.1) [0, 2, 5, 6, 7] (0) (by kernel_rfl) ?_
            rintro vbs wbs ⟨ebs, bbs, rfl, hbbs, hBbs⟩
            first | (have hCbs : Cells wbs ⟨bbs, 0, none⟩ [_, _, _, _, _, _, _, _] := hBbs.cells) | have hCbs := Blk.cellsL hBbs
            have hlbs := hBbs.lt
            have hzbs := ebs.size
            refine Wx.actNew rfl rfl rfl rfl (acts_buildSlice (ps := []) rfl rfl rfl rfl rfl rfl rfl rfl) ?_
            rintro vb0 wb0 eb0 ⟨bb0, rfl, hbb0, hBb0⟩
            first | (have hCb0 : Cells wb0 ⟨bb0, 0, none⟩ [] := hBb0.cells) | have hCb0 := Blk.cellsL hBb0
            have hlb0 := hBb0.lt
            have hzb0 := eb0.size
            have ho0 : wb0.ownsRow w.heap.size 61 8 (.slice (some ⟨bb0, 0, none⟩) 0 0) 0 [] := own_built (size := 8) (len := 0) hBb0 (by omega) rfl (by decide)
            refine Wx.actX [] rfl rfl rfl rfl ([bb0]) (PendK.nil) (acts_append (e := 61) (size := 8) (bytes := 64) rfl rfl rfl rfl (own_keep0 ho0 (by (repeat first | exact .refl _ _ | assumption | refine .trans ?_ (by assumption)); first | done | fail)) ((hs.ext0 (by (repeat first | exact .refl _ _ | assumption | refine .trans ?_ (by assumption)); first | done | fail)).src rfl fc_len fc_one) (by omega) (by omega) (by omega)) (fun _ _ h => h.ext) ?_
            rintro va1 wa1 hga1
            have ea1 : Ext [] w wa1 := hga1.ext0 (by (repeat first | exact .refl _ _ | assumption | refine .trans ?_ (by assumption)); first | done | fail) (fun g hg => by simp [Value.ownBlock] at hg; omega); have hza1 := hga1.ext.size
            refine Wx.actLast rfl rfl rfl rfl (by kernel_rfl) (acts_append (e := 61) (size := 8) (bytes := 64) rfl rfl rfl rfl (own_keep0 hga1.own (by (repeat first | exact .refl _ _ | assumption | refine .trans ?_ (by assumption)); first | done | fail)) (by first | exact source_slice rfl rfl (fun _ => rfl) (hCbs.ext0 (by (repeat first | exact .refl _ _ | assumption | refine .trans ?_ (by assumption)); first | done | fail)) (fc_one f) | exact source_slice rfl rfl (fun _ => rfl) ((hCbs.ext0 (by (repeat first | exact .refl _ _ | assumption | refine .trans ?_ (by assumption)); first | done | fail)).ext hga1.ext (by simp [Value.ownBlock]; omega)) (fc_one f)) (by omega) (by omega) (by omega)) ?_
            rintro vap wap hgap
            refine Wx.pure hq rfl rfl rfl rfl (rp_assign rfl rfl) ?_
            refine Wx.pure hq rfl rfl rfl rfl (rp_assign rfl rfl) ?_
            refine Wx.nil ?_
            (repeat first | refine thenE_normal ?_ | refine blockE_normal ?_ | refine scopeE_normal ?_)
            refine ⟨hgap.ext0 (by (repeat first | exact .refl _ _ | assumption | refine .trans ?_ (by assumption)); first | done | fail) (fun g hg => (own_lt hga1.own g (by simp [hg])).1), _, rfl, rfl, ?_⟩
            have := hgap.own
            simpa [OwnF, rowsV_append, rowsV_one] using this
        · rintro E' w' ⟨hx, v, h4, h5, ho⟩
          refine thenE_normal ?_
          (repeat refine Sx.seq ?_); refine Sx.ret ?_
          (repeat first | refine thenE_ret ?_ | refine blockE_ret ?_ | refine scopeE_ret ?_)
          refine endE_ret [v, .int .i64 0] ⟨h4, h5, trivial⟩ ⟨hx, v, ?_, ?_⟩
          · rw [hadd]; rfl
          · rw [hadd]; exact ho
    · (repeat refine Sx.seq ?_)
      refine Sx.textR ?_
      refine Ox.act rfl rfl (acts_box rfl rfl) ?_
      rintro vbx wbx ⟨ebx, bbx, rfl, hbbx, hBbx⟩
      first | (have hCbx : Cells wbx ⟨bbx, 0, none⟩ [_, _, _, _, _, _, _, _] := hBbx.cells) | have hCbx := Blk.cellsL hBbx
      have hlbx := hBbx.lt
      have hzbx := ebx.size
      refine Ox.pure rfl rfl (rp_assign rfl rfl) ?_
      refine Ox.pure rfl rfl (rp_assign rfl rfl) ?_
      refine Ox.nil ?_
      (repeat first | refine thenE_normal ?_ | refine blockE_normal ?_ | refine scopeE_normal ?_)
      (repeat refine Sx.seq ?_)
      refine Sx.textR ?_
      refine Ox.pure rfl rfl (rp_move rfl rfl) ?_
      refine Ox.act rfl rfl (acts_call rfl rfl rfl (ref_Check l p A c _ (hs.ext0 (by (repeat first | exact .refl _ _ | assumption | refine .trans ?_ (by assumption)); first | done | fail)))) ?_
      rintro v20 w20 ⟨e20, rfl⟩
      have hz20 := e20.size
      refine Ox.pure rfl rfl (rp_assign rfl rfl) ?_
      refine Ox.nil ?_
      (repeat first | refine thenE_normal ?_ | refine blockE_normal ?_ | refine scopeE_normal ?_)
      (repeat refine Sx.seq ?_)
      refine Sx.textR ?_
      refine Ox.pure rfl rfl (rp_move rfl rfl) ?_
      refine Ox.pure rfl rfl (by first | exact rp_bin rfl rfl rfl (binI_t (by omega)) | exact rp_bin rfl rfl rfl (binI_f (by omega)) | exact rp_bin rfl rfl rfl rfl) ?_
      refine Ox.nil ?_
      (repeat first | refine thenE_normal ?_ | refine blockE_normal ?_ | refine scopeE_normal ?_)
      (repeat refine Sx.seq ?_); first | refine Sx.cond_false rfl ?_ | refine Sx.cond rfl (fun h => absurd h (by simp [*])) (fun _ => ?_)
      (repeat refine Sx.seq ?_); refine Sx.skip ?_
      (repeat first | refine thenE_normal ?_ | refine blockE_normal ?_ | refine scopeE_normal ?_)
      (repeat refine Sx.seq ?_)
      refine Sx.textR ?_
      refine Ox.val rfl rfl (rv_load rfl rfl (by (intro u hu; first | exact Cells.lA (by assumption) (by (repeat first | exact .refl _ _ | assumption | refine .trans ?_ (by assumption)); first | done | fail) rfl rfl | exact Cells.lL (by assumption) (by (repeat first | exact .refl _ _ | assumption | refine .trans ?_ (by assumption)); first | done | fail) rfl rfl (by assumption) | exact Cells.lP (by assumption) (by (repeat first | exact .refl _ _ | assumption | refine .trans ?_ (by assumption)); first | done | fail) _ rfl rfl rfl rfl | exact Cells.lP (by assumption) (by (repeat first | exact .refl _ _ | assumption | refine .trans ?_ (by assumption)); first | done | fail) _ rfl rfl (by assumption) (by assumption)))) ?_
      refine Ox.act rfl rfl (acts_call rfl rfl rfl (ref_Valid f _)) ?_
      rintro v21 w21 ⟨e21, rfl⟩
      have hz21 := e21.size
      rw [decide_eq_false hv]
      refine Ox.pure rfl rfl (rp_not rfl rfl) ?_
      refine Ox.nil ?_
      (repeat first | refine thenE_normal ?_ | refine blockE_normal ?_ | refine scopeE_normal ?_)
      (repeat refine Sx.seq ?_); first | refine Sx.cond_true rfl ?_ | refine Sx.cond rfl (fun _ => ?_) (fun h => absurd h (by simp [*]))
      (repeat refine Sx.seq ?_)
      refine Sx.textR ?_
      refine Ox.pure rfl rfl (rp_assign rfl rfl) ?_
      refine Ox.pure rfl rfl (rp_assign rfl rfl) ?_
      refine Ox.nil ?_
      (repeat first | refine thenE_normal ?_ | refine blockE_normal ?_ | refine scopeE_normal ?_)
      (repeat refine Sx.seq ?_); refine Sx.ret ?_
      (repeat first | refine thenE_ret ?_ | refine blockE_ret ?_ | refine scopeE_ret ?_)
      exact endE_ret [_, _] ⟨rfl, rfl, trivial⟩ ⟨by (repeat first | exact .refl _ _ | assumption | refine .trans ?_ (by assumption)); first | done | fail, nilS, by simp [addL, h0, hv, resV], by simp [addL, h0, hv]; exact World.ownsRow_nil _ _ _ _⟩
  · (repeat refine Sx.seq ?_)
    refine Sx.textR ?_
    refine Ox.act rfl rfl (acts_box rfl rfl) ?_
    rintro vbx wbx ⟨ebx, bbx, rfl, hbbx, hBbx⟩
    first | (have hCbx : Cells wbx ⟨bbx, 0, none⟩ [_, _, _, _, _, _, _, _] := hBbx.cells) | have hCbx := Blk.cellsL hBbx
    have hlbx := hBbx.lt
    have hzbx := ebx.size
    refine Ox.pure rfl rfl (rp_assign rfl rfl) ?_
    refine Ox.pure rfl rfl (rp_assign rfl rfl) ?_
    refine Ox.nil ?_
    (repeat first | refine thenE_normal ?_ | refine blockE_normal ?_ | refine scopeE_normal ?_)
    (repeat refine Sx.seq ?_)
    refine Sx.textR ?_
    refine Ox.pure rfl rfl (rp_move rfl rfl) ?_
    refine Ox.act rfl rfl (acts_call rfl rfl rfl (ref_Check l p A c _ (hs.ext0 (by (repeat first | exact .refl _ _ | assumption | refine .trans ?_ (by assumption)); first | done | fail)))) ?_
    rintro v22 w22 ⟨e22, rfl⟩
    have hz22 := e22.size
    refine Ox.pure rfl rfl (rp_assign rfl rfl) ?_
    refine Ox.nil ?_
    (repeat first | refine thenE_normal ?_ | refine blockE_normal ?_ | refine scopeE_normal ?_)
    (repeat refine Sx.seq ?_)
    refine Sx.textR ?_
    refine Ox.pure rfl rfl (rp_move rfl rfl) ?_
    refine Ox.pure rfl rfl (by first | exact rp_bin rfl rfl rfl (binI_t (by omega)) | exact rp_bin rfl rfl rfl (binI_f (by omega)) | exact rp_bin rfl rfl rfl rfl) ?_
    refine Ox.nil ?_
    (repeat first | refine thenE_normal ?_ | refine blockE_normal ?_ | refine scopeE_normal ?_)
    (repeat refine Sx.seq ?_); first | refine Sx.cond_true rfl ?_ | refine Sx.cond rfl (fun _ => ?_) (fun h => absurd h (by simp [*]))
    (repeat refine Sx.seq ?_)
    refine Sx.textR ?_
    refine Ox.pure rfl rfl (rp_move rfl rfl) ?_
    refine Ox.pure rfl rfl (rp_assign rfl rfl) ?_
    refine Ox.pure rfl rfl (rp_assign rfl rfl) ?_
    refine Ox.nil ?_
    (repeat first | refine thenE_normal ?_ | refine blockE_normal ?_ | refine scopeE_normal ?_)
    (repeat refine Sx.seq ?_); refine Sx.ret ?_
    (repeat first | refine thenE_ret ?_ | refine blockE_ret ?_ | refine scopeE_ret ?_)
    exact endE_ret [_, _] ⟨rfl, rfl, trivial⟩ ⟨by (repeat first | exact .refl _ _ | assumption | refine .trans ?_ (by assumption)); first | done | fail, nilS, by simp [addL, h0, resV], by simp [addL, h0]; exact World.ownsRow_nil _ _ _ _⟩

end Go.Proofs.Ytfnekbnlokigcaa
