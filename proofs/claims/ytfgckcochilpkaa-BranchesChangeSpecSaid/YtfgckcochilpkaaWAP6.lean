/- Texts of one proof, put together: BranM, BranP, BranZ. -/
import Derived.Test.YtfgckcochilpkaaRows
import Derived.Test.YtfgckcochilpkaaWAP5
/- Branches' walks: a branch is merged. -/
set_option linter.unusedVariables false
set_option maxRecDepth 100000
set_option maxHeartbeats 4000000
set_option linter.unusedSimpArgs false
namespace Go.Proofs.Ytfgckcochilpkaa
open Go Go.Eng

def RMrg (base : Nat) (w : World) (r : Value) (x : Br × List Ky × Int) : Prop := ∃ (v : Value) (p : Option Addr) (A : Addr) (c : Nat), r = .tuple #[v, .slice p x.2.1.length c, .int .i64 x.2.2] ∧ RBr base w v x.1 ∧ SlV kc w p A x.2.1 c
theorem RMrg.fail (base : Nat) (w : World) (e : Int) : RMrg base w (.tuple #[.agg (bvc Bs0).toArray, .slice none 0 0, .int .i64 e]) (Br0, [], e) := ⟨_, none, ⟨0, 0, none⟩, 0, rfl, RBr.zero base w, SlV.nil _ _⟩

theorem fc_off {w : World} {p : Option Addr} {A : Addr} {l : List Fct} {c b : Nat} {t : TypeId} {s0 : Bs} (h : SlV fc w p A l c) (hB : Blk w b t (bvc s0)) (hl : 0 < l.length) : A.block ≠ b := by
  intro he
  cases l with
  | nil => exact absurd hl (by simp)
  | cons f l =>
    have h1 := h.row 0 (.int .i64 f.key.k) rfl
    rw [show A.add 0 = A by simp [Addr.add]] at h1
    unfold World.cell? at h1
    unfold Blk at hB
    rw [he, hB] at h1
    simp only at h1
    split at h1
    · cases h1
    · have h2 := List.mem_of_getElem? (by simpa using h1 : (bvc s0)[A.off]? = some (.int .i64 f.key.k))
      simp only [List.mem_cons, List.not_mem_nil, or_false] at h2
      rcases h2 with h2 | h2 | h2 | h2 | h2 <;> cases h2
theorem fc_keep {w w' : World} {X : List Nat} {p : Option Addr} {A : Addr} {l : List Fct} {c : Nat} (h : SlV fc w p A l c) (he : Ext X w w') (hx : 0 < l.length → A.block ∉ X) : SlV fc w' p A l c := by
  rcases Nat.eq_zero_or_pos l.length with h0 | h0
  · obtain rfl := List.eq_nil_of_length_eq_zero h0
    exact ⟨fun h => absurd h (by simp), cells_nil _ _, h.le, h.small, h.few⟩
  · exact h.ext he (hx h0)

theorem merge_br (s : Bs) (hsm : Small s) (hfw : Few s) (no : Int) (w : World) (hin : BsIn s w) :
    Calls Try.prog 22 #[.agg (bvc s).toArray, .int .i64 no] w (Ret fun r w' => Ext [] w w' ∧ RMrg w.heap.size w' r (mergeB s.br no)) := by
  have hbl := br_len s
  have hbp := hin.bls.ptr
  have hbr := hin.bls.row
  have hpp := hin.par.ptr
  have hpr := hin.par.row
  refine calls_of_Sx (args := [.agg (bvc s).toArray, .int .i64 no]) Try.func22 rfl rfl ?_
  by_cases hv : ValidB s.br; rotate_left
  · have he : mergeB s.br no = (Br0, [], 540) := if_pos hv
    refine ztx ?_
    refine Ox.act rfl rfl (acts_box rfl rfl) ?_
    rintro vb2 wb2 ⟨eb2, bb2, rfl, hbb2, hBb2⟩
    first | (have hCb2 : Cells wb2 ⟨bb2, 0, none⟩ [_, _, _, _, _] := hBb2.cells) | have hCb2 := Blk.cellsL hBb2
    have hlb2 := hBb2.lt
    have hzb2 := eb2.size
    refine Ox.act rfl rfl (acts_alloc rfl rfl) ?_
    rintro vb4 wb4 ⟨eb4, bb4, rfl, hbb4, hBb4⟩
    first | (have hCb4 : Cells wb4 ⟨bb4, 0, none⟩ [_, _, _, _, _] := hBb4.cells) | have hCb4 := Blk.cellsL hBb4
    have hlb4 := hBb4.lt
    have hzb4 := eb4.size
    refine Ox.pure rfl rfl zas ?_
    refine Ox.pure rfl rfl zas ?_
    refine Ox.fin ?_
    refine ztx ?_
    refine Ox.val rfl rfl zra ?_
    refine Ox.act rfl rfl (acts_call rfl rfl rfl (valid_br s hsm _ (hin.ext0 zxc))) ?_
    rintro vv1 wv1 ⟨ev1, rfl⟩
    have hzv1 := ev1.size
    first | rw [decide_eq_true hv] | rw [decide_eq_false hv]
    refine Ox.pure rfl rfl (rp_not rfl rfl) ?_
    refine Ox.fin ?_
    refine zct ?_
    refine ztx ?_
    refine Ox.val rfl rfl zra ?_
    refine Ox.act rfl rfl (acts_store_all rfl rfl rfl (hBb4.ext (X := []) zxc (by simp)) rfl rfl rfl (bvc_one Bs0)) ?_
    rintro vs2 ws2 ⟨rfl, qs2, hBs2⟩
    have es2 : Ext [] w ws2 := Ext.renew zxc qs2 (by omega)
    refine Ox.pure rfl rfl zas ?_
    refine Ox.pure rfl rfl zas ?_
    refine Ox.fin ?_
    refine zrt ?_
    exact endE_ret [.agg (bvc Bs0).toArray, .slice none 0 0, .int .i64 540] ⟨⟨⟨bb4, 0, none⟩, rfl, hBs2.cellsL.ldA rfl rfl⟩, rfl, rfl, trivial⟩ ⟨zxc, by rw [he]; exact RMrg.fail _ _ _⟩
  have hdl : s.done.length = s.bls.length := by have : s.done.length = s.br.brs.length := hv.1.2.2.2.1; omega
  have hLp : ∀ u, Ext [] w u → ∀ h : no.toNat < s.par.length, Ld Try.prog u 3 (s.A2.add (no.toNat * 1 + 0)) (.int .i64 (parB s.br no.toNat)) := fun u hu h => by
    rw [parB_eq h]; exact ld_field ic_len (hpr.ext0 hu) h 0 rfl (by decide) rfl
  by_cases ho : OpenB s.br no; rotate_left
  · have he : mergeB s.br no = (Br0, [], 1) := (if_neg (fun h => h hv)).trans (if_pos (.inl ho))
    refine ztx ?_
    refine Ox.act rfl rfl (acts_box rfl rfl) ?_
    rintro vb2 wb2 ⟨eb2, bb2, rfl, hbb2, hBb2⟩
    first | (have hCb2 : Cells wb2 ⟨bb2, 0, none⟩ [_, _, _, _, _] := hBb2.cells) | have hCb2 := Blk.cellsL hBb2
    have hlb2 := hBb2.lt
    have hzb2 := eb2.size
    refine Ox.act rfl rfl (acts_alloc rfl rfl) ?_
    rintro vb4 wb4 ⟨eb4, bb4, rfl, hbb4, hBb4⟩
    first | (have hCb4 : Cells wb4 ⟨bb4, 0, none⟩ [_, _, _, _, _] := hBb4.cells) | have hCb4 := Blk.cellsL hBb4
    have hlb4 := hBb4.lt
    have hzb4 := eb4.size
    refine Ox.pure rfl rfl zas ?_
    refine Ox.pure rfl rfl zas ?_
    refine Ox.fin ?_
    refine ztx ?_
    refine Ox.val rfl rfl zra ?_
    refine Ox.act rfl rfl (acts_call rfl rfl rfl (valid_br s hsm _ (hin.ext0 zxc))) ?_
    rintro vv1 wv1 ⟨ev1, rfl⟩
    have hzv1 := ev1.size
    first | rw [decide_eq_true hv] | rw [decide_eq_false hv]
    refine Ox.pure rfl rfl (rp_not rfl rfl) ?_
    refine Ox.fin ?_
    refine zcf ?_
    refine zsk ?_
    (repeat refine Sx.seq ?_)
    refine Sx.walkR rfl (fun _ _ _ _ h => h) [0, 1, 2, 3, 4, 5, 6, 7, 8, 9, 10, 11, 12, 13, 14, 15, 16, 17, 18, 19, 20, 21] [0, 1, 3, 4, 5, 6, 7, 8, 9, 10, 11, 12, 13, 14, 15, 16, 17, 19, 20, 21] (0) (by kernel_rfl) ?_
    intro hq w1 e1; have hz1 := e1.size
    refine Wx.val hq rfl rfl rfl rfl ([]) zra ?_
    refine Wx.pure hq rfl rfl rfl rfl zmv ?_
    refine Wx.actNew rfl rfl rfl rfl (acts_call rfl rfl rfl (open_at_p s no _ (hin.ext0 zxc) hdl)) ?_
    rintro v2 w2 e2 rfl
    have hz2 := e2.size
    first | rw [decide_eq_true ho] | rw [decide_eq_false ho]
    refine Wx.pure hq rfl rfl rfl rfl (rp_not rfl rfl) ?_
    refine Wx.pure hq rfl rfl rfl rfl zmv ?_
    first | (refine Wx.skip hq rfl rfl rfl rfl ?_) | (refine Wx.pure hq rfl rfl rfl rfl zfa ?_)
    first | (refine Wx.skip hq rfl rfl rfl rfl ?_) | (refine Wx.val hq rfl rfl rfl rfl ([]) zrs ?_)
    first | (refine Wx.skip hq rfl rfl rfl rfl ?_) | (refine Wx.pure hq rfl rfl rfl rfl zmv ?_)
    first | (refine Wx.skip hq rfl rfl rfl rfl ?_) | (refine Wx.pure hq rfl rfl rfl rfl (rp_indexAddr no.toNat rfl rfl rfl rfl rfl hpp (by omega) hip) ?_)
    first | (refine Wx.skip hq rfl rfl rfl rfl ?_) | (refine Wx.val hq rfl rfl rfl rfl ([]) (rv_load rfl rfl (fun u hu => hLp u zxc hip)) ?_)
    first | (refine Wx.skip hq rfl rfl rfl rfl ?_) | (refine Wx.pure hq rfl rfl rfl rfl zbc ?_)
    first | (refine Wx.skip hq rfl rfl rfl rfl ?_) | (refine Wx.pure hq rfl rfl rfl rfl zmv ?_)
    first | (refine Wx.skip hq rfl rfl rfl rfl ?_) | (refine Wx.val hq rfl rfl rfl rfl ([]) zra ?_)
    first | (refine Wx.skip hq rfl rfl rfl rfl ?_) | (refine Wx.pure hq rfl rfl rfl rfl zfa ?_)
    first | (refine Wx.skip hq rfl rfl rfl rfl ?_) | (refine Wx.val hq rfl rfl rfl rfl ([]) zrs ?_)
    first | (refine Wx.skip hq rfl rfl rfl rfl ?_) | (refine Wx.pure hq rfl rfl rfl rfl zmv ?_)
    first | (refine Wx.skip hq rfl rfl rfl rfl ?_) | (refine Wx.pure hq rfl rfl rfl rfl (rp_indexAddr no.toNat rfl rfl rfl rfl rfl hpp (by omega) hip) ?_)
    first | (refine Wx.skip hq rfl rfl rfl rfl ?_) | (refine Wx.val hq rfl rfl rfl rfl ([]) (rv_load rfl rfl (fun u hu => hLp u zxc hip)) ?_)
    first | (refine Wx.actSkip rfl rfl rfl rfl ?_) | (refine Wx.actNew rfl rfl rfl rfl (acts_call rfl rfl rfl (open_at_p s (parB s.br no.toNat) _ (hin.ext0 zxc) hdl)) ?_; rintro v3 w3 e3 rfl; have hz3 := e3.size; first | rw [decide_eq_true hop] | rw [decide_eq_false hop])
    first | (refine Wx.skip hq rfl rfl rfl rfl ?_) | (refine Wx.pure hq rfl rfl rfl rfl (rp_not rfl rfl) ?_)
    first | (refine Wx.skip hq rfl rfl rfl rfl ?_) | (refine Wx.pure hq rfl rfl rfl rfl zpk ?_)
    refine Wx.pure hq rfl rfl rfl rfl zpk ?_
    refine Wx.fin ?_
    refine zct ?_
    refine ztx ?_
    refine Ox.val rfl rfl zra ?_
    refine Ox.act rfl rfl (acts_store_all rfl rfl rfl (hBb4.ext (X := []) zxc (by simp)) rfl rfl rfl (bvc_one Bs0)) ?_
    rintro vs4 ws4 ⟨rfl, qs4, hBs4⟩
    have es4 : Ext [] w ws4 := Ext.renew zxc qs4 (by omega)
    refine Ox.pure rfl rfl zas ?_
    refine Ox.pure rfl rfl zas ?_
    refine Ox.fin ?_
    refine zrt ?_
    exact endE_ret [.agg (bvc Bs0).toArray, .slice none 0 0, .int .i64 1] ⟨⟨⟨bb4, 0, none⟩, rfl, hBs4.cellsL.ldA rfl rfl⟩, rfl, rfl, trivial⟩ ⟨zxc, by rw [he]; exact RMrg.fail _ _ _⟩
  obtain ⟨o1, o2, _⟩ := id ho
  obtain ⟨v1, v2, v3, v4, v5⟩ := id hv.1
  have hip : no.toNat < s.par.length := by have : s.par.length = s.br.brs.length := v2; omega
  have hib : no.toNat < s.bls.length := by omega
  obtain ⟨⟨g1, g2⟩, g3, g4⟩ := v5 no.toNat (by omega)
  by_cases hp : parB s.br no.toNat ≠ -1 ∧ ¬ OpenB s.br (parB s.br no.toNat)
  · have hm := hp.1
    have hop := hp.2
    have he : mergeB s.br no = (Br0, [], 1) := (if_neg (fun h => h hv)).trans (if_pos (.inr hp))
    refine ztx ?_
    refine Ox.act rfl rfl (acts_box rfl rfl) ?_
    rintro vb2 wb2 ⟨eb2, bb2, rfl, hbb2, hBb2⟩
    first | (have hCb2 : Cells wb2 ⟨bb2, 0, none⟩ [_, _, _, _, _] := hBb2.cells) | have hCb2 := Blk.cellsL hBb2
    have hlb2 := hBb2.lt
    have hzb2 := eb2.size
    refine Ox.act rfl rfl (acts_alloc rfl rfl) ?_
    rintro vb4 wb4 ⟨eb4, bb4, rfl, hbb4, hBb4⟩
    first | (have hCb4 : Cells wb4 ⟨bb4, 0, none⟩ [_, _, _, _, _] := hBb4.cells) | have hCb4 := Blk.cellsL hBb4
    have hlb4 := hBb4.lt
    have hzb4 := eb4.size
    refine Ox.pure rfl rfl zas ?_
    refine Ox.pure rfl rfl zas ?_
    refine Ox.fin ?_
    refine ztx ?_
    refine Ox.val rfl rfl zra ?_
    refine Ox.act rfl rfl (acts_call rfl rfl rfl (valid_br s hsm _ (hin.ext0 zxc))) ?_
    rintro vv1 wv1 ⟨ev1, rfl⟩
    have hzv1 := ev1.size
    first | rw [decide_eq_true hv] | rw [decide_eq_false hv]
    refine Ox.pure rfl rfl (rp_not rfl rfl) ?_
    refine Ox.fin ?_
    refine zcf ?_
    refine zsk ?_
    (repeat refine Sx.seq ?_)
    refine Sx.walkR rfl (fun _ _ _ _ h => h) [0, 1, 2, 3, 4, 5, 6, 7, 8, 9, 10, 11, 12, 13, 14, 15, 16, 17, 18, 19, 20, 21] [0, 1, 3, 4, 5, 6, 7, 8, 9, 10, 11, 12, 13, 14, 15, 16, 17, 19, 20, 21] (0) (by kernel_rfl) ?_
    intro hq w4 e4; have hz4 := e4.size
    refine Wx.val hq rfl rfl rfl rfl ([]) zra ?_
    refine Wx.pure hq rfl rfl rfl rfl zmv ?_
    refine Wx.actNew rfl rfl rfl rfl (acts_call rfl rfl rfl (open_at_p s no _ (hin.ext0 zxc) hdl)) ?_
    rintro v5 w5 e5 rfl
    have hz5 := e5.size
    first | rw [decide_eq_true ho] | rw [decide_eq_false ho]
    refine Wx.pure hq rfl rfl rfl rfl (rp_not rfl rfl) ?_
    refine Wx.pure hq rfl rfl rfl rfl zmv ?_
    first | (refine Wx.skip hq rfl rfl rfl rfl ?_) | (refine Wx.pure hq rfl rfl rfl rfl zfa ?_)
    first | (refine Wx.skip hq rfl rfl rfl rfl ?_) | (refine Wx.val hq rfl rfl rfl rfl ([]) zrs ?_)
    first | (refine Wx.skip hq rfl rfl rfl rfl ?_) | (refine Wx.pure hq rfl rfl rfl rfl zmv ?_)
    first | (refine Wx.skip hq rfl rfl rfl rfl ?_) | (refine Wx.pure hq rfl rfl rfl rfl (rp_indexAddr no.toNat rfl rfl rfl rfl rfl hpp (by omega) hip) ?_)
    first | (refine Wx.skip hq rfl rfl rfl rfl ?_) | (refine Wx.val hq rfl rfl rfl rfl ([]) (rv_load rfl rfl (fun u hu => hLp u zxc hip)) ?_)
    first | (refine Wx.skip hq rfl rfl rfl rfl ?_) | (refine Wx.pure hq rfl rfl rfl rfl zbc ?_)
    first | (refine Wx.skip hq rfl rfl rfl rfl ?_) | (refine Wx.pure hq rfl rfl rfl rfl zmv ?_)
    first | (refine Wx.skip hq rfl rfl rfl rfl ?_) | (refine Wx.val hq rfl rfl rfl rfl ([]) zra ?_)
    first | (refine Wx.skip hq rfl rfl rfl rfl ?_) | (refine Wx.pure hq rfl rfl rfl rfl zfa ?_)
    first | (refine Wx.skip hq rfl rfl rfl rfl ?_) | (refine Wx.val hq rfl rfl rfl rfl ([]) zrs ?_)
    first | (refine Wx.skip hq rfl rfl rfl rfl ?_) | (refine Wx.pure hq rfl rfl rfl rfl zmv ?_)
    first | (refine Wx.skip hq rfl rfl rfl rfl ?_) | (refine Wx.pure hq rfl rfl rfl rfl (rp_indexAddr no.toNat rfl rfl rfl rfl rfl hpp (by omega) hip) ?_)
    first | (refine Wx.skip hq rfl rfl rfl rfl ?_) | (refine Wx.val hq rfl rfl rfl rfl ([]) (rv_load rfl rfl (fun u hu => hLp u zxc hip)) ?_)
    first | (refine Wx.actSkip rfl rfl rfl rfl ?_) | (refine Wx.actNew rfl rfl rfl rfl (acts_call rfl rfl rfl (open_at_p s (parB s.br no.toNat) _ (hin.ext0 zxc) hdl)) ?_; rintro v6 w6 e6 rfl; have hz6 := e6.size; first | rw [decide_eq_true hop] | rw [decide_eq_false hop])
    first | (refine Wx.skip hq rfl rfl rfl rfl ?_) | (refine Wx.pure hq rfl rfl rfl rfl (rp_not rfl rfl) ?_)
    first | (refine Wx.skip hq rfl rfl rfl rfl ?_) | (refine Wx.pure hq rfl rfl rfl rfl zpk ?_)
    refine Wx.pure hq rfl rfl rfl rfl zpk ?_
    refine Wx.fin ?_
    refine zct ?_
    refine ztx ?_
    refine Ox.val rfl rfl zra ?_
    refine Ox.act rfl rfl (acts_store_all rfl rfl rfl (hBb4.ext (X := []) zxc (by simp)) rfl rfl rfl (bvc_one Bs0)) ?_
    rintro vs4 ws4 ⟨rfl, qs4, hBs4⟩
    have es4 : Ext [] w ws4 := Ext.renew zxc qs4 (by omega)
    refine Ox.pure rfl rfl zas ?_
    refine Ox.pure rfl rfl zas ?_
    refine Ox.fin ?_
    refine zrt ?_
    exact endE_ret [.agg (bvc Bs0).toArray, .slice none 0 0, .int .i64 1] ⟨⟨⟨bb4, 0, none⟩, rfl, hBs4.cellsL.ldA rfl rfl⟩, rfl, rfl, trivial⟩ ⟨zxc, by rw [he]; exact RMrg.fail _ _ _⟩
  have he0 : mergeB s.br no = if 0 < (confB s.br no.toNat).length then (Br0, confB s.br no.toNat, 541) else if (recL (ofB s.br (parB s.br no.toNat)).1 (brB s.br no.toNat)).2 ≠ 0 then (Br0, [], (recL (ofB s.br (parB s.br no.toNat)).1 (brB s.br no.toNat)).2)
      else if parB s.br no.toNat < 0 then (⟨(recL (ofB s.br (parB s.br no.toNat)).1 (brB s.br no.toNat)).1, s.br.brs, s.br.par, s.br.fks, s.br.done.set no.toNat true⟩, [], 0)
      else (⟨s.br.base, s.br.brs.set (parB s.br no.toNat).toNat (brB s.br (parB s.br no.toNat).toNat ++ brB s.br no.toNat), s.br.par, s.br.fks, s.br.done.set no.toNat true⟩, [], 0) := (if_neg (fun h => h hv)).trans (if_neg (by rintro (h | h); exact h ho; exact hp h))
  refine ztx ?_
  refine Ox.act rfl rfl (acts_box rfl rfl) ?_
  rintro vb2 wb2 ⟨eb2, bb2, rfl, hbb2, hBb2⟩
  first | (have hCb2 : Cells wb2 ⟨bb2, 0, none⟩ [_, _, _, _, _] := hBb2.cells) | have hCb2 := Blk.cellsL hBb2
  have hlb2 := hBb2.lt
  have hzb2 := eb2.size
  refine Ox.act rfl rfl (acts_alloc rfl rfl) ?_
  rintro vb4 wb4 ⟨eb4, bb4, rfl, hbb4, hBb4⟩
  first | (have hCb4 : Cells wb4 ⟨bb4, 0, none⟩ [_, _, _, _, _] := hBb4.cells) | have hCb4 := Blk.cellsL hBb4
  have hlb4 := hBb4.lt
  have hzb4 := eb4.size
  refine Ox.pure rfl rfl zas ?_
  refine Ox.pure rfl rfl zas ?_
  refine Ox.fin ?_
  refine ztx ?_
  refine Ox.val rfl rfl zra ?_
  refine Ox.act rfl rfl (acts_call rfl rfl rfl (valid_br s hsm _ (hin.ext0 zxc))) ?_
  rintro vv1 wv1 ⟨ev1, rfl⟩
  have hzv1 := ev1.size
  first | rw [decide_eq_true hv] | rw [decide_eq_false hv]
  refine Ox.pure rfl rfl (rp_not rfl rfl) ?_
  refine Ox.fin ?_
  refine zcf ?_
  refine zsk ?_
  refine Sx.seq (Sx.upto (fun E' w' => (∀ t u, get [(1, .int .i64 no), (2, .pointer (some ⟨bb2, 0, none⟩)), (4, .pointer (some ⟨bb4, 0, none⟩))] t = some u → get E' t = some u) ∧ Ext [] wv1 w') ?_ ?_)
  · by_cases hm : parB s.br no.toNat = -1
    · (repeat refine Sx.seq ?_)
      refine Sx.walkR rfl (fun _ _ _ _ h => h) [0, 1, 2, 3, 4, 5, 6, 7, 8, 9, 10, 11, 12, 13, 14, 15, 16, 17, 18, 19, 20, 21] [0, 1, 3, 4, 5, 6, 7, 8, 9, 10, 11, 12, 13, 14, 15, 16, 17, 19, 20, 21] (0) (by kernel_rfl) ?_
      intro hq w7 e7; have hz7 := e7.size
      refine Wx.val hq rfl rfl rfl rfl ([]) zra ?_
      refine Wx.pure hq rfl rfl rfl rfl zmv ?_
      refine Wx.actNew rfl rfl rfl rfl (acts_call rfl rfl rfl (open_at_p s no _ (hin.ext0 zxc) hdl)) ?_
      rintro v8 w8 e8 rfl
      have hz8 := e8.size
      first | rw [decide_eq_true ho] | rw [decide_eq_false ho]
      refine Wx.pure hq rfl rfl rfl rfl (rp_not rfl rfl) ?_
      refine Wx.pure hq rfl rfl rfl rfl zmv ?_
      first | (refine Wx.skip hq rfl rfl rfl rfl ?_) | (refine Wx.pure hq rfl rfl rfl rfl zfa ?_)
      first | (refine Wx.skip hq rfl rfl rfl rfl ?_) | (refine Wx.val hq rfl rfl rfl rfl ([]) zrs ?_)
      first | (refine Wx.skip hq rfl rfl rfl rfl ?_) | (refine Wx.pure hq rfl rfl rfl rfl zmv ?_)
      first | (refine Wx.skip hq rfl rfl rfl rfl ?_) | (refine Wx.pure hq rfl rfl rfl rfl (rp_indexAddr no.toNat rfl rfl rfl rfl rfl hpp (by omega) hip) ?_)
      first | (refine Wx.skip hq rfl rfl rfl rfl ?_) | (refine Wx.val hq rfl rfl rfl rfl ([]) (rv_load rfl rfl (fun u hu => hLp u zxc hip)) ?_)
      first | (refine Wx.skip hq rfl rfl rfl rfl ?_) | (refine Wx.pure hq rfl rfl rfl rfl zbc ?_)
      first | (refine Wx.skip hq rfl rfl rfl rfl ?_) | (refine Wx.pure hq rfl rfl rfl rfl zmv ?_)
      first | (refine Wx.skip hq rfl rfl rfl rfl ?_) | (refine Wx.val hq rfl rfl rfl rfl ([]) zra ?_)
      first | (refine Wx.skip hq rfl rfl rfl rfl ?_) | (refine Wx.pure hq rfl rfl rfl rfl zfa ?_)
      first | (refine Wx.skip hq rfl rfl rfl rfl ?_) | (refine Wx.val hq rfl rfl rfl rfl ([]) zrs ?_)
      first | (refine Wx.skip hq rfl rfl rfl rfl ?_) | (refine Wx.pure hq rfl rfl rfl rfl zmv ?_)
      first | (refine Wx.skip hq rfl rfl rfl rfl ?_) | (refine Wx.pure hq rfl rfl rfl rfl (rp_indexAddr no.toNat rfl rfl rfl rfl rfl hpp (by omega) hip) ?_)
      first | (refine Wx.skip hq rfl rfl rfl rfl ?_) | (refine Wx.val hq rfl rfl rfl rfl ([]) (rv_load rfl rfl (fun u hu => hLp u zxc hip)) ?_)
      first | (refine Wx.actSkip rfl rfl rfl rfl ?_) | (refine Wx.actNew rfl rfl rfl rfl (acts_call rfl rfl rfl (open_at_p s (parB s.br no.toNat) _ (hin.ext0 zxc) hdl)) ?_; rintro v9 w9 e9 rfl; have hz9 := e9.size; first | rw [decide_eq_true hop] | rw [decide_eq_false hop])
      first | (refine Wx.skip hq rfl rfl rfl rfl ?_) | (refine Wx.pure hq rfl rfl rfl rfl (rp_not rfl rfl) ?_)
      first | (refine Wx.skip hq rfl rfl rfl rfl ?_) | (refine Wx.pure hq rfl rfl rfl rfl zpk ?_)
      refine Wx.pure hq rfl rfl rfl rfl zpk ?_
      refine Wx.fin ?_
      refine zcf ?_
      refine zsk ?_
      exact ⟨sub_cons rfl (sub_cons rfl (sub_cons rfl sub_nil)), zxc⟩
    · have hop : OpenB s.br (parB s.br no.toNat) := Classical.byContradiction fun h => hp ⟨hm, h⟩
      (repeat refine Sx.seq ?_)
      refine Sx.walkR rfl (fun _ _ _ _ h => h) [0, 1, 2, 3, 4, 5, 6, 7, 8, 9, 10, 11, 12, 13, 14, 15, 16, 17, 18, 19, 20, 21] [0, 1, 3, 4, 5, 6, 7, 8, 9, 10, 11, 12, 13, 14, 15, 16, 17, 19, 20, 21] (0) (by kernel_rfl) ?_
      intro hq w10 e10; have hz10 := e10.size
      refine Wx.val hq rfl rfl rfl rfl ([]) zra ?_
      refine Wx.pure hq rfl rfl rfl rfl zmv ?_
      refine Wx.actNew rfl rfl rfl rfl (acts_call rfl rfl rfl (open_at_p s no _ (hin.ext0 zxc) hdl)) ?_
      rintro v11 w11 e11 rfl
      have hz11 := e11.size
      first | rw [decide_eq_true ho] | rw [decide_eq_false ho]
      refine Wx.pure hq rfl rfl rfl rfl (rp_not rfl rfl) ?_
      refine Wx.pure hq rfl rfl rfl rfl zmv ?_
      first | (refine Wx.skip hq rfl rfl rfl rfl ?_) | (refine Wx.pure hq rfl rfl rfl rfl zfa ?_)
      first | (refine Wx.skip hq rfl rfl rfl rfl ?_) | (refine Wx.val hq rfl rfl rfl rfl ([]) zrs ?_)
      first | (refine Wx.skip hq rfl rfl rfl rfl ?_) | (refine Wx.pure hq rfl rfl rfl rfl zmv ?_)
      first | (refine Wx.skip hq rfl rfl rfl rfl ?_) | (refine Wx.pure hq rfl rfl rfl rfl (rp_indexAddr no.toNat rfl rfl rfl rfl rfl hpp (by omega) hip) ?_)
      first | (refine Wx.skip hq rfl rfl rfl rfl ?_) | (refine Wx.val hq rfl rfl rfl rfl ([]) (rv_load rfl rfl (fun u hu => hLp u zxc hip)) ?_)
      first | (refine Wx.skip hq rfl rfl rfl rfl ?_) | (refine Wx.pure hq rfl rfl rfl rfl zbc ?_)
      first | (refine Wx.skip hq rfl rfl rfl rfl ?_) | (refine Wx.pure hq rfl rfl rfl rfl zmv ?_)
      first | (refine Wx.skip hq rfl rfl rfl rfl ?_) | (refine Wx.val hq rfl rfl rfl rfl ([]) zra ?_)
      first | (refine Wx.skip hq rfl rfl rfl rfl ?_) | (refine Wx.pure hq rfl rfl rfl rfl zfa ?_)
      first | (refine Wx.skip hq rfl rfl rfl rfl ?_) | (refine Wx.val hq rfl rfl rfl rfl ([]) zrs ?_)
      first | (refine Wx.skip hq rfl rfl rfl rfl ?_) | (refine Wx.pure hq rfl rfl rfl rfl zmv ?_)
      first | (refine Wx.skip hq rfl rfl rfl rfl ?_) | (refine Wx.pure hq rfl rfl rfl rfl (rp_indexAddr no.toNat rfl rfl rfl rfl rfl hpp (by omega) hip) ?_)
      first | (refine Wx.skip hq rfl rfl rfl rfl ?_) | (refine Wx.val hq rfl rfl rfl rfl ([]) (rv_load rfl rfl (fun u hu => hLp u zxc hip)) ?_)
      first | (refine Wx.actSkip rfl rfl rfl rfl ?_) | (refine Wx.actNew rfl rfl rfl rfl (acts_call rfl rfl rfl (open_at_p s (parB s.br no.toNat) _ (hin.ext0 zxc) hdl)) ?_; rintro v12 w12 e12 rfl; have hz12 := e12.size; first | rw [decide_eq_true hop] | rw [decide_eq_false hop])
      first | (refine Wx.skip hq rfl rfl rfl rfl ?_) | (refine Wx.pure hq rfl rfl rfl rfl (rp_not rfl rfl) ?_)
      first | (refine Wx.skip hq rfl rfl rfl rfl ?_) | (refine Wx.pure hq rfl rfl rfl rfl zpk ?_)
      refine Wx.pure hq rfl rfl rfl rfl zpk ?_
      refine Wx.fin ?_
      refine zcf ?_
      refine zsk ?_
      exact ⟨sub_cons rfl (sub_cons rfl (sub_cons rfl sub_nil)), zxc⟩
  rintro E' wm ⟨hsub, em⟩
  refine thenE_normal (Sx.weaken ?_ hsub)
  have hzm := em.size
  have hcl : (confB s.br no.toNat).length ≤ 1000 := by
    have h1 : (confB s.br no.toNat).length ≤ (keysK ((brB s.br no.toNat).map Cr.key)).length := List.length_filter_le _ _
    have h2 : ∀ (l out : List Ky), (l.foldl insK out).length ≤ out.length + l.length := fun l => by
      induction l with
      | nil => intro out; exact Nat.le_refl _
      | cons x l ih =>
        intro out
        have h3 := ih (insK out x)
        have h4 := insK_length out x
        show (l.foldl insK (insK out x)).length ≤ _
        simp only [List.length_cons]; omega
    have h3 := h2 ((brB s.br no.toNat).map Cr.key) []
    rw [List.length_map] at h3
    have h5 := hsm.brs no.toNat
    unfold keysK at h1
    simp only [List.length_nil, Nat.zero_add] at h3
    omega
  by_cases hc : 0 < (confB s.br no.toNat).length
  · have he := he0.trans (if_pos hc)
    refine ztx ?_
    refine Ox.val rfl rfl zra ?_
    refine Ox.pure rfl rfl zmv ?_
    refine Ox.act rfl rfl (acts_call rfl rfl rfl (conflicts_at s hv.1 hsm no o1 (by omega) _ (hin.ext0 zxc))) ?_
    rintro v13 w13 ⟨e13, p5, c5, rfl, ho5⟩
    have hz13 := e13.size
    refine Ox.pure rfl rfl zas ?_
    refine Ox.fin ?_
    refine ztx ?_
    refine Ox.pure rfl rfl zmv ?_
    refine Ox.pure rfl rfl (rp_lenS rfl rfl rfl) ?_
    refine Ox.pure rfl rfl zbc ?_
    refine Ox.fin ?_
    refine zct ?_
    refine ztx ?_
    refine Ox.val rfl rfl zra ?_
    refine Ox.pure rfl rfl zmv ?_
    refine Ox.act rfl rfl (acts_store_all rfl rfl rfl (hBb4.ext (X := []) zxc (by simp)) rfl rfl rfl (bvc_one Bs0)) ?_
    rintro vs7 ws7 ⟨rfl, qs7, hBs7⟩
    have es7 : Ext [] w ws7 := Ext.renew zxc qs7 (by omega)
    refine Ox.pure rfl rfl zas ?_
    refine Ox.pure rfl rfl zas ?_
    refine Ox.fin ?_
    refine zrt ?_
    exact endE_ret [.agg (bvc Bs0).toArray, .slice p5 (confB s.br no.toNat).length c5, .int .i64 541] ⟨⟨⟨bb4, 0, none⟩, rfl, hBs7.cellsL.ldA rfl rfl⟩, rfl, rfl, trivial⟩ ⟨zxc, by rw [he]; obtain ⟨A5, hs5⟩ := own_sl_at (own_keep ho5 qs7 (own_notin ho5 (by have := hBb4.lt; omega))) (by omega); exact ⟨_, p5, A5, c5, rfl, RBr.zero _ _, hs5⟩⟩
  have he1 := he0.trans (if_neg hc)
  have hpl : parB s.br no.toNat < (s.bls.length : Int) := by omega
  have hofl := of_few hv.1 hsm (parB s.br no.toNat) hpl
  have hofc := of_check hv.2.1 (parB s.br no.toNat)
  have hLb : ∀ u, Ext [] w u → Ld Try.prog u 59 (s.A1.add (no.toNat * 1 + 0)) (.slice s.bls[no.toNat].p s.bls[no.toNat].l.length s.bls[no.toNat].c) := fun u hu => ld_field blc_len (hbr.ext0 hu) hib 0 rfl (by decide) rfl
  obtain ⟨Ab, hsb⟩ := hin.sub _ (List.getElem_mem hib)
  have hbe := brB_eq (s := s) hib
  have hbl2 := hsm.brs no.toNat
  rw [hbe] at hbl2
  rw [hbe] at he1
  by_cases hz : (recL (ofB s.br (parB s.br no.toNat)).1 s.bls[no.toNat].l).2 = 0; rotate_left
  · have he := he1.trans (if_pos hz)
    refine ztx ?_
    refine Ox.val rfl rfl zra ?_
    refine Ox.pure rfl rfl zmv ?_
    refine Ox.act rfl rfl (acts_call rfl rfl rfl (conflicts_at s hv.1 hsm no o1 (by omega) _ (hin.ext0 zxc))) ?_
    rintro v14 w14 ⟨e14, p5, c5, rfl, ho5⟩
    have hz14 := e14.size
    refine Ox.pure rfl rfl zas ?_
    refine Ox.fin ?_
    refine ztx ?_
    refine Ox.pure rfl rfl zmv ?_
    refine Ox.pure rfl rfl (rp_lenS rfl rfl rfl) ?_
    refine Ox.pure rfl rfl zbc ?_
    refine Ox.fin ?_
    refine zcf ?_
    refine zsk ?_
    refine ztx ?_
    refine Ox.pure rfl rfl zfa ?_
    refine Ox.val rfl rfl zrs ?_
    refine Ox.pure rfl rfl zmv ?_
    refine Ox.pure rfl rfl (rp_indexAddr no.toNat rfl rfl rfl rfl rfl hpp (by omega) hip) ?_
    refine Ox.val rfl rfl (rv_load rfl rfl (fun u hu => hLp u zxc hip)) ?_
    refine Ox.pure rfl rfl zas ?_
    refine Ox.fin ?_
    refine ztx ?_
    refine Ox.val rfl rfl zra ?_
    refine Ox.pure rfl rfl zmv ?_
    refine Ox.act rfl rfl (acts_call rfl rfl rfl (of_no s hv.1 hv.2.1 hsm (parB s.br no.toNat) g1 hpl _ (hin.ext0 zxc))) ?_
    rintro v15 w15 ⟨e15, p9, A9, c9, rfl, hs9⟩
    have hz15 := e15.size
    refine Ox.pure rfl rfl zmv ?_
    refine Ox.pure rfl rfl (rp_extract rfl rfl rfl) ?_
    refine Ox.pure rfl rfl (rp_extract rfl rfl rfl) ?_
    refine Ox.pure rfl rfl zas ?_
    refine Ox.pure rfl rfl zas ?_
    refine Ox.fin ?_
    refine ztx ?_
    refine Ox.pure rfl rfl zmv ?_
    refine Ox.pure rfl rfl zfa ?_
    refine Ox.val rfl rfl zrs ?_
    refine Ox.pure rfl rfl zmv ?_
    refine Ox.pure rfl rfl (rp_indexAddr no.toNat rfl rfl rfl rfl rfl hbp (by omega) hib) ?_
    refine Ox.val rfl rfl (rv_load rfl rfl (fun u hu => hLb u zxc)) ?_
    refine Ox.act rfl rfl (acts_call rfl rfl rfl (record_at (ofB s.br (parB s.br no.toNat)).1 s.bls[no.toNat].l p9 _ A9 _ c9 _ _ (hs9.ext0 zxc) (hsb.ext0 zxc) hofc (by omega))) ?_
    rintro vr10 wr10 ⟨er10, p10, A10, c10, rfl, hs10⟩
    have hzr10 := er10.size
    refine Ox.pure rfl rfl zmv ?_
    refine Ox.pure rfl rfl (rp_extract rfl rfl rfl) ?_
    refine Ox.pure rfl rfl (rp_extract rfl rfl rfl) ?_
    refine Ox.pure rfl rfl zas ?_
    refine Ox.pure rfl rfl zas ?_
    refine Ox.fin ?_
    refine ztx ?_
    refine Ox.pure rfl rfl zmv ?_
    refine Ox.pure rfl rfl zbc ?_
    refine Ox.fin ?_
    refine zct ?_
    refine ztx ?_
    refine Ox.val rfl rfl zra ?_
    refine Ox.pure rfl rfl zmv ?_
    refine Ox.act rfl rfl (acts_store_all rfl rfl rfl (hBb4.ext (X := []) zxc (by simp)) rfl rfl rfl (bvc_one Bs0)) ?_
    rintro vs12 ws12 ⟨rfl, qs12, hBs12⟩
    have es12 : Ext [] w ws12 := Ext.renew zxc qs12 (by omega)
    refine Ox.pure rfl rfl zas ?_
    refine Ox.pure rfl rfl zas ?_
    refine Ox.fin ?_
    refine zrt ?_
    exact endE_ret [.agg (bvc Bs0).toArray, .slice none 0 0, .int .i64 (recL (ofB s.br (parB s.br no.toNat)).1 s.bls[no.toNat].l).2] ⟨⟨⟨bb4, 0, none⟩, rfl, hBs12.cellsL.ldA rfl rfl⟩, rfl, rfl, trivial⟩ ⟨zxc, by rw [he]; exact RMrg.fail _ _ _⟩
  have he2 := he1.trans (if_neg (fun h => h hz))
  have hfw' := id hfw
  obtain ⟨w1, w2, w3, w4⟩ := hfw'
  refine ztx ?_
  refine Ox.val rfl rfl zra ?_
  refine Ox.pure rfl rfl zmv ?_
  refine Ox.act rfl rfl (acts_call rfl rfl rfl (conflicts_at s hv.1 hsm no o1 (by omega) _ (hin.ext0 zxc))) ?_
  rintro v16 w16 ⟨e16, p5, c5, rfl, ho5⟩
  have hz16 := e16.size
  refine Ox.pure rfl rfl zas ?_
  refine Ox.fin ?_
  refine ztx ?_
  refine Ox.pure rfl rfl zmv ?_
  refine Ox.pure rfl rfl (rp_lenS rfl rfl rfl) ?_
  refine Ox.pure rfl rfl zbc ?_
  refine Ox.fin ?_
  refine zcf ?_
  refine zsk ?_
  refine ztx ?_
  refine Ox.pure rfl rfl zfa ?_
  refine Ox.val rfl rfl zrs ?_
  refine Ox.pure rfl rfl zmv ?_
  refine Ox.pure rfl rfl (rp_indexAddr no.toNat rfl rfl rfl rfl rfl hpp (by omega) hip) ?_
  refine Ox.val rfl rfl (rv_load rfl rfl (fun u hu => hLp u zxc hip)) ?_
  refine Ox.pure rfl rfl zas ?_
  refine Ox.fin ?_
  refine ztx ?_
  refine Ox.val rfl rfl zra ?_
  refine Ox.pure rfl rfl zmv ?_
  refine Ox.act rfl rfl (acts_call rfl rfl rfl (of_no s hv.1 hv.2.1 hsm (parB s.br no.toNat) g1 hpl _ (hin.ext0 zxc))) ?_
  rintro v17 w17 ⟨e17, p9, A9, c9, rfl, hs9⟩
  have hz17 := e17.size
  refine Ox.pure rfl rfl zmv ?_
  refine Ox.pure rfl rfl (rp_extract rfl rfl rfl) ?_
  refine Ox.pure rfl rfl (rp_extract rfl rfl rfl) ?_
  refine Ox.pure rfl rfl zas ?_
  refine Ox.pure rfl rfl zas ?_
  refine Ox.fin ?_
  refine ztx ?_
  refine Ox.pure rfl rfl zmv ?_
  refine Ox.pure rfl rfl zfa ?_
  refine Ox.val rfl rfl zrs ?_
  refine Ox.pure rfl rfl zmv ?_
  refine Ox.pure rfl rfl (rp_indexAddr no.toNat rfl rfl rfl rfl rfl hbp (by omega) hib) ?_
  refine Ox.val rfl rfl (rv_load rfl rfl (fun u hu => hLb u zxc)) ?_
  refine Ox.act rfl rfl (acts_call rfl rfl rfl (record_at (ofB s.br (parB s.br no.toNat)).1 s.bls[no.toNat].l p9 _ A9 _ c9 _ _ (hs9.ext0 zxc) (hsb.ext0 zxc) hofc (by omega))) ?_
  rintro vr10 wr10 ⟨er10, p10, A10, c10, rfl, hs10⟩
  have hzr10 := er10.size
  refine Ox.pure rfl rfl zmv ?_
  refine Ox.pure rfl rfl (rp_extract rfl rfl rfl) ?_
  refine Ox.pure rfl rfl (rp_extract rfl rfl rfl) ?_
  refine Ox.pure rfl rfl zas ?_
  refine Ox.pure rfl rfl zas ?_
  refine Ox.fin ?_
  refine ztx ?_
  refine Ox.pure rfl rfl zmv ?_
  refine Ox.pure rfl rfl zbc ?_
  refine Ox.fin ?_
  refine zcf ?_
  refine zsk ?_
  refine ztx ?_
  refine Ox.val rfl rfl zra ?_
  refine Ox.act rfl rfl (acts_call rfl rfl rfl (copied_at s hfw _ (hin.ext0 zxc))) ?_
  rintro vu13 wu13 ⟨eu13, s', rfl, hbr', hbls, htr, hO⟩
  have hzu13 := eu13.size
  have hzu13 := eu13.size
  refine Ox.act rfl rfl (acts_store_all rfl rfl rfl (hBb4.ext (X := []) zxc (by simp)) rfl rfl rfl (bvc_one s')) ?_
  rintro vs13 ws13 ⟨rfl, qs13, hBs13⟩
  have es13 : Ext [] wb2 ws13 := Ext.renew zxc qs13 (by omega)
  have hzs13 := es13.size
  have hys13 := qs13.size
  have hO13 := OB.put hO (hBb4.ext (X := []) zxc (by simp)) qs13 hBs13
  have hCs13 := hO13.cells
  have hd' : s'.done = s.done := congrArg Br.done hbr'
  have hi' : no.toNat < s'.bls.length := by rw [hbls]; exact hib
  have hid : no.toNat < s'.done.length := by rw [hd']; omega
  have hdt := hO.in_.done.ptr
  refine Ox.fin ?_
  refine ztx ?_
  refine Ox.pure rfl rfl zfa ?_
  refine Ox.val rfl rfl zrs ?_
  refine Ox.pure rfl rfl zmv ?_
  refine Ox.pure rfl rfl (rp_indexAddr no.toNat rfl rfl rfl rfl rfl hdt (by omega) hid) ?_
  refine Ox.act rfl rfl (acts_store_own (enc := boc) boc_len true rfl rfl rfl rfl rfl hO13.o4 hdt hid (boc_one true)) ?_
  rintro vs14 ws14 ⟨rfl, qs14, hos14⟩
  have hO14 := OB.set4 hO13 qs14 hos14
  have es14 : Ext [] wb2 ws14 := OB.step (v := Value.slice s'.p4 s'.done.length s'.c4) es13 qs14 hO13.o4 (by omega)
  have hzs14 := es14.size
  have hCs14 := hO14.cells
  refine Ox.fin ?_
  have hy14 := qs14.size
  have v2' : s'.par.length ≤ 64 := by
    have : s'.br.par.length = s'.br.brs.length := by rw [hbr']; exact v2
    have h9 : s'.br.brs.length ≤ 64 := by rw [hbr']; exact v1
    exact this ▸ h9
  have v3' : s'.fks.length ≤ 64 := by
    have : s'.br.fks.length = s'.br.brs.length := by rw [hbr']; exact v3
    have h9 : s'.br.brs.length ≤ 64 := by rw [hbr']; exact v1
    exact this ▸ h9
  have v4' : s'.done.length ≤ 64 := by
    have : s'.br.done.length = s'.br.brs.length := by rw [hbr']; exact v4
    have h9 : s'.br.brs.length ≤ 64 := by rw [hbr']; exact v1
    exact this ▸ h9
  have v1' : s'.bls.length ≤ 64 := by rw [hbls]; omega
  by_cases hp0 : parB s.br no.toNat < 0
  · have he := he2.trans (if_pos hp0)
    generalize hR : recL (ofB s.br (parB s.br no.toNat)).1 s.bls[no.toNat].l = R at *
    refine ztx ?_
    refine Ox.pure rfl rfl zmv ?_
    refine Ox.pure rfl rfl zbc ?_
    refine Ox.fin ?_
    refine zct ?_
    refine ztx ?_
    refine Ox.pure rfl rfl zmv ?_
    refine Ox.pure rfl rfl zfa ?_
    refine Ox.act rfl rfl (acts_store (off := 0) rfl rfl rfl rfl rfl hO14.blk (Nat.le_of_ble_eq_true rfl) (by (first | assumption | exact List.all_eq_true.mp rfl | simp [Value.cells, Value.oneCell']))) ?_
    rintro vs16 ws16 ⟨rfl, qs16, hBs16⟩
    have es16 : Ext [] wb2 ws16 := Ext.renew es14 qs16 (by omega)
    have hO16 := OB.base (l := R.1) (A := A10) hO14 qs16 hBs16
    have hCs16 := hO16.cells
    refine Ox.fin ?_
    refine ztx ?_
    refine Ox.val rfl rfl zra ?_
    refine Ox.act rfl rfl (acts_store_all rfl rfl rfl hO16.blk rfl rfl rfl (bvc_one _)) ?_
    rintro vs18 ws18 ⟨rfl, qs18, hBs18⟩
    have es18 : Ext [] wb2 ws18 := Ext.renew es16 qs18 (by omega)
    have hO18 := hO16.self qs18 hBs18
    refine Ox.pure rfl rfl zas ?_
    refine Ox.pure rfl rfl zas ?_
    refine Ox.fin ?_
    refine zrt ?_
    have hA10 : 0 < R.1.length → A10.block < wr10.heap.size := fun h => hs10.row.lt (by intro h9; have := rowsV_length fc_len R.1; rw [h9] at this; simp at this; omega)
    have h1 := hs10.ext0 (w' := wu13) zxc
    have h2 := fc_keep h1 qs13 (fun h => by have := fc_off (s0 := Bs0) h1 (hBb4.ext (X := []) (w' := wu13) zxc (by simp)) h; simpa using this)
    have h3 := fc_keep h2 qs14 (fun h hm => by have := (own_lt hO13.o4 _ hm).1; have := hA10 h; omega)
    have h4 := fc_keep h3 qs16 (fun h => by have := fc_off h3 hO14.blk h; simpa using this)
    have h5 := fc_keep h4 qs18 (fun h => by have := fc_off h4 hO16.blk h; simpa using this)
    have hres := hO18.res ⟨by dsimp only; omega, by dsimp only; omega, by dsimp only; omega, by simp; omega⟩ h5 (fun x hx => by
      have hx' : x ∈ s.bls := by rw [← hbls]; exact hx
      exact (hin.sub x hx').imp fun _ h9 => h9.ext0 zxc)
    refine endE_ret [.agg (bvc _).toArray, .slice none 0 0, .int .i64 0] ⟨⟨⟨bb4, 0, none⟩, rfl, hO18.cells.ldA rfl rfl⟩, rfl, rfl, trivial⟩ ⟨zxc, ?_⟩
    rw [he]
    refine ⟨_, none, ⟨0, 0, none⟩, 0, rfl, ?_, SlV.nil _ _⟩
    obtain ⟨s9, e9, h9, e8, z9⟩ := hres
    refine ⟨s9, e9, h9, e8.trans ?_, fun h => Nat.le_trans (by omega) (z9 h)⟩
    show Br.mk R.1 (s'.bls.map Bl.l) s'.par s'.fks (s'.done.set no.toNat true) = _
    rw [show s'.bls.map Bl.l = s.br.brs from congrArg Br.brs hbr', show s'.par = s.br.par from congrArg Br.par hbr', show s'.fks = s.br.fks from congrArg Br.fks hbr', show s'.done = s.br.done from congrArg Br.done hbr']
  · have he := he2.trans (if_neg hp0)
    have hpn : (parB s.br no.toNat).toNat < s.bls.length := by omega
    obtain ⟨Ap, hsp⟩ := hin.sub _ (List.getElem_mem hpn)
    have hpe := brB_eq (s := s) hpn
    have hbl3 := hsm.brs (parB s.br no.toNat).toNat
    rw [hpe] at hbl3
    have hLq : ∀ u, Ext [] w u → Ld Try.prog u 59 (s.A1.add ((parB s.br no.toNat).toNat * 1 + 0)) (.slice s.bls[(parB s.br no.toNat).toNat].p s.bls[(parB s.br no.toNat).toNat].l.length s.bls[(parB s.br no.toNat).toNat].c) := fun u hu => ld_field blc_len (hbr.ext0 hu) hpn 0 rfl (by decide) rfl
    have hpn' : (parB s.br no.toNat).toNat < s'.bls.length := by rw [hbls]; exact hpn
    have hpt := hO.in_.bls.ptr
    refine ztx ?_
    refine Ox.pure rfl rfl zmv ?_
    refine Ox.pure rfl rfl zbc ?_
    refine Ox.fin ?_
    refine zcf ?_
    (repeat refine Sx.seq ?_)
    refine Sx.walkR rfl (fun _ _ _ _ h => h) [0, 1, 2, 3, 4, 5, 6, 7, 8, 9, 10, 11, 12, 13, 14, 15, 16] [0, 1, 2, 3, 4, 5, 6, 7, 8, 9, 10, 11, 12, 15] (0) (by kernel_rfl) ?_
    intro hq w18 e18; have hz18 := e18.size
    refine Wx.pure hq rfl rfl rfl rfl zfa ?_
    refine Wx.val hq rfl rfl rfl rfl ([]) zrs ?_
    refine Wx.pure hq rfl rfl rfl rfl zmv ?_
    refine Wx.pure hq rfl rfl rfl rfl zfa ?_
    refine Wx.val hq rfl rfl rfl rfl ([]) zrs ?_
    refine Wx.pure hq rfl rfl rfl rfl zmv ?_
    refine Wx.pure hq rfl rfl rfl rfl (rp_indexAddr (parB s.br no.toNat).toNat rfl rfl rfl rfl rfl hbp (by omega) hpn) ?_
    refine Wx.val hq rfl rfl rfl rfl ([]) (rv_load rfl rfl (fun u hu => hLq u zxc)) ?_
    refine Wx.pure hq rfl rfl rfl rfl zfa ?_
    refine Wx.val hq rfl rfl rfl rfl ([]) zrs ?_
    refine Wx.pure hq rfl rfl rfl rfl zmv ?_
    refine Wx.pure hq rfl rfl rfl rfl (rp_indexAddr no.toNat rfl rfl rfl rfl rfl hbp (by omega) hib) ?_
    refine Wx.val hq rfl rfl rfl rfl ([]) (rv_load rfl rfl (fun u hu => hLb u zxc)) ?_
    refine Wx.actNew rfl rfl rfl rfl (acts_buildSlice (ps := [(0, .tmp 89), (1, .tmp 94)]) rfl rfl rfl rfl rfl rfl rfl rfl) ?_
    rintro vn17 wn17 en17 ⟨bn17, rfl, hbn17, hBn17⟩
    first | (have hCn17 : Cells wn17 ⟨bn17, 0, none⟩ [_, _] := hBn17.cells) | have hCn17 := Blk.cellsL hBn17
    have hln17 := hBn17.lt
    have hzn17 := en17.size
    refine Wx.actNew rfl rfl rfl rfl (acts_call rfl rfl rfl (concat_at [s.bls[(parB s.br no.toNat).toNat], s.bls[no.toNat]] _ ⟨bn17, 0, none⟩ 2 _ ⟨fun _ => rfl, hCn17.ext0 zxc, by simp, by simp, by simp⟩ (fun x hx => (by simp only [List.mem_cons, List.not_mem_nil, or_false] at hx; rcases hx with rfl | rfl; exact ⟨Ap, hsp.ext0 zxc⟩; exact ⟨Ab, hsb.ext0 zxc⟩)) (by simp; omega))) ?_
    rintro vk17 wk17 ek17 ho17
    have hzk17 := ek17.size
    have hzk17 := ek17.size
    have ho17 : wk17.ownsRow wn17.heap.size 42 6 vk17 (s.bls[(parB s.br no.toNat).toNat].l ++ s.bls[no.toNat].l).length (rowsV cc (s.bls[(parB s.br no.toNat).toNat].l ++ s.bls[no.toNat].l)) := by have h9 := ho17; simp only [List.flatMap_cons, List.flatMap_nil, List.append_nil] at h9; exact h9
    obtain ⟨p17, c17, A17, rfl, hs17, _⟩ := SlV.of_own ho17 (by simp; omega)
    have hP := OB.ext0 (w' := wk17) hO14 zxc
    refine Wx.pure hq rfl rfl rfl rfl (rp_indexAddr (parB s.br no.toNat).toNat rfl rfl rfl rfl rfl hpt (by omega) hpn') ?_
    refine Wx.actLast rfl rfl rfl rfl (by kernel_rfl) (acts_store_own (enc := blc) blc_len (⟨p17, c17, s.bls[(parB s.br no.toNat).toNat].l ++ s.bls[no.toNat].l⟩ : Bl) rfl rfl rfl rfl rfl hP.o1 hpt hpn' (blc_one _)) ?_
    rintro vs17 ws17 ⟨rfl, qs17, hos17⟩
    have hS := OB.set1 hP qs17 hos17
    have es17 : Ext [] wb2 ws17 := OB.step (v := Value.slice s'.p1 s'.bls.length s'.c1) zxc qs17 hP.o1 (by omega)
    have hzs17 := es17.size
    have hys17 := qs17.size
    have hCs17 := hS.cells
    have ho12 := own_keep ho17 qs17 (fun g hg hm => own_apart ho17 hP.o1 (by decide) g hg (by simpa using hm))
    refine Wx.fin ?_
    refine ztx ?_
    refine Ox.val rfl rfl zra ?_
    refine Ox.act rfl rfl (acts_store_all rfl rfl rfl hS.blk rfl rfl rfl (bvc_one _)) ?_
    rintro vs19 ws19 ⟨rfl, qs19, hBs19⟩
    have es19 : Ext [] wb2 ws19 := Ext.renew es17 qs19 (by omega)
    have hO18 := hS.self qs19 hBs19
    refine Ox.pure rfl rfl zas ?_
    refine Ox.pure rfl rfl zas ?_
    refine Ox.fin ?_
    refine zrt ?_
    have hl4 := hBb4.lt
    obtain ⟨A19, hs19⟩ := own_sl_at (own_keep ho12 qs19 (own_notin ho12 (by omega))) (by simp; omega)
    have hres := hO18.res ⟨by simp; omega, by dsimp only; omega, by dsimp only; omega, by simp; omega⟩ (htr _ (hin.base.ext0 zxc)) (fun x hx => by
      rcases List.mem_or_eq_of_mem_set hx with h | h
      · have h' : x ∈ s.bls := by rw [← hbls]; exact h
        exact (hin.sub x h').imp fun _ h9 => h9.ext0 zxc
      · rw [h]; exact ⟨_, hs19⟩)
    refine endE_ret [.agg (bvc _).toArray, .slice none 0 0, .int .i64 0] ⟨⟨⟨bb4, 0, none⟩, rfl, hO18.cells.ldA rfl rfl⟩, rfl, rfl, trivial⟩ ⟨zxc, ?_⟩
    rw [he]
    refine ⟨_, none, ⟨0, 0, none⟩, 0, rfl, ?_, SlV.nil _ _⟩
    obtain ⟨s9, e9, h9, e8, z9⟩ := hres
    refine ⟨s9, e9, h9, e8.trans ?_, fun h => Nat.le_trans (by omega) (z9 h)⟩
    show Br.mk s'.base ((s'.bls.set (parB s.br no.toNat).toNat (⟨p17, c17, s.bls[(parB s.br no.toNat).toNat].l ++ s.bls[no.toNat].l⟩ : Bl)).map Bl.l) s'.par s'.fks (s'.done.set no.toNat true) = _
    rw [List.map_set, show s'.base = s.br.base from congrArg Br.base hbr', show s'.bls.map Bl.l = s.br.brs from congrArg Br.brs hbr', show s'.par = s.br.par from congrArg Br.par hbr', show s'.fks = s.br.fks from congrArg Br.fks hbr', show s'.done = s.br.done from congrArg Br.done hbr', hpe]

end Go.Proofs.Ytfgckcochilpkaa

/- Branches' walks: the reference's comparisons and counts. -/
set_option linter.unusedVariables false
set_option maxRecDepth 100000
set_option maxHeartbeats 4000000
set_option linter.unusedSimpArgs false
namespace Go.Proofs.Ytfgckcochilpkaa
open Go Go.Eng

theorem ref_SameK (l m : List Ky) (p q : Option Addr) (A B : Addr) (c d : Nat) (w : World) (hs : SlV kc w p A l c) (ht : SlV kc w q B m d) :
    Calls Try.prog 26 #[.slice p l.length c, .slice q m.length d] w (Ret fun r w' => Ext [] w w' ∧ r = .bool (decide (l = m))) := by
  have hp := hs.ptr
  have hrow := hs.row
  have hfew := hs.few
  have hp2 := ht.ptr
  have hrow2 := ht.row
  have hfew2 := ht.few
  refine calls_of_Sx (args := [.slice p l.length c, .slice q m.length d]) Try.func26 rfl rfl ?_
  by_cases hlen : l.length = m.length; rotate_left
  · refine ztx ?_
    refine Ox.pure rfl rfl zas ?_
    refine Ox.fin ?_
    refine ztx ?_
    refine Ox.pure rfl rfl zmv ?_
    refine Ox.pure rfl rfl (rp_lenS rfl rfl rfl) ?_
    refine Ox.pure rfl rfl zmv ?_
    refine Ox.pure rfl rfl (rp_lenS rfl rfl rfl) ?_
    refine Ox.pure rfl rfl zbc ?_
    refine Ox.fin ?_
    refine zct ?_
    refine ztx ?_
    refine Ox.pure rfl rfl zas ?_
    refine Ox.fin ?_
    refine zrt ?_
    exact endE_ret [_] ⟨rfl, trivial⟩ ⟨zxc, congrArg Value.bool (decide_eq_false (fun h => hlen (by rw [h]))).symm⟩
  refine ztx ?_
  refine Ox.pure rfl rfl zas ?_
  refine Ox.fin ?_
  refine ztx ?_
  refine Ox.pure rfl rfl zmv ?_
  refine Ox.pure rfl rfl (rp_lenS rfl rfl rfl) ?_
  refine Ox.pure rfl rfl zmv ?_
  refine Ox.pure rfl rfl (rp_lenS rfl rfl rfl) ?_
  refine Ox.pure rfl rfl zbc ?_
  refine Ox.fin ?_
  refine zcf ?_
  refine zsk ?_
  refine ztx ?_
  refine Ox.pure rfl rfl zas ?_
  refine Ox.fin ?_
  refine zbl ?_
  refine Sx.loop (ι := Nat) (fun i E wr => E = [(0, .slice p l.length c), (1, .slice q m.length d), (5, .int .i64 (i : Int))] ∧ i ≤ l.length ∧ l.take i = m.take i ∧ Ext [] w wr) (fun i => l.length - i) 0
    (sub_cons rfl (sub_cons rfl (sub_cons rfl sub_nil))) ⟨rfl, Nat.zero_le _, rfl, zxc⟩ ?_
  rintro i E wr ⟨rfl, hi, hf, er⟩
  by_cases hlt : i < l.length
  · have hlt2 : i < m.length := by omega
    have hat := rowsV_at kc_len hlt
    have hl8 := kc_len l[i]
    have hat2 := rowsV_at kc_len hlt2
    have hl82 := kc_len m[i]
    by_cases he : l[i] = m[i]
    · refine ztx ?_
      refine Ox.pure rfl rfl zmv ?_
      refine Ox.pure rfl rfl zmv ?_
      refine Ox.pure rfl rfl (rp_lenS rfl rfl rfl) ?_
      refine Ox.pure rfl rfl zbc ?_
      refine Ox.fin ?_
      refine zct ?_
      refine zsk ?_
      refine zbl ?_
      (repeat refine Sx.seq ?_)
      refine Sx.walkR rfl (fun _ _ _ _ h => h) [0, 1, 2, 3, 4, 5, 6, 7, 8] [0, 1, 2, 3, 4, 5, 6, 7, 8] (0) (by kernel_rfl) ?_
      intro hq w1 e1; have hz1 := e1.size
      refine Wx.pure hq rfl rfl rfl rfl zmv ?_
      refine Wx.pure hq rfl rfl rfl rfl zmv ?_
      refine Wx.pure hq rfl rfl rfl rfl zix ?_
      refine Wx.val hq rfl rfl rfl rfl ([]) zra ?_
      refine Wx.pure hq rfl rfl rfl rfl zmv ?_
      refine Wx.pure hq rfl rfl rfl rfl zmv ?_
      refine Wx.pure hq rfl rfl rfl rfl zix ?_
      refine Wx.val hq rfl rfl rfl rfl ([]) zra ?_
      refine Wx.pure hq rfl rfl rfl rfl (by first | exact rp_neA_t rfl egKy rfl rfl (eqKy l[i] m[i]) (by assumption) | exact rp_neA_f rfl egKy rfl rfl (eqKy l[i] m[i]) (by assumption)) ?_
      refine Wx.fin ?_
      refine zcf ?_
      refine zsk ?_
      refine ztx ?_
      refine Ox.pure rfl rfl zmv ?_
      refine Ox.pure rfl rfl zba ?_
      refine Ox.pure rfl rfl zas ?_
      refine Ox.fin ?_
      exact ⟨i + 1, _, sub_cons rfl (sub_cons rfl (sub_cons rfl sub_nil)), ⟨rfl, hlt, take_eq_step hlt hlt2 hf he, zxc⟩, by omega⟩
    · refine ztx ?_
      refine Ox.pure rfl rfl zmv ?_
      refine Ox.pure rfl rfl zmv ?_
      refine Ox.pure rfl rfl (rp_lenS rfl rfl rfl) ?_
      refine Ox.pure rfl rfl zbc ?_
      refine Ox.fin ?_
      refine zct ?_
      refine zsk ?_
      refine zbl ?_
      (repeat refine Sx.seq ?_)
      refine Sx.walkR rfl (fun _ _ _ _ h => h) [0, 1, 2, 3, 4, 5, 6, 7, 8] [0, 1, 2, 3, 4, 5, 6, 7, 8] (0) (by kernel_rfl) ?_
      intro hq w2 e2; have hz2 := e2.size
      refine Wx.pure hq rfl rfl rfl rfl zmv ?_
      refine Wx.pure hq rfl rfl rfl rfl zmv ?_
      refine Wx.pure hq rfl rfl rfl rfl zix ?_
      refine Wx.val hq rfl rfl rfl rfl ([]) zra ?_
      refine Wx.pure hq rfl rfl rfl rfl zmv ?_
      refine Wx.pure hq rfl rfl rfl rfl zmv ?_
      refine Wx.pure hq rfl rfl rfl rfl zix ?_
      refine Wx.val hq rfl rfl rfl rfl ([]) zra ?_
      refine Wx.pure hq rfl rfl rfl rfl (by first | exact rp_neA_t rfl egKy rfl rfl (eqKy l[i] m[i]) (by assumption) | exact rp_neA_f rfl egKy rfl rfl (eqKy l[i] m[i]) (by assumption)) ?_
      refine Wx.fin ?_
      refine zct ?_
      refine ztx ?_
      refine Ox.pure rfl rfl zas ?_
      refine Ox.fin ?_
      refine zrt ?_
      exact endE_ret [_] ⟨rfl, trivial⟩ ⟨zxc, congrArg Value.bool (decide_eq_false (fun h => he (by subst h; rfl))).symm⟩
  · rw [List.take_of_length_le (by omega), List.take_of_length_le (by omega)] at hf
    refine ztx ?_
    refine Ox.pure rfl rfl zmv ?_
    refine Ox.pure rfl rfl zmv ?_
    refine Ox.pure rfl rfl (rp_lenS rfl rfl rfl) ?_
    refine Ox.pure rfl rfl zbc ?_
    refine Ox.fin ?_
    refine zcf ?_
    refine zex ?_
    refine ztx ?_
    refine Ox.pure rfl rfl zas ?_
    refine Ox.fin ?_
    refine zrt ?_
    exact endE_ret [_] ⟨rfl, trivial⟩ ⟨zxc, congrArg Value.bool (decide_eq_true hf).symm⟩


theorem neb_t {P : Program} {n : Nat} {E : Env} {o : Oper} {t t' : TypeId} {x y : Operand} {a b : Bool} (ho : o.op = .binOp .neq t x y t') (ht : P.underlying t = some .bool) (hx : Go.Eng.ev E x = some (.bool a)) (hy : Go.Eng.ev E y = some (.bool b)) (h : ¬ a = b) : RunP P n E o (.bool true) := by
  have h1 := rp_neb (P := P) (n := n) ho ht hx hy
  rwa [show (!(a == b)) = true by cases a <;> cases b <;> simp_all] at h1
theorem neb_f {P : Program} {n : Nat} {E : Env} {o : Oper} {t t' : TypeId} {x y : Operand} {a b : Bool} (ho : o.op = .binOp .neq t x y t') (ht : P.underlying t = some .bool) (hx : Go.Eng.ev E x = some (.bool a)) (hy : Go.Eng.ev E y = some (.bool b)) (h : a = b) : RunP P n E o (.bool false) := by
  have h1 := rp_neb (P := P) (n := n) ho ht hx hy
  rwa [show (!(a == b)) = false by cases a <;> cases b <;> simp_all] at h1
theorem eqCg (a b : Cr) (w : World) : (Op.equalIn (9999 + 1) 42 (.agg (cc a).toArray) (.agg (cc b).toArray)).run Try.prog w = .ok (decide (a = b)) w := by
  rw [eqs rfl (by kernel_rfl) (eqf_sub (by decide) rfl rfl (eqs rfl (by kernel_rfl) (eqf_int (by decide) rfl rfl rfl rfl (eqf_int (by decide) rfl rfl rfl rfl (eqf_int (by decide) rfl rfl rfl rfl (eqf_nil _ _ _ _)))))
    (eqf_int (by decide) rfl rfl rfl rfl (eqf_sub (by decide) rfl rfl (eqs rfl (by kernel_rfl) (eqf_int (by decide) rfl rfl rfl rfl (eqf_int (by decide) rfl rfl rfl rfl (eqf_nil _ _ _ _))))
    (eqf_nil _ _ _ _))))]
  simp [Cr.eq_iff, Ky.eq_iff, Bool.decide_and, Bool.and_assoc]
theorem egCg : Try.prog.eqGuardType Try.prog.depth 42 = false := by kernel_rfl
theorem br_ne {s t : Bs} (h : s.base ≠ t.base ∨ s.bls.length ≠ t.bls.length ∨ s.par.length ≠ t.par.length ∨ s.fks.length ≠ t.fks.length ∨ s.done.length ≠ t.done.length) : s.br ≠ t.br := fun he => by
  have h1 : s.base = t.base := congrArg Br.base he
  have h2 : s.br.brs.length = t.br.brs.length := by rw [he]
  rw [br_len, br_len] at h2
  have h3 : s.par = t.par := congrArg Br.par he
  have h4 : s.fks = t.fks := congrArg Br.fks he
  have h5 : s.done = t.done := congrArg Br.done he
  rcases h with h | h | h | h | h
  · exact h h1
  · exact h h2
  · exact h (by rw [h3])
  · exact h (by rw [h4])
  · exact h (by rw [h5])
theorem bls_ne {s t : Bs} {i : Nat} (h1 : i < s.bls.length) (h2 : i < t.bls.length) (h : s.bls[i].l ≠ t.bls[i].l) : s.br ≠ t.br := fun he => h (by
  rw [← brB_eq h1, ← brB_eq h2, he])
theorem bls_step {s t : Bs} {i : Nat} (h1 : i < s.bls.length) (h2 : i < t.bls.length) (hf : (s.bls.take i).map Bl.l = (t.bls.take i).map Bl.l) (he : s.bls[i].l = t.bls[i].l) : (s.bls.take (i + 1)).map Bl.l = (t.bls.take (i + 1)).map Bl.l := by
  rw [← List.take_append_getElem h1, ← List.take_append_getElem h2, List.map_append, List.map_append, hf]
  simp [he]
theorem ref_SameB (s t : Bs) (w : World) (hs : BsIn s w) (ht : BsIn t w) :
    Calls Try.prog 16 #[.agg (bvc s).toArray, .agg (bvc t).toArray] w (Ret fun r w' => Ext [] w w' ∧ r = .bool (decide (s.br = t.br))) := by
  refine calls_of_Sx (args := [.agg (bvc s).toArray, .agg (bvc t).toArray]) Try.func16 rfl rfl ?_
  by_cases hch1 : s.base = t.base; rotate_left
  ·   refine ztx ?_
      refine Ox.act rfl rfl (acts_box rfl rfl) ?_
      rintro vb1 wb1 ⟨eb1, bb1, rfl, hbb1, hBb1⟩
      first | (have hCb1 : Cells wb1 ⟨bb1, 0, none⟩ [_, _, _, _, _] := hBb1.cells) | have hCb1 := Blk.cellsL hBb1
      have hlb1 := hBb1.lt
      have hzb1 := eb1.size
      refine Ox.act rfl rfl (acts_box rfl rfl) ?_
      rintro vb2 wb2 ⟨eb2, bb2, rfl, hbb2, hBb2⟩
      first | (have hCb2 : Cells wb2 ⟨bb2, 0, none⟩ [_, _, _, _, _] := hBb2.cells) | have hCb2 := Blk.cellsL hBb2
      have hlb2 := hBb2.lt
      have hzb2 := eb2.size
      refine Ox.pure rfl rfl zas ?_
      refine Ox.fin ?_
      refine ztx ?_
      refine Ox.pure rfl rfl zfa ?_
      refine Ox.val rfl rfl zrs ?_
      refine Ox.pure rfl rfl zfa ?_
      refine Ox.val rfl rfl zrs ?_
      refine Ox.act rfl rfl (acts_call rfl rfl rfl (ref_Same s.base t.base _ _ _ _ _ _ _ (hs.base.ext0 zxc) (ht.base.ext0 zxc))) ?_
      rintro v3 w3 ⟨e3, rfl⟩
      have hz3 := e3.size
      first | rw [decide_eq_true (show s.base = t.base by assumption)] | rw [decide_eq_false (show ¬ s.base = t.base by assumption)]
      refine Ox.pure rfl rfl (rp_not rfl rfl) ?_
      refine Ox.pure rfl rfl zmv ?_
      first | (refine Ox.skip rfl rfl ?_) | (refine Ox.pure rfl rfl zfa ?_)
      first | (refine Ox.skip rfl rfl ?_) | (refine Ox.val rfl rfl zrs ?_)
      first | (refine Ox.skip rfl rfl ?_) | (refine Ox.pure rfl rfl (rp_lenS rfl rfl rfl) ?_)
      first | (refine Ox.skip rfl rfl ?_) | (refine Ox.pure rfl rfl zfa ?_)
      first | (refine Ox.skip rfl rfl ?_) | (refine Ox.val rfl rfl zrs ?_)
      first | (refine Ox.skip rfl rfl ?_) | (refine Ox.pure rfl rfl (rp_lenS rfl rfl rfl) ?_)
      first | (refine Ox.skip rfl rfl ?_) | (refine Ox.pure rfl rfl zbc ?_)
      refine Ox.pure rfl rfl zpk ?_
      refine Ox.pure rfl rfl zmv ?_
      first | (refine Ox.skip rfl rfl ?_) | (refine Ox.pure rfl rfl zfa ?_)
      first | (refine Ox.skip rfl rfl ?_) | (refine Ox.val rfl rfl zrs ?_)
      first | (refine Ox.skip rfl rfl ?_) | (refine Ox.pure rfl rfl (rp_lenS rfl rfl rfl) ?_)
      first | (refine Ox.skip rfl rfl ?_) | (refine Ox.pure rfl rfl zfa ?_)
      first | (refine Ox.skip rfl rfl ?_) | (refine Ox.val rfl rfl zrs ?_)
      first | (refine Ox.skip rfl rfl ?_) | (refine Ox.pure rfl rfl (rp_lenS rfl rfl rfl) ?_)
      first | (refine Ox.skip rfl rfl ?_) | (refine Ox.pure rfl rfl zbc ?_)
      refine Ox.pure rfl rfl zpk ?_
      refine Ox.pure rfl rfl zmv ?_
      first | (refine Ox.skip rfl rfl ?_) | (refine Ox.pure rfl rfl zfa ?_)
      first | (refine Ox.skip rfl rfl ?_) | (refine Ox.val rfl rfl zrs ?_)
      first | (refine Ox.skip rfl rfl ?_) | (refine Ox.pure rfl rfl (rp_lenS rfl rfl rfl) ?_)
      first | (refine Ox.skip rfl rfl ?_) | (refine Ox.pure rfl rfl zfa ?_)
      first | (refine Ox.skip rfl rfl ?_) | (refine Ox.val rfl rfl zrs ?_)
      first | (refine Ox.skip rfl rfl ?_) | (refine Ox.pure rfl rfl (rp_lenS rfl rfl rfl) ?_)
      first | (refine Ox.skip rfl rfl ?_) | (refine Ox.pure rfl rfl zbc ?_)
      refine Ox.pure rfl rfl zpk ?_
      refine Ox.pure rfl rfl zmv ?_
      first | (refine Ox.skip rfl rfl ?_) | (refine Ox.pure rfl rfl zfa ?_)
      first | (refine Ox.skip rfl rfl ?_) | (refine Ox.val rfl rfl zrs ?_)
      first | (refine Ox.skip rfl rfl ?_) | (refine Ox.pure rfl rfl (rp_lenS rfl rfl rfl) ?_)
      first | (refine Ox.skip rfl rfl ?_) | (refine Ox.pure rfl rfl zfa ?_)
      first | (refine Ox.skip rfl rfl ?_) | (refine Ox.val rfl rfl zrs ?_)
      first | (refine Ox.skip rfl rfl ?_) | (refine Ox.pure rfl rfl (rp_lenS rfl rfl rfl) ?_)
      first | (refine Ox.skip rfl rfl ?_) | (refine Ox.pure rfl rfl zbc ?_)
      refine Ox.pure rfl rfl zpk ?_
      refine Ox.fin ?_
      refine zct ?_
      refine ztx ?_
      refine Ox.pure rfl rfl zas ?_
      refine Ox.fin ?_
      refine zrt ?_
      exact endE_ret [_] ⟨rfl, trivial⟩ ⟨zxc, congrArg Value.bool (decide_eq_false (br_ne (by first | exact .inl (by assumption) | exact .inr (.inl (by assumption)) | exact .inr (.inr (.inl (by assumption))) | exact .inr (.inr (.inr (.inl (by assumption)))) | exact .inr (.inr (.inr (.inr (by assumption))))))).symm⟩
  by_cases hch2 : s.bls.length = t.bls.length; rotate_left
  ·   refine ztx ?_
      refine Ox.act rfl rfl (acts_box rfl rfl) ?_
      rintro vb1 wb1 ⟨eb1, bb1, rfl, hbb1, hBb1⟩
      first | (have hCb1 : Cells wb1 ⟨bb1, 0, none⟩ [_, _, _, _, _] := hBb1.cells) | have hCb1 := Blk.cellsL hBb1
      have hlb1 := hBb1.lt
      have hzb1 := eb1.size
      refine Ox.act rfl rfl (acts_box rfl rfl) ?_
      rintro vb2 wb2 ⟨eb2, bb2, rfl, hbb2, hBb2⟩
      first | (have hCb2 : Cells wb2 ⟨bb2, 0, none⟩ [_, _, _, _, _] := hBb2.cells) | have hCb2 := Blk.cellsL hBb2
      have hlb2 := hBb2.lt
      have hzb2 := eb2.size
      refine Ox.pure rfl rfl zas ?_
      refine Ox.fin ?_
      refine ztx ?_
      refine Ox.pure rfl rfl zfa ?_
      refine Ox.val rfl rfl zrs ?_
      refine Ox.pure rfl rfl zfa ?_
      refine Ox.val rfl rfl zrs ?_
      refine Ox.act rfl rfl (acts_call rfl rfl rfl (ref_Same s.base t.base _ _ _ _ _ _ _ (hs.base.ext0 zxc) (ht.base.ext0 zxc))) ?_
      rintro v4 w4 ⟨e4, rfl⟩
      have hz4 := e4.size
      first | rw [decide_eq_true (show s.base = t.base by assumption)] | rw [decide_eq_false (show ¬ s.base = t.base by assumption)]
      refine Ox.pure rfl rfl (rp_not rfl rfl) ?_
      refine Ox.pure rfl rfl zmv ?_
      first | (refine Ox.skip rfl rfl ?_) | (refine Ox.pure rfl rfl zfa ?_)
      first | (refine Ox.skip rfl rfl ?_) | (refine Ox.val rfl rfl zrs ?_)
      first | (refine Ox.skip rfl rfl ?_) | (refine Ox.pure rfl rfl (rp_lenS rfl rfl rfl) ?_)
      first | (refine Ox.skip rfl rfl ?_) | (refine Ox.pure rfl rfl zfa ?_)
      first | (refine Ox.skip rfl rfl ?_) | (refine Ox.val rfl rfl zrs ?_)
      first | (refine Ox.skip rfl rfl ?_) | (refine Ox.pure rfl rfl (rp_lenS rfl rfl rfl) ?_)
      first | (refine Ox.skip rfl rfl ?_) | (refine Ox.pure rfl rfl zbc ?_)
      refine Ox.pure rfl rfl zpk ?_
      refine Ox.pure rfl rfl zmv ?_
      first | (refine Ox.skip rfl rfl ?_) | (refine Ox.pure rfl rfl zfa ?_)
      first | (refine Ox.skip rfl rfl ?_) | (refine Ox.val rfl rfl zrs ?_)
      first | (refine Ox.skip rfl rfl ?_) | (refine Ox.pure rfl rfl (rp_lenS rfl rfl rfl) ?_)
      first | (refine Ox.skip rfl rfl ?_) | (refine Ox.pure rfl rfl zfa ?_)
      first | (refine Ox.skip rfl rfl ?_) | (refine Ox.val rfl rfl zrs ?_)
      first | (refine Ox.skip rfl rfl ?_) | (refine Ox.pure rfl rfl (rp_lenS rfl rfl rfl) ?_)
      first | (refine Ox.skip rfl rfl ?_) | (refine Ox.pure rfl rfl zbc ?_)
      refine Ox.pure rfl rfl zpk ?_
      refine Ox.pure rfl rfl zmv ?_
      first | (refine Ox.skip rfl rfl ?_) | (refine Ox.pure rfl rfl zfa ?_)
      first | (refine Ox.skip rfl rfl ?_) | (refine Ox.val rfl rfl zrs ?_)
      first | (refine Ox.skip rfl rfl ?_) | (refine Ox.pure rfl rfl (rp_lenS rfl rfl rfl) ?_)
      first | (refine Ox.skip rfl rfl ?_) | (refine Ox.pure rfl rfl zfa ?_)
      first | (refine Ox.skip rfl rfl ?_) | (refine Ox.val rfl rfl zrs ?_)
      first | (refine Ox.skip rfl rfl ?_) | (refine Ox.pure rfl rfl (rp_lenS rfl rfl rfl) ?_)
      first | (refine Ox.skip rfl rfl ?_) | (refine Ox.pure rfl rfl zbc ?_)
      refine Ox.pure rfl rfl zpk ?_
      refine Ox.pure rfl rfl zmv ?_
      first | (refine Ox.skip rfl rfl ?_) | (refine Ox.pure rfl rfl zfa ?_)
      first | (refine Ox.skip rfl rfl ?_) | (refine Ox.val rfl rfl zrs ?_)
      first | (refine Ox.skip rfl rfl ?_) | (refine Ox.pure rfl rfl (rp_lenS rfl rfl rfl) ?_)
      first | (refine Ox.skip rfl rfl ?_) | (refine Ox.pure rfl rfl zfa ?_)
      first | (refine Ox.skip rfl rfl ?_) | (refine Ox.val rfl rfl zrs ?_)
      first | (refine Ox.skip rfl rfl ?_) | (refine Ox.pure rfl rfl (rp_lenS rfl rfl rfl) ?_)
      first | (refine Ox.skip rfl rfl ?_) | (refine Ox.pure rfl rfl zbc ?_)
      refine Ox.pure rfl rfl zpk ?_
      refine Ox.fin ?_
      refine zct ?_
      refine ztx ?_
      refine Ox.pure rfl rfl zas ?_
      refine Ox.fin ?_
      refine zrt ?_
      exact endE_ret [_] ⟨rfl, trivial⟩ ⟨zxc, congrArg Value.bool (decide_eq_false (br_ne (by first | exact .inl (by assumption) | exact .inr (.inl (by assumption)) | exact .inr (.inr (.inl (by assumption))) | exact .inr (.inr (.inr (.inl (by assumption)))) | exact .inr (.inr (.inr (.inr (by assumption))))))).symm⟩
  by_cases hch3 : s.par.length = t.par.length; rotate_left
  ·   refine ztx ?_
      refine Ox.act rfl rfl (acts_box rfl rfl) ?_
      rintro vb1 wb1 ⟨eb1, bb1, rfl, hbb1, hBb1⟩
      first | (have hCb1 : Cells wb1 ⟨bb1, 0, none⟩ [_, _, _, _, _] := hBb1.cells) | have hCb1 := Blk.cellsL hBb1
      have hlb1 := hBb1.lt
      have hzb1 := eb1.size
      refine Ox.act rfl rfl (acts_box rfl rfl) ?_
      rintro vb2 wb2 ⟨eb2, bb2, rfl, hbb2, hBb2⟩
      first | (have hCb2 : Cells wb2 ⟨bb2, 0, none⟩ [_, _, _, _, _] := hBb2.cells) | have hCb2 := Blk.cellsL hBb2
      have hlb2 := hBb2.lt
      have hzb2 := eb2.size
      refine Ox.pure rfl rfl zas ?_
      refine Ox.fin ?_
      refine ztx ?_
      refine Ox.pure rfl rfl zfa ?_
      refine Ox.val rfl rfl zrs ?_
      refine Ox.pure rfl rfl zfa ?_
      refine Ox.val rfl rfl zrs ?_
      refine Ox.act rfl rfl (acts_call rfl rfl rfl (ref_Same s.base t.base _ _ _ _ _ _ _ (hs.base.ext0 zxc) (ht.base.ext0 zxc))) ?_
      rintro v5 w5 ⟨e5, rfl⟩
      have hz5 := e5.size
      first | rw [decide_eq_true (show s.base = t.base by assumption)] | rw [decide_eq_false (show ¬ s.base = t.base by assumption)]
      refine Ox.pure rfl rfl (rp_not rfl rfl) ?_
      refine Ox.pure rfl rfl zmv ?_
      first | (refine Ox.skip rfl rfl ?_) | (refine Ox.pure rfl rfl zfa ?_)
      first | (refine Ox.skip rfl rfl ?_) | (refine Ox.val rfl rfl zrs ?_)
      first | (refine Ox.skip rfl rfl ?_) | (refine Ox.pure rfl rfl (rp_lenS rfl rfl rfl) ?_)
      first | (refine Ox.skip rfl rfl ?_) | (refine Ox.pure rfl rfl zfa ?_)
      first | (refine Ox.skip rfl rfl ?_) | (refine Ox.val rfl rfl zrs ?_)
      first | (refine Ox.skip rfl rfl ?_) | (refine Ox.pure rfl rfl (rp_lenS rfl rfl rfl) ?_)
      first | (refine Ox.skip rfl rfl ?_) | (refine Ox.pure rfl rfl zbc ?_)
      refine Ox.pure rfl rfl zpk ?_
      refine Ox.pure rfl rfl zmv ?_
      first | (refine Ox.skip rfl rfl ?_) | (refine Ox.pure rfl rfl zfa ?_)
      first | (refine Ox.skip rfl rfl ?_) | (refine Ox.val rfl rfl zrs ?_)
      first | (refine Ox.skip rfl rfl ?_) | (refine Ox.pure rfl rfl (rp_lenS rfl rfl rfl) ?_)
      first | (refine Ox.skip rfl rfl ?_) | (refine Ox.pure rfl rfl zfa ?_)
      first | (refine Ox.skip rfl rfl ?_) | (refine Ox.val rfl rfl zrs ?_)
      first | (refine Ox.skip rfl rfl ?_) | (refine Ox.pure rfl rfl (rp_lenS rfl rfl rfl) ?_)
      first | (refine Ox.skip rfl rfl ?_) | (refine Ox.pure rfl rfl zbc ?_)
      refine Ox.pure rfl rfl zpk ?_
      refine Ox.pure rfl rfl zmv ?_
      first | (refine Ox.skip rfl rfl ?_) | (refine Ox.pure rfl rfl zfa ?_)
      first | (refine Ox.skip rfl rfl ?_) | (refine Ox.val rfl rfl zrs ?_)
      first | (refine Ox.skip rfl rfl ?_) | (refine Ox.pure rfl rfl (rp_lenS rfl rfl rfl) ?_)
      first | (refine Ox.skip rfl rfl ?_) | (refine Ox.pure rfl rfl zfa ?_)
      first | (refine Ox.skip rfl rfl ?_) | (refine Ox.val rfl rfl zrs ?_)
      first | (refine Ox.skip rfl rfl ?_) | (refine Ox.pure rfl rfl (rp_lenS rfl rfl rfl) ?_)
      first | (refine Ox.skip rfl rfl ?_) | (refine Ox.pure rfl rfl zbc ?_)
      refine Ox.pure rfl rfl zpk ?_
      refine Ox.pure rfl rfl zmv ?_
      first | (refine Ox.skip rfl rfl ?_) | (refine Ox.pure rfl rfl zfa ?_)
      first | (refine Ox.skip rfl rfl ?_) | (refine Ox.val rfl rfl zrs ?_)
      first | (refine Ox.skip rfl rfl ?_) | (refine Ox.pure rfl rfl (rp_lenS rfl rfl rfl) ?_)
      first | (refine Ox.skip rfl rfl ?_) | (refine Ox.pure rfl rfl zfa ?_)
      first | (refine Ox.skip rfl rfl ?_) | (refine Ox.val rfl rfl zrs ?_)
      first | (refine Ox.skip rfl rfl ?_) | (refine Ox.pure rfl rfl (rp_lenS rfl rfl rfl) ?_)
      first | (refine Ox.skip rfl rfl ?_) | (refine Ox.pure rfl rfl zbc ?_)
      refine Ox.pure rfl rfl zpk ?_
      refine Ox.fin ?_
      refine zct ?_
      refine ztx ?_
      refine Ox.pure rfl rfl zas ?_
      refine Ox.fin ?_
      refine zrt ?_
      exact endE_ret [_] ⟨rfl, trivial⟩ ⟨zxc, congrArg Value.bool (decide_eq_false (br_ne (by first | exact .inl (by assumption) | exact .inr (.inl (by assumption)) | exact .inr (.inr (.inl (by assumption))) | exact .inr (.inr (.inr (.inl (by assumption)))) | exact .inr (.inr (.inr (.inr (by assumption))))))).symm⟩
  by_cases hch4 : s.fks.length = t.fks.length; rotate_left
  ·   refine ztx ?_
      refine Ox.act rfl rfl (acts_box rfl rfl) ?_
      rintro vb1 wb1 ⟨eb1, bb1, rfl, hbb1, hBb1⟩
      first | (have hCb1 : Cells wb1 ⟨bb1, 0, none⟩ [_, _, _, _, _] := hBb1.cells) | have hCb1 := Blk.cellsL hBb1
      have hlb1 := hBb1.lt
      have hzb1 := eb1.size
      refine Ox.act rfl rfl (acts_box rfl rfl) ?_
      rintro vb2 wb2 ⟨eb2, bb2, rfl, hbb2, hBb2⟩
      first | (have hCb2 : Cells wb2 ⟨bb2, 0, none⟩ [_, _, _, _, _] := hBb2.cells) | have hCb2 := Blk.cellsL hBb2
      have hlb2 := hBb2.lt
      have hzb2 := eb2.size
      refine Ox.pure rfl rfl zas ?_
      refine Ox.fin ?_
      refine ztx ?_
      refine Ox.pure rfl rfl zfa ?_
      refine Ox.val rfl rfl zrs ?_
      refine Ox.pure rfl rfl zfa ?_
      refine Ox.val rfl rfl zrs ?_
      refine Ox.act rfl rfl (acts_call rfl rfl rfl (ref_Same s.base t.base _ _ _ _ _ _ _ (hs.base.ext0 zxc) (ht.base.ext0 zxc))) ?_
      rintro v6 w6 ⟨e6, rfl⟩
      have hz6 := e6.size
      first | rw [decide_eq_true (show s.base = t.base by assumption)] | rw [decide_eq_false (show ¬ s.base = t.base by assumption)]
      refine Ox.pure rfl rfl (rp_not rfl rfl) ?_
      refine Ox.pure rfl rfl zmv ?_
      first | (refine Ox.skip rfl rfl ?_) | (refine Ox.pure rfl rfl zfa ?_)
      first | (refine Ox.skip rfl rfl ?_) | (refine Ox.val rfl rfl zrs ?_)
      first | (refine Ox.skip rfl rfl ?_) | (refine Ox.pure rfl rfl (rp_lenS rfl rfl rfl) ?_)
      first | (refine Ox.skip rfl rfl ?_) | (refine Ox.pure rfl rfl zfa ?_)
      first | (refine Ox.skip rfl rfl ?_) | (refine Ox.val rfl rfl zrs ?_)
      first | (refine Ox.skip rfl rfl ?_) | (refine Ox.pure rfl rfl (rp_lenS rfl rfl rfl) ?_)
      first | (refine Ox.skip rfl rfl ?_) | (refine Ox.pure rfl rfl zbc ?_)
      refine Ox.pure rfl rfl zpk ?_
      refine Ox.pure rfl rfl zmv ?_
      first | (refine Ox.skip rfl rfl ?_) | (refine Ox.pure rfl rfl zfa ?_)
      first | (refine Ox.skip rfl rfl ?_) | (refine Ox.val rfl rfl zrs ?_)
      first | (refine Ox.skip rfl rfl ?_) | (refine Ox.pure rfl rfl (rp_lenS rfl rfl rfl) ?_)
      first | (refine Ox.skip rfl rfl ?_) | (refine Ox.pure rfl rfl zfa ?_)
      first | (refine Ox.skip rfl rfl ?_) | (refine Ox.val rfl rfl zrs ?_)
      first | (refine Ox.skip rfl rfl ?_) | (refine Ox.pure rfl rfl (rp_lenS rfl rfl rfl) ?_)
      first | (refine Ox.skip rfl rfl ?_) | (refine Ox.pure rfl rfl zbc ?_)
      refine Ox.pure rfl rfl zpk ?_
      refine Ox.pure rfl rfl zmv ?_
      first | (refine Ox.skip rfl rfl ?_) | (refine Ox.pure rfl rfl zfa ?_)
      first | (refine Ox.skip rfl rfl ?_) | (refine Ox.val rfl rfl zrs ?_)
      first | (refine Ox.skip rfl rfl ?_) | (refine Ox.pure rfl rfl (rp_lenS rfl rfl rfl) ?_)
      first | (refine Ox.skip rfl rfl ?_) | (refine Ox.pure rfl rfl zfa ?_)
      first | (refine Ox.skip rfl rfl ?_) | (refine Ox.val rfl rfl zrs ?_)
      first | (refine Ox.skip rfl rfl ?_) | (refine Ox.pure rfl rfl (rp_lenS rfl rfl rfl) ?_)
      first | (refine Ox.skip rfl rfl ?_) | (refine Ox.pure rfl rfl zbc ?_)
      refine Ox.pure rfl rfl zpk ?_
      refine Ox.pure rfl rfl zmv ?_
      first | (refine Ox.skip rfl rfl ?_) | (refine Ox.pure rfl rfl zfa ?_)
      first | (refine Ox.skip rfl rfl ?_) | (refine Ox.val rfl rfl zrs ?_)
      first | (refine Ox.skip rfl rfl ?_) | (refine Ox.pure rfl rfl (rp_lenS rfl rfl rfl) ?_)
      first | (refine Ox.skip rfl rfl ?_) | (refine Ox.pure rfl rfl zfa ?_)
      first | (refine Ox.skip rfl rfl ?_) | (refine Ox.val rfl rfl zrs ?_)
      first | (refine Ox.skip rfl rfl ?_) | (refine Ox.pure rfl rfl (rp_lenS rfl rfl rfl) ?_)
      first | (refine Ox.skip rfl rfl ?_) | (refine Ox.pure rfl rfl zbc ?_)
      refine Ox.pure rfl rfl zpk ?_
      refine Ox.fin ?_
      refine zct ?_
      refine ztx ?_
      refine Ox.pure rfl rfl zas ?_
      refine Ox.fin ?_
      refine zrt ?_
      exact endE_ret [_] ⟨rfl, trivial⟩ ⟨zxc, congrArg Value.bool (decide_eq_false (br_ne (by first | exact .inl (by assumption) | exact .inr (.inl (by assumption)) | exact .inr (.inr (.inl (by assumption))) | exact .inr (.inr (.inr (.inl (by assumption)))) | exact .inr (.inr (.inr (.inr (by assumption))))))).symm⟩
  by_cases hch5 : s.done.length = t.done.length; rotate_left
  ·   refine ztx ?_
      refine Ox.act rfl rfl (acts_box rfl rfl) ?_
      rintro vb1 wb1 ⟨eb1, bb1, rfl, hbb1, hBb1⟩
      first | (have hCb1 : Cells wb1 ⟨bb1, 0, none⟩ [_, _, _, _, _] := hBb1.cells) | have hCb1 := Blk.cellsL hBb1
      have hlb1 := hBb1.lt
      have hzb1 := eb1.size
      refine Ox.act rfl rfl (acts_box rfl rfl) ?_
      rintro vb2 wb2 ⟨eb2, bb2, rfl, hbb2, hBb2⟩
      first | (have hCb2 : Cells wb2 ⟨bb2, 0, none⟩ [_, _, _, _, _] := hBb2.cells) | have hCb2 := Blk.cellsL hBb2
      have hlb2 := hBb2.lt
      have hzb2 := eb2.size
      refine Ox.pure rfl rfl zas ?_
      refine Ox.fin ?_
      refine ztx ?_
      refine Ox.pure rfl rfl zfa ?_
      refine Ox.val rfl rfl zrs ?_
      refine Ox.pure rfl rfl zfa ?_
      refine Ox.val rfl rfl zrs ?_
      refine Ox.act rfl rfl (acts_call rfl rfl rfl (ref_Same s.base t.base _ _ _ _ _ _ _ (hs.base.ext0 zxc) (ht.base.ext0 zxc))) ?_
      rintro v7 w7 ⟨e7, rfl⟩
      have hz7 := e7.size
      first | rw [decide_eq_true (show s.base = t.base by assumption)] | rw [decide_eq_false (show ¬ s.base = t.base by assumption)]
      refine Ox.pure rfl rfl (rp_not rfl rfl) ?_
      refine Ox.pure rfl rfl zmv ?_
      first | (refine Ox.skip rfl rfl ?_) | (refine Ox.pure rfl rfl zfa ?_)
      first | (refine Ox.skip rfl rfl ?_) | (refine Ox.val rfl rfl zrs ?_)
      first | (refine Ox.skip rfl rfl ?_) | (refine Ox.pure rfl rfl (rp_lenS rfl rfl rfl) ?_)
      first | (refine Ox.skip rfl rfl ?_) | (refine Ox.pure rfl rfl zfa ?_)
      first | (refine Ox.skip rfl rfl ?_) | (refine Ox.val rfl rfl zrs ?_)
      first | (refine Ox.skip rfl rfl ?_) | (refine Ox.pure rfl rfl (rp_lenS rfl rfl rfl) ?_)
      first | (refine Ox.skip rfl rfl ?_) | (refine Ox.pure rfl rfl zbc ?_)
      refine Ox.pure rfl rfl zpk ?_
      refine Ox.pure rfl rfl zmv ?_
      first | (refine Ox.skip rfl rfl ?_) | (refine Ox.pure rfl rfl zfa ?_)
      first | (refine Ox.skip rfl rfl ?_) | (refine Ox.val rfl rfl zrs ?_)
      first | (refine Ox.skip rfl rfl ?_) | (refine Ox.pure rfl rfl (rp_lenS rfl rfl rfl) ?_)
      first | (refine Ox.skip rfl rfl ?_) | (refine Ox.pure rfl rfl zfa ?_)
      first | (refine Ox.skip rfl rfl ?_) | (refine Ox.val rfl rfl zrs ?_)
      first | (refine Ox.skip rfl rfl ?_) | (refine Ox.pure rfl rfl (rp_lenS rfl rfl rfl) ?_)
      first | (refine Ox.skip rfl rfl ?_) | (refine Ox.pure rfl rfl zbc ?_)
      refine Ox.pure rfl rfl zpk ?_
      refine Ox.pure rfl rfl zmv ?_
      first | (refine Ox.skip rfl rfl ?_) | (refine Ox.pure rfl rfl zfa ?_)
      first | (refine Ox.skip rfl rfl ?_) | (refine Ox.val rfl rfl zrs ?_)
      first | (refine Ox.skip rfl rfl ?_) | (refine Ox.pure rfl rfl (rp_lenS rfl rfl rfl) ?_)
      first | (refine Ox.skip rfl rfl ?_) | (refine Ox.pure rfl rfl zfa ?_)
      first | (refine Ox.skip rfl rfl ?_) | (refine Ox.val rfl rfl zrs ?_)
      first | (refine Ox.skip rfl rfl ?_) | (refine Ox.pure rfl rfl (rp_lenS rfl rfl rfl) ?_)
      first | (refine Ox.skip rfl rfl ?_) | (refine Ox.pure rfl rfl zbc ?_)
      refine Ox.pure rfl rfl zpk ?_
      refine Ox.pure rfl rfl zmv ?_
      first | (refine Ox.skip rfl rfl ?_) | (refine Ox.pure rfl rfl zfa ?_)
      first | (refine Ox.skip rfl rfl ?_) | (refine Ox.val rfl rfl zrs ?_)
      first | (refine Ox.skip rfl rfl ?_) | (refine Ox.pure rfl rfl (rp_lenS rfl rfl rfl) ?_)
      first | (refine Ox.skip rfl rfl ?_) | (refine Ox.pure rfl rfl zfa ?_)
      first | (refine Ox.skip rfl rfl ?_) | (refine Ox.val rfl rfl zrs ?_)
      first | (refine Ox.skip rfl rfl ?_) | (refine Ox.pure rfl rfl (rp_lenS rfl rfl rfl) ?_)
      first | (refine Ox.skip rfl rfl ?_) | (refine Ox.pure rfl rfl zbc ?_)
      refine Ox.pure rfl rfl zpk ?_
      refine Ox.fin ?_
      refine zct ?_
      refine ztx ?_
      refine Ox.pure rfl rfl zas ?_
      refine Ox.fin ?_
      refine zrt ?_
      exact endE_ret [_] ⟨rfl, trivial⟩ ⟨zxc, congrArg Value.bool (decide_eq_false (br_ne (by first | exact .inl (by assumption) | exact .inr (.inl (by assumption)) | exact .inr (.inr (.inl (by assumption))) | exact .inr (.inr (.inr (.inl (by assumption)))) | exact .inr (.inr (.inr (.inr (by assumption))))))).symm⟩
  refine ztx ?_
  refine Ox.act rfl rfl (acts_box rfl rfl) ?_
  rintro vb1 wb1 ⟨eb1, bb1, rfl, hbb1, hBb1⟩
  first | (have hCb1 : Cells wb1 ⟨bb1, 0, none⟩ [_, _, _, _, _] := hBb1.cells) | have hCb1 := Blk.cellsL hBb1
  have hlb1 := hBb1.lt
  have hzb1 := eb1.size
  refine Ox.act rfl rfl (acts_box rfl rfl) ?_
  rintro vb2 wb2 ⟨eb2, bb2, rfl, hbb2, hBb2⟩
  first | (have hCb2 : Cells wb2 ⟨bb2, 0, none⟩ [_, _, _, _, _] := hBb2.cells) | have hCb2 := Blk.cellsL hBb2
  have hlb2 := hBb2.lt
  have hzb2 := eb2.size
  refine Ox.pure rfl rfl zas ?_
  refine Ox.fin ?_
  refine ztx ?_
  refine Ox.pure rfl rfl zfa ?_
  refine Ox.val rfl rfl zrs ?_
  refine Ox.pure rfl rfl zfa ?_
  refine Ox.val rfl rfl zrs ?_
  refine Ox.act rfl rfl (acts_call rfl rfl rfl (ref_Same s.base t.base _ _ _ _ _ _ _ (hs.base.ext0 zxc) (ht.base.ext0 zxc))) ?_
  rintro v8 w8 ⟨e8, rfl⟩
  have hz8 := e8.size
  first | rw [decide_eq_true (show s.base = t.base by assumption)] | rw [decide_eq_false (show ¬ s.base = t.base by assumption)]
  refine Ox.pure rfl rfl (rp_not rfl rfl) ?_
  refine Ox.pure rfl rfl zmv ?_
  first | (refine Ox.skip rfl rfl ?_) | (refine Ox.pure rfl rfl zfa ?_)
  first | (refine Ox.skip rfl rfl ?_) | (refine Ox.val rfl rfl zrs ?_)
  first | (refine Ox.skip rfl rfl ?_) | (refine Ox.pure rfl rfl (rp_lenS rfl rfl rfl) ?_)
  first | (refine Ox.skip rfl rfl ?_) | (refine Ox.pure rfl rfl zfa ?_)
  first | (refine Ox.skip rfl rfl ?_) | (refine Ox.val rfl rfl zrs ?_)
  first | (refine Ox.skip rfl rfl ?_) | (refine Ox.pure rfl rfl (rp_lenS rfl rfl rfl) ?_)
  first | (refine Ox.skip rfl rfl ?_) | (refine Ox.pure rfl rfl zbc ?_)
  refine Ox.pure rfl rfl zpk ?_
  refine Ox.pure rfl rfl zmv ?_
  first | (refine Ox.skip rfl rfl ?_) | (refine Ox.pure rfl rfl zfa ?_)
  first | (refine Ox.skip rfl rfl ?_) | (refine Ox.val rfl rfl zrs ?_)
  first | (refine Ox.skip rfl rfl ?_) | (refine Ox.pure rfl rfl (rp_lenS rfl rfl rfl) ?_)
  first | (refine Ox.skip rfl rfl ?_) | (refine Ox.pure rfl rfl zfa ?_)
  first | (refine Ox.skip rfl rfl ?_) | (refine Ox.val rfl rfl zrs ?_)
  first | (refine Ox.skip rfl rfl ?_) | (refine Ox.pure rfl rfl (rp_lenS rfl rfl rfl) ?_)
  first | (refine Ox.skip rfl rfl ?_) | (refine Ox.pure rfl rfl zbc ?_)
  refine Ox.pure rfl rfl zpk ?_
  refine Ox.pure rfl rfl zmv ?_
  first | (refine Ox.skip rfl rfl ?_) | (refine Ox.pure rfl rfl zfa ?_)
  first | (refine Ox.skip rfl rfl ?_) | (refine Ox.val rfl rfl zrs ?_)
  first | (refine Ox.skip rfl rfl ?_) | (refine Ox.pure rfl rfl (rp_lenS rfl rfl rfl) ?_)
  first | (refine Ox.skip rfl rfl ?_) | (refine Ox.pure rfl rfl zfa ?_)
  first | (refine Ox.skip rfl rfl ?_) | (refine Ox.val rfl rfl zrs ?_)
  first | (refine Ox.skip rfl rfl ?_) | (refine Ox.pure rfl rfl (rp_lenS rfl rfl rfl) ?_)
  first | (refine Ox.skip rfl rfl ?_) | (refine Ox.pure rfl rfl zbc ?_)
  refine Ox.pure rfl rfl zpk ?_
  refine Ox.pure rfl rfl zmv ?_
  first | (refine Ox.skip rfl rfl ?_) | (refine Ox.pure rfl rfl zfa ?_)
  first | (refine Ox.skip rfl rfl ?_) | (refine Ox.val rfl rfl zrs ?_)
  first | (refine Ox.skip rfl rfl ?_) | (refine Ox.pure rfl rfl (rp_lenS rfl rfl rfl) ?_)
  first | (refine Ox.skip rfl rfl ?_) | (refine Ox.pure rfl rfl zfa ?_)
  first | (refine Ox.skip rfl rfl ?_) | (refine Ox.val rfl rfl zrs ?_)
  first | (refine Ox.skip rfl rfl ?_) | (refine Ox.pure rfl rfl (rp_lenS rfl rfl rfl) ?_)
  first | (refine Ox.skip rfl rfl ?_) | (refine Ox.pure rfl rfl zbc ?_)
  refine Ox.pure rfl rfl zpk ?_
  refine Ox.fin ?_
  refine zcf ?_
  refine zsk ?_
  refine ztx ?_
  refine Ox.pure rfl rfl zas ?_
  refine Ox.fin ?_
  refine zbl ?_
  refine Sx.loop (ι := Nat) (fun i E wr => E = [(2, .pointer (some ⟨bb1, 0, none⟩)), (3, .pointer (some ⟨bb2, 0, none⟩)), (5, .int .i64 (i : Int))] ∧ i ≤ s.bls.length ∧ (s.bls.take i).map Bl.l = (t.bls.take i).map Bl.l ∧ Ext [] wb2 wr) (fun i => s.bls.length - i) 0
    (sub_cons rfl (sub_cons rfl (sub_cons rfl sub_nil))) ⟨rfl, Nat.zero_le _, rfl, zxc⟩ ?_
  rintro i E wr ⟨rfl, hi, hf, er⟩
  have hf1 := hs.bls.few
  by_cases hlt : i < s.bls.length
  · have hlt2 : i < t.bls.length := by omega
    obtain ⟨AL, hL⟩ := hs.sub _ (List.getElem_mem hlt)
    obtain ⟨AM, hM⟩ := ht.sub _ (List.getElem_mem hlt2)
    have hfL := hL.few
    by_cases hll : s.bls[i].l.length = t.bls[i].l.length; rotate_left
    · refine ztx ?_
      refine Ox.pure rfl rfl zmv ?_
      refine Ox.pure rfl rfl zfa ?_
      refine Ox.val rfl rfl zrs ?_
      refine Ox.pure rfl rfl (rp_lenS rfl rfl rfl) ?_
      refine Ox.pure rfl rfl zbc ?_
      refine Ox.fin ?_
      refine zct ?_
      refine zsk ?_
      refine zbl ?_
      (repeat refine Sx.seq ?_)
      refine Sx.walkR rfl (fun _ _ _ _ h => h) [0, 1, 2, 3, 4, 5, 6, 7, 8, 9, 10, 11, 12] [0, 1, 2, 3, 4, 5, 6, 7, 8, 9, 10, 11, 12] (0) (by kernel_rfl) ?_
      intro hq w9 e9; have hz9 := e9.size
      refine Wx.pure hq rfl rfl rfl rfl zfa ?_
      refine Wx.val hq rfl rfl rfl rfl ([]) zrs ?_
      refine Wx.pure hq rfl rfl rfl rfl zmv ?_
      refine Wx.pure hq rfl rfl rfl rfl (rp_indexAddr i rfl rfl rfl rfl rfl hs.bls.ptr rfl hlt) ?_
      refine Wx.val hq rfl rfl rfl rfl ([]) (rv_load rfl rfl (fun u hu => ld_field blc_len (hs.bls.row.ext0 zxc) hlt 0 rfl (by decide) rfl)) ?_
      refine Wx.pure hq rfl rfl rfl rfl (rp_lenS rfl rfl rfl) ?_
      refine Wx.pure hq rfl rfl rfl rfl zfa ?_
      refine Wx.val hq rfl rfl rfl rfl ([]) zrs ?_
      refine Wx.pure hq rfl rfl rfl rfl zmv ?_
      refine Wx.pure hq rfl rfl rfl rfl (rp_indexAddr i rfl rfl rfl rfl rfl ht.bls.ptr rfl hlt2) ?_
      refine Wx.val hq rfl rfl rfl rfl ([]) (rv_load rfl rfl (fun u hu => ld_field blc_len (ht.bls.row.ext0 zxc) hlt2 0 rfl (by decide) rfl)) ?_
      refine Wx.pure hq rfl rfl rfl rfl (rp_lenS rfl rfl rfl) ?_
      refine Wx.pure hq rfl rfl rfl rfl zbc ?_
      refine Wx.fin ?_
      refine zct ?_
      refine ztx ?_
      refine Ox.pure rfl rfl zas ?_
      refine Ox.fin ?_
      refine zrt ?_
      exact endE_ret [_] ⟨rfl, trivial⟩ ⟨zxc, congrArg Value.bool (decide_eq_false (bls_ne hlt hlt2 (fun h => hll (by rw [h])))).symm⟩
    refine ztx ?_
    refine Ox.pure rfl rfl zmv ?_
    refine Ox.pure rfl rfl zfa ?_
    refine Ox.val rfl rfl zrs ?_
    refine Ox.pure rfl rfl (rp_lenS rfl rfl rfl) ?_
    refine Ox.pure rfl rfl zbc ?_
    refine Ox.fin ?_
    refine zct ?_
    refine zsk ?_
    refine zbl ?_
    (repeat refine Sx.seq ?_)
    refine Sx.walkR rfl (fun _ _ _ _ h => h) [0, 1, 2, 3, 4, 5, 6, 7, 8, 9, 10, 11, 12] [0, 1, 2, 3, 4, 5, 6, 7, 8, 9, 10, 11, 12] (0) (by kernel_rfl) ?_
    intro hq w10 e10; have hz10 := e10.size
    refine Wx.pure hq rfl rfl rfl rfl zfa ?_
    refine Wx.val hq rfl rfl rfl rfl ([]) zrs ?_
    refine Wx.pure hq rfl rfl rfl rfl zmv ?_
    refine Wx.pure hq rfl rfl rfl rfl (rp_indexAddr i rfl rfl rfl rfl rfl hs.bls.ptr rfl hlt) ?_
    refine Wx.val hq rfl rfl rfl rfl ([]) (rv_load rfl rfl (fun u hu => ld_field blc_len (hs.bls.row.ext0 zxc) hlt 0 rfl (by decide) rfl)) ?_
    refine Wx.pure hq rfl rfl rfl rfl (rp_lenS rfl rfl rfl) ?_
    refine Wx.pure hq rfl rfl rfl rfl zfa ?_
    refine Wx.val hq rfl rfl rfl rfl ([]) zrs ?_
    refine Wx.pure hq rfl rfl rfl rfl zmv ?_
    refine Wx.pure hq rfl rfl rfl rfl (rp_indexAddr i rfl rfl rfl rfl rfl ht.bls.ptr rfl hlt2) ?_
    refine Wx.val hq rfl rfl rfl rfl ([]) (rv_load rfl rfl (fun u hu => ld_field blc_len (ht.bls.row.ext0 zxc) hlt2 0 rfl (by decide) rfl)) ?_
    refine Wx.pure hq rfl rfl rfl rfl (rp_lenS rfl rfl rfl) ?_
    refine Wx.pure hq rfl rfl rfl rfl zbc ?_
    refine Wx.fin ?_
    refine zcf ?_
    refine zsk ?_
    refine ztx ?_
    refine Ox.pure rfl rfl zas ?_
    refine Ox.fin ?_
    refine zbl ?_
    refine Sx.loop (ι := Nat) (fun k E wk => E = [(2, .pointer (some ⟨bb1, 0, none⟩)), (3, .pointer (some ⟨bb2, 0, none⟩)), (5, .int .i64 (i : Int)), (6, .int .i64 (k : Int))] ∧ k ≤ s.bls[i].l.length ∧ s.bls[i].l.take k = t.bls[i].l.take k ∧ Ext [] wr wk) (fun k => s.bls[i].l.length - k) 0
      (sub_cons rfl (sub_cons rfl (sub_cons rfl (sub_cons rfl sub_nil)))) ⟨rfl, Nat.zero_le _, rfl, zxc⟩ ?_
    rintro k E wk ⟨rfl, hk, hfk, ek⟩
    by_cases hk1 : k < s.bls[i].l.length
    · have hk2 : k < t.bls[i].l.length := by omega
      by_cases he : s.bls[i].l[k] = t.bls[i].l[k]
      · refine ztx ?_
        refine Ox.pure rfl rfl zmv ?_
        refine Ox.pure rfl rfl zfa ?_
        refine Ox.val rfl rfl zrs ?_
        refine Ox.pure rfl rfl zmv ?_
        refine Ox.pure rfl rfl (rp_indexAddr i rfl rfl rfl rfl rfl hs.bls.ptr rfl hlt) ?_
        refine Ox.val rfl rfl (rv_load rfl rfl (fun u hu => ld_field blc_len (hs.bls.row.ext0 zxc) hlt 0 rfl (by decide) rfl)) ?_
        refine Ox.pure rfl rfl (rp_lenS rfl rfl rfl) ?_
        refine Ox.pure rfl rfl zbc ?_
        refine Ox.fin ?_
        refine zct ?_
        refine zsk ?_
        refine zbl ?_
        (repeat refine Sx.seq ?_)
        refine Sx.walkR rfl (fun _ _ _ _ h => h) [0, 1, 2, 3, 4, 5, 6, 7, 8, 9, 10, 11, 12, 13, 14, 15, 16] [0, 1, 2, 3, 4, 5, 6, 7, 8, 9, 10, 11, 12, 13, 14, 15, 16] (0) (by kernel_rfl) ?_
        intro hq w11 e11; have hz11 := e11.size
        refine Wx.pure hq rfl rfl rfl rfl zfa ?_
        refine Wx.val hq rfl rfl rfl rfl ([]) zrs ?_
        refine Wx.pure hq rfl rfl rfl rfl zmv ?_
        refine Wx.pure hq rfl rfl rfl rfl (rp_indexAddr i rfl rfl rfl rfl rfl hs.bls.ptr rfl hlt) ?_
        refine Wx.val hq rfl rfl rfl rfl ([]) (rv_load rfl rfl (fun u hu => ld_field blc_len (hs.bls.row.ext0 zxc) hlt 0 rfl (by decide) rfl)) ?_
        refine Wx.pure hq rfl rfl rfl rfl zmv ?_
        refine Wx.pure hq rfl rfl rfl rfl (rp_indexAddr k rfl rfl rfl rfl rfl hL.ptr rfl hk1) ?_
        refine Wx.val hq rfl rfl rfl rfl ([]) (rv_load rfl rfl (fun u hu => ld_elem cc_len (hL.row.ext0 zxc) hk1 rfl rfl)) ?_
        refine Wx.pure hq rfl rfl rfl rfl zfa ?_
        refine Wx.val hq rfl rfl rfl rfl ([]) zrs ?_
        refine Wx.pure hq rfl rfl rfl rfl zmv ?_
        refine Wx.pure hq rfl rfl rfl rfl (rp_indexAddr i rfl rfl rfl rfl rfl ht.bls.ptr rfl hlt2) ?_
        refine Wx.val hq rfl rfl rfl rfl ([]) (rv_load rfl rfl (fun u hu => ld_field blc_len (ht.bls.row.ext0 zxc) hlt2 0 rfl (by decide) rfl)) ?_
        refine Wx.pure hq rfl rfl rfl rfl zmv ?_
        refine Wx.pure hq rfl rfl rfl rfl (rp_indexAddr k rfl rfl rfl rfl rfl hM.ptr rfl hk2) ?_
        refine Wx.val hq rfl rfl rfl rfl ([]) (rv_load rfl rfl (fun u hu => ld_elem cc_len (hM.row.ext0 zxc) hk2 rfl rfl)) ?_
        refine Wx.pure hq rfl rfl rfl rfl (by first | exact rp_neA_t rfl egCg rfl rfl (eqCg s.bls[i].l[k] t.bls[i].l[k]) (by assumption) | exact rp_neA_f rfl egCg rfl rfl (eqCg s.bls[i].l[k] t.bls[i].l[k]) (by assumption)) ?_
        refine Wx.fin ?_
        refine zcf ?_
        refine zsk ?_
        refine ztx ?_
        refine Ox.pure rfl rfl zmv ?_
        refine Ox.pure rfl rfl zba ?_
        refine Ox.pure rfl rfl zas ?_
        refine Ox.fin ?_
        exact ⟨k + 1, _, sub_cons rfl (sub_cons rfl (sub_cons rfl (sub_cons rfl sub_nil))), ⟨rfl, hk1, take_eq_step hk1 hk2 hfk he, zxc⟩, by omega⟩
      · refine ztx ?_
        refine Ox.pure rfl rfl zmv ?_
        refine Ox.pure rfl rfl zfa ?_
        refine Ox.val rfl rfl zrs ?_
        refine Ox.pure rfl rfl zmv ?_
        refine Ox.pure rfl rfl (rp_indexAddr i rfl rfl rfl rfl rfl hs.bls.ptr rfl hlt) ?_
        refine Ox.val rfl rfl (rv_load rfl rfl (fun u hu => ld_field blc_len (hs.bls.row.ext0 zxc) hlt 0 rfl (by decide) rfl)) ?_
        refine Ox.pure rfl rfl (rp_lenS rfl rfl rfl) ?_
        refine Ox.pure rfl rfl zbc ?_
        refine Ox.fin ?_
        refine zct ?_
        refine zsk ?_
        refine zbl ?_
        (repeat refine Sx.seq ?_)
        refine Sx.walkR rfl (fun _ _ _ _ h => h) [0, 1, 2, 3, 4, 5, 6, 7, 8, 9, 10, 11, 12, 13, 14, 15, 16] [0, 1, 2, 3, 4, 5, 6, 7, 8, 9, 10, 11, 12, 13, 14, 15, 16] (0) (by kernel_rfl) ?_
        intro hq w12 e12; have hz12 := e12.size
        refine Wx.pure hq rfl rfl rfl rfl zfa ?_
        refine Wx.val hq rfl rfl rfl rfl ([]) zrs ?_
        refine Wx.pure hq rfl rfl rfl rfl zmv ?_
        refine Wx.pure hq rfl rfl rfl rfl (rp_indexAddr i rfl rfl rfl rfl rfl hs.bls.ptr rfl hlt) ?_
        refine Wx.val hq rfl rfl rfl rfl ([]) (rv_load rfl rfl (fun u hu => ld_field blc_len (hs.bls.row.ext0 zxc) hlt 0 rfl (by decide) rfl)) ?_
        refine Wx.pure hq rfl rfl rfl rfl zmv ?_
        refine Wx.pure hq rfl rfl rfl rfl (rp_indexAddr k rfl rfl rfl rfl rfl hL.ptr rfl hk1) ?_
        refine Wx.val hq rfl rfl rfl rfl ([]) (rv_load rfl rfl (fun u hu => ld_elem cc_len (hL.row.ext0 zxc) hk1 rfl rfl)) ?_
        refine Wx.pure hq rfl rfl rfl rfl zfa ?_
        refine Wx.val hq rfl rfl rfl rfl ([]) zrs ?_
        refine Wx.pure hq rfl rfl rfl rfl zmv ?_
        refine Wx.pure hq rfl rfl rfl rfl (rp_indexAddr i rfl rfl rfl rfl rfl ht.bls.ptr rfl hlt2) ?_
        refine Wx.val hq rfl rfl rfl rfl ([]) (rv_load rfl rfl (fun u hu => ld_field blc_len (ht.bls.row.ext0 zxc) hlt2 0 rfl (by decide) rfl)) ?_
        refine Wx.pure hq rfl rfl rfl rfl zmv ?_
        refine Wx.pure hq rfl rfl rfl rfl (rp_indexAddr k rfl rfl rfl rfl rfl hM.ptr rfl hk2) ?_
        refine Wx.val hq rfl rfl rfl rfl ([]) (rv_load rfl rfl (fun u hu => ld_elem cc_len (hM.row.ext0 zxc) hk2 rfl rfl)) ?_
        refine Wx.pure hq rfl rfl rfl rfl (by first | exact rp_neA_t rfl egCg rfl rfl (eqCg s.bls[i].l[k] t.bls[i].l[k]) (by assumption) | exact rp_neA_f rfl egCg rfl rfl (eqCg s.bls[i].l[k] t.bls[i].l[k]) (by assumption)) ?_
        refine Wx.fin ?_
        refine zct ?_
        refine ztx ?_
        refine Ox.pure rfl rfl zas ?_
        refine Ox.fin ?_
        refine zrt ?_
        exact endE_ret [_] ⟨rfl, trivial⟩ ⟨zxc, congrArg Value.bool (decide_eq_false (bls_ne hlt hlt2 (fun h => he (by simp only [h])))).symm⟩
    · rw [List.take_of_length_le (by omega), List.take_of_length_le (by omega)] at hfk
      refine ztx ?_
      refine Ox.pure rfl rfl zmv ?_
      refine Ox.pure rfl rfl zfa ?_
      refine Ox.val rfl rfl zrs ?_
      refine Ox.pure rfl rfl zmv ?_
      refine Ox.pure rfl rfl (rp_indexAddr i rfl rfl rfl rfl rfl hs.bls.ptr rfl hlt) ?_
      refine Ox.val rfl rfl (rv_load rfl rfl (fun u hu => ld_field blc_len (hs.bls.row.ext0 zxc) hlt 0 rfl (by decide) rfl)) ?_
      refine Ox.pure rfl rfl (rp_lenS rfl rfl rfl) ?_
      refine Ox.pure rfl rfl zbc ?_
      refine Ox.fin ?_
      refine zcf ?_
      refine zex ?_
      refine ztx ?_
      refine Ox.pure rfl rfl zmv ?_
      refine Ox.pure rfl rfl zba ?_
      refine Ox.pure rfl rfl zas ?_
      refine Ox.fin ?_
      exact ⟨i + 1, _, sub_cons rfl (sub_cons rfl (sub_cons rfl sub_nil)), ⟨rfl, hlt, bls_step hlt hlt2 hf hfk, zxc⟩, by omega⟩
  have hsame : s.bls.map Bl.l = t.bls.map Bl.l := by rwa [List.take_of_length_le (by omega), List.take_of_length_le (by omega)] at hf
  refine ztx ?_
  refine Ox.pure rfl rfl zmv ?_
  refine Ox.pure rfl rfl zfa ?_
  refine Ox.val rfl rfl zrs ?_
  refine Ox.pure rfl rfl (rp_lenS rfl rfl rfl) ?_
  refine Ox.pure rfl rfl zbc ?_
  refine Ox.fin ?_
  refine zcf ?_
  refine zex ?_
  refine ztx ?_
  refine Ox.pure rfl rfl zas ?_
  refine Ox.fin ?_
  refine zbl ?_
  refine Sx.loop (ι := Nat) (fun i E wr => E = [(2, .pointer (some ⟨bb1, 0, none⟩)), (3, .pointer (some ⟨bb2, 0, none⟩)), (7, .int .i64 (i : Int))] ∧ i ≤ s.par.length ∧ s.par.take i = t.par.take i ∧ Ext [] wb2 wr) (fun i => s.par.length - i) 0
    (sub_cons rfl (sub_cons rfl (sub_cons rfl sub_nil))) ⟨rfl, Nat.zero_le _, rfl, zxc⟩ ?_
  rintro i E wr ⟨rfl, hi, hf, er⟩
  have hf1 := hs.par.few
  by_cases hlt : i < s.par.length
  · have hlt2 : i < t.par.length := by omega
    by_cases he : s.par[i] = t.par[i]
    · refine ztx ?_
      refine Ox.pure rfl rfl zmv ?_
      refine Ox.pure rfl rfl zfa ?_
      refine Ox.val rfl rfl zrs ?_
      refine Ox.pure rfl rfl (rp_lenS rfl rfl rfl) ?_
      refine Ox.pure rfl rfl zbc ?_
      refine Ox.fin ?_
      refine zct ?_
      refine zsk ?_
      refine zbl ?_
      (repeat refine Sx.seq ?_)
      refine Sx.walkR rfl (fun _ _ _ _ h => h) [0, 1, 2, 3, 4, 5, 6, 7, 8, 9, 10] [0, 1, 2, 3, 4, 5, 6, 7, 8, 9, 10] (0) (by kernel_rfl) ?_
      intro hq w13 e13; have hz13 := e13.size
      refine Wx.pure hq rfl rfl rfl rfl zfa ?_
      refine Wx.val hq rfl rfl rfl rfl ([]) zrs ?_
      refine Wx.pure hq rfl rfl rfl rfl zmv ?_
      refine Wx.pure hq rfl rfl rfl rfl (rp_indexAddr i rfl rfl rfl rfl rfl hs.par.ptr rfl hlt) ?_
      refine Wx.val hq rfl rfl rfl rfl ([]) (rv_load rfl rfl (fun u hu => ld_field ic_len (hs.par.row.ext0 zxc) hlt 0 rfl (by decide) rfl)) ?_
      refine Wx.pure hq rfl rfl rfl rfl zfa ?_
      refine Wx.val hq rfl rfl rfl rfl ([]) zrs ?_
      refine Wx.pure hq rfl rfl rfl rfl zmv ?_
      refine Wx.pure hq rfl rfl rfl rfl (rp_indexAddr i rfl rfl rfl rfl rfl ht.par.ptr rfl hlt2) ?_
      refine Wx.val hq rfl rfl rfl rfl ([]) (rv_load rfl rfl (fun u hu => ld_field ic_len (ht.par.row.ext0 zxc) hlt2 0 rfl (by decide) rfl)) ?_
      refine Wx.pure hq rfl rfl rfl rfl zbc ?_
      refine Wx.fin ?_
      refine zcf ?_
      refine zsk ?_
      refine ztx ?_
      refine Ox.pure rfl rfl zmv ?_
      refine Ox.pure rfl rfl zba ?_
      refine Ox.pure rfl rfl zas ?_
      refine Ox.fin ?_
      exact ⟨i + 1, _, sub_cons rfl (sub_cons rfl (sub_cons rfl sub_nil)), ⟨rfl, hlt, take_eq_step hlt hlt2 hf he, zxc⟩, by omega⟩
    · refine ztx ?_
      refine Ox.pure rfl rfl zmv ?_
      refine Ox.pure rfl rfl zfa ?_
      refine Ox.val rfl rfl zrs ?_
      refine Ox.pure rfl rfl (rp_lenS rfl rfl rfl) ?_
      refine Ox.pure rfl rfl zbc ?_
      refine Ox.fin ?_
      refine zct ?_
      refine zsk ?_
      refine zbl ?_
      (repeat refine Sx.seq ?_)
      refine Sx.walkR rfl (fun _ _ _ _ h => h) [0, 1, 2, 3, 4, 5, 6, 7, 8, 9, 10] [0, 1, 2, 3, 4, 5, 6, 7, 8, 9, 10] (0) (by kernel_rfl) ?_
      intro hq w14 e14; have hz14 := e14.size
      refine Wx.pure hq rfl rfl rfl rfl zfa ?_
      refine Wx.val hq rfl rfl rfl rfl ([]) zrs ?_
      refine Wx.pure hq rfl rfl rfl rfl zmv ?_
      refine Wx.pure hq rfl rfl rfl rfl (rp_indexAddr i rfl rfl rfl rfl rfl hs.par.ptr rfl hlt) ?_
      refine Wx.val hq rfl rfl rfl rfl ([]) (rv_load rfl rfl (fun u hu => ld_field ic_len (hs.par.row.ext0 zxc) hlt 0 rfl (by decide) rfl)) ?_
      refine Wx.pure hq rfl rfl rfl rfl zfa ?_
      refine Wx.val hq rfl rfl rfl rfl ([]) zrs ?_
      refine Wx.pure hq rfl rfl rfl rfl zmv ?_
      refine Wx.pure hq rfl rfl rfl rfl (rp_indexAddr i rfl rfl rfl rfl rfl ht.par.ptr rfl hlt2) ?_
      refine Wx.val hq rfl rfl rfl rfl ([]) (rv_load rfl rfl (fun u hu => ld_field ic_len (ht.par.row.ext0 zxc) hlt2 0 rfl (by decide) rfl)) ?_
      refine Wx.pure hq rfl rfl rfl rfl zbc ?_
      refine Wx.fin ?_
      refine zct ?_
      refine ztx ?_
      refine Ox.pure rfl rfl zas ?_
      refine Ox.fin ?_
      refine zrt ?_
      exact endE_ret [_] ⟨rfl, trivial⟩ ⟨zxc, congrArg Value.bool (decide_eq_false (fun h => he (by have q9 : s.par = t.par := congrArg Br.par h; simp only [q9]))).symm⟩
  have hsame_par : s.par = t.par := by rwa [List.take_of_length_le (by omega), List.take_of_length_le (by omega)] at hf
  refine ztx ?_
  refine Ox.pure rfl rfl zmv ?_
  refine Ox.pure rfl rfl zfa ?_
  refine Ox.val rfl rfl zrs ?_
  refine Ox.pure rfl rfl (rp_lenS rfl rfl rfl) ?_
  refine Ox.pure rfl rfl zbc ?_
  refine Ox.fin ?_
  refine zcf ?_
  refine zex ?_
  refine ztx ?_
  refine Ox.pure rfl rfl zas ?_
  refine Ox.fin ?_
  refine zbl ?_
  refine Sx.loop (ι := Nat) (fun i E wr => E = [(2, .pointer (some ⟨bb1, 0, none⟩)), (3, .pointer (some ⟨bb2, 0, none⟩)), (8, .int .i64 (i : Int))] ∧ i ≤ s.fks.length ∧ s.fks.take i = t.fks.take i ∧ Ext [] wb2 wr) (fun i => s.fks.length - i) 0
    (sub_cons rfl (sub_cons rfl (sub_cons rfl sub_nil))) ⟨rfl, Nat.zero_le _, rfl, zxc⟩ ?_
  rintro i E wr ⟨rfl, hi, hf, er⟩
  have hf1 := hs.fks.few
  by_cases hlt : i < s.fks.length
  · have hlt2 : i < t.fks.length := by omega
    by_cases he : s.fks[i] = t.fks[i]
    · refine ztx ?_
      refine Ox.pure rfl rfl zmv ?_
      refine Ox.pure rfl rfl zfa ?_
      refine Ox.val rfl rfl zrs ?_
      refine Ox.pure rfl rfl (rp_lenS rfl rfl rfl) ?_
      refine Ox.pure rfl rfl zbc ?_
      refine Ox.fin ?_
      refine zct ?_
      refine zsk ?_
      refine zbl ?_
      (repeat refine Sx.seq ?_)
      refine Sx.walkR rfl (fun _ _ _ _ h => h) [0, 1, 2, 3, 4, 5, 6, 7, 8, 9, 10] [0, 1, 2, 3, 4, 5, 6, 7, 8, 9, 10] (0) (by kernel_rfl) ?_
      intro hq w15 e15; have hz15 := e15.size
      refine Wx.pure hq rfl rfl rfl rfl zfa ?_
      refine Wx.val hq rfl rfl rfl rfl ([]) zrs ?_
      refine Wx.pure hq rfl rfl rfl rfl zmv ?_
      refine Wx.pure hq rfl rfl rfl rfl (rp_indexAddr i rfl rfl rfl rfl rfl hs.fks.ptr rfl hlt) ?_
      refine Wx.val hq rfl rfl rfl rfl ([]) (rv_load rfl rfl (fun u hu => ld_field ic_len (hs.fks.row.ext0 zxc) hlt 0 rfl (by decide) rfl)) ?_
      refine Wx.pure hq rfl rfl rfl rfl zfa ?_
      refine Wx.val hq rfl rfl rfl rfl ([]) zrs ?_
      refine Wx.pure hq rfl rfl rfl rfl zmv ?_
      refine Wx.pure hq rfl rfl rfl rfl (rp_indexAddr i rfl rfl rfl rfl rfl ht.fks.ptr rfl hlt2) ?_
      refine Wx.val hq rfl rfl rfl rfl ([]) (rv_load rfl rfl (fun u hu => ld_field ic_len (ht.fks.row.ext0 zxc) hlt2 0 rfl (by decide) rfl)) ?_
      refine Wx.pure hq rfl rfl rfl rfl zbc ?_
      refine Wx.fin ?_
      refine zcf ?_
      refine zsk ?_
      refine ztx ?_
      refine Ox.pure rfl rfl zmv ?_
      refine Ox.pure rfl rfl zba ?_
      refine Ox.pure rfl rfl zas ?_
      refine Ox.fin ?_
      exact ⟨i + 1, _, sub_cons rfl (sub_cons rfl (sub_cons rfl sub_nil)), ⟨rfl, hlt, take_eq_step hlt hlt2 hf he, zxc⟩, by omega⟩
    · refine ztx ?_
      refine Ox.pure rfl rfl zmv ?_
      refine Ox.pure rfl rfl zfa ?_
      refine Ox.val rfl rfl zrs ?_
      refine Ox.pure rfl rfl (rp_lenS rfl rfl rfl) ?_
      refine Ox.pure rfl rfl zbc ?_
      refine Ox.fin ?_
      refine zct ?_
      refine zsk ?_
      refine zbl ?_
      (repeat refine Sx.seq ?_)
      refine Sx.walkR rfl (fun _ _ _ _ h => h) [0, 1, 2, 3, 4, 5, 6, 7, 8, 9, 10] [0, 1, 2, 3, 4, 5, 6, 7, 8, 9, 10] (0) (by kernel_rfl) ?_
      intro hq w16 e16; have hz16 := e16.size
      refine Wx.pure hq rfl rfl rfl rfl zfa ?_
      refine Wx.val hq rfl rfl rfl rfl ([]) zrs ?_
      refine Wx.pure hq rfl rfl rfl rfl zmv ?_
      refine Wx.pure hq rfl rfl rfl rfl (rp_indexAddr i rfl rfl rfl rfl rfl hs.fks.ptr rfl hlt) ?_
      refine Wx.val hq rfl rfl rfl rfl ([]) (rv_load rfl rfl (fun u hu => ld_field ic_len (hs.fks.row.ext0 zxc) hlt 0 rfl (by decide) rfl)) ?_
      refine Wx.pure hq rfl rfl rfl rfl zfa ?_
      refine Wx.val hq rfl rfl rfl rfl ([]) zrs ?_
      refine Wx.pure hq rfl rfl rfl rfl zmv ?_
      refine Wx.pure hq rfl rfl rfl rfl (rp_indexAddr i rfl rfl rfl rfl rfl ht.fks.ptr rfl hlt2) ?_
      refine Wx.val hq rfl rfl rfl rfl ([]) (rv_load rfl rfl (fun u hu => ld_field ic_len (ht.fks.row.ext0 zxc) hlt2 0 rfl (by decide) rfl)) ?_
      refine Wx.pure hq rfl rfl rfl rfl zbc ?_
      refine Wx.fin ?_
      refine zct ?_
      refine ztx ?_
      refine Ox.pure rfl rfl zas ?_
      refine Ox.fin ?_
      refine zrt ?_
      exact endE_ret [_] ⟨rfl, trivial⟩ ⟨zxc, congrArg Value.bool (decide_eq_false (fun h => he (by have q9 : s.fks = t.fks := congrArg Br.fks h; simp only [q9]))).symm⟩
  have hsame_fks : s.fks = t.fks := by rwa [List.take_of_length_le (by omega), List.take_of_length_le (by omega)] at hf
  refine ztx ?_
  refine Ox.pure rfl rfl zmv ?_
  refine Ox.pure rfl rfl zfa ?_
  refine Ox.val rfl rfl zrs ?_
  refine Ox.pure rfl rfl (rp_lenS rfl rfl rfl) ?_
  refine Ox.pure rfl rfl zbc ?_
  refine Ox.fin ?_
  refine zcf ?_
  refine zex ?_
  refine ztx ?_
  refine Ox.pure rfl rfl zas ?_
  refine Ox.fin ?_
  refine zbl ?_
  refine Sx.loop (ι := Nat) (fun i E wr => E = [(2, .pointer (some ⟨bb1, 0, none⟩)), (3, .pointer (some ⟨bb2, 0, none⟩)), (9, .int .i64 (i : Int))] ∧ i ≤ s.done.length ∧ s.done.take i = t.done.take i ∧ Ext [] wb2 wr) (fun i => s.done.length - i) 0
    (sub_cons rfl (sub_cons rfl (sub_cons rfl sub_nil))) ⟨rfl, Nat.zero_le _, rfl, zxc⟩ ?_
  rintro i E wr ⟨rfl, hi, hf, er⟩
  have hf1 := hs.done.few
  by_cases hlt : i < s.done.length
  · have hlt2 : i < t.done.length := by omega
    by_cases he : s.done[i] = t.done[i]
    · refine ztx ?_
      refine Ox.pure rfl rfl zmv ?_
      refine Ox.pure rfl rfl zfa ?_
      refine Ox.val rfl rfl zrs ?_
      refine Ox.pure rfl rfl (rp_lenS rfl rfl rfl) ?_
      refine Ox.pure rfl rfl zbc ?_
      refine Ox.fin ?_
      refine zct ?_
      refine zsk ?_
      refine zbl ?_
      (repeat refine Sx.seq ?_)
      refine Sx.walkR rfl (fun _ _ _ _ h => h) [0, 1, 2, 3, 4, 5, 6, 7, 8, 9, 10] [0, 1, 2, 3, 4, 5, 6, 7, 8, 9, 10] (0) (by kernel_rfl) ?_
      intro hq w17 e17; have hz17 := e17.size
      refine Wx.pure hq rfl rfl rfl rfl zfa ?_
      refine Wx.val hq rfl rfl rfl rfl ([]) zrs ?_
      refine Wx.pure hq rfl rfl rfl rfl zmv ?_
      refine Wx.pure hq rfl rfl rfl rfl (rp_indexAddr i rfl rfl rfl rfl rfl hs.done.ptr rfl hlt) ?_
      refine Wx.val hq rfl rfl rfl rfl ([]) (rv_load rfl rfl (fun u hu => ld_field boc_len (hs.done.row.ext0 zxc) hlt 0 rfl (by decide) rfl)) ?_
      refine Wx.pure hq rfl rfl rfl rfl zfa ?_
      refine Wx.val hq rfl rfl rfl rfl ([]) zrs ?_
      refine Wx.pure hq rfl rfl rfl rfl zmv ?_
      refine Wx.pure hq rfl rfl rfl rfl (rp_indexAddr i rfl rfl rfl rfl rfl ht.done.ptr rfl hlt2) ?_
      refine Wx.val hq rfl rfl rfl rfl ([]) (rv_load rfl rfl (fun u hu => ld_field boc_len (ht.done.row.ext0 zxc) hlt2 0 rfl (by decide) rfl)) ?_
      refine Wx.pure hq rfl rfl rfl rfl (by first | exact neb_t rfl rfl rfl rfl (by assumption) | exact neb_f rfl rfl rfl rfl (by assumption)) ?_
      refine Wx.fin ?_
      refine zcf ?_
      refine zsk ?_
      refine ztx ?_
      refine Ox.pure rfl rfl zmv ?_
      refine Ox.pure rfl rfl zba ?_
      refine Ox.pure rfl rfl zas ?_
      refine Ox.fin ?_
      exact ⟨i + 1, _, sub_cons rfl (sub_cons rfl (sub_cons rfl sub_nil)), ⟨rfl, hlt, take_eq_step hlt hlt2 hf he, zxc⟩, by omega⟩
    · refine ztx ?_
      refine Ox.pure rfl rfl zmv ?_
      refine Ox.pure rfl rfl zfa ?_
      refine Ox.val rfl rfl zrs ?_
      refine Ox.pure rfl rfl (rp_lenS rfl rfl rfl) ?_
      refine Ox.pure rfl rfl zbc ?_
      refine Ox.fin ?_
      refine zct ?_
      refine zsk ?_
      refine zbl ?_
      (repeat refine Sx.seq ?_)
      refine Sx.walkR rfl (fun _ _ _ _ h => h) [0, 1, 2, 3, 4, 5, 6, 7, 8, 9, 10] [0, 1, 2, 3, 4, 5, 6, 7, 8, 9, 10] (0) (by kernel_rfl) ?_
      intro hq w18 e18; have hz18 := e18.size
      refine Wx.pure hq rfl rfl rfl rfl zfa ?_
      refine Wx.val hq rfl rfl rfl rfl ([]) zrs ?_
      refine Wx.pure hq rfl rfl rfl rfl zmv ?_
      refine Wx.pure hq rfl rfl rfl rfl (rp_indexAddr i rfl rfl rfl rfl rfl hs.done.ptr rfl hlt) ?_
      refine Wx.val hq rfl rfl rfl rfl ([]) (rv_load rfl rfl (fun u hu => ld_field boc_len (hs.done.row.ext0 zxc) hlt 0 rfl (by decide) rfl)) ?_
      refine Wx.pure hq rfl rfl rfl rfl zfa ?_
      refine Wx.val hq rfl rfl rfl rfl ([]) zrs ?_
      refine Wx.pure hq rfl rfl rfl rfl zmv ?_
      refine Wx.pure hq rfl rfl rfl rfl (rp_indexAddr i rfl rfl rfl rfl rfl ht.done.ptr rfl hlt2) ?_
      refine Wx.val hq rfl rfl rfl rfl ([]) (rv_load rfl rfl (fun u hu => ld_field boc_len (ht.done.row.ext0 zxc) hlt2 0 rfl (by decide) rfl)) ?_
      refine Wx.pure hq rfl rfl rfl rfl (by first | exact neb_t rfl rfl rfl rfl (by assumption) | exact neb_f rfl rfl rfl rfl (by assumption)) ?_
      refine Wx.fin ?_
      refine zct ?_
      refine ztx ?_
      refine Ox.pure rfl rfl zas ?_
      refine Ox.fin ?_
      refine zrt ?_
      exact endE_ret [_] ⟨rfl, trivial⟩ ⟨zxc, congrArg Value.bool (decide_eq_false (fun h => he (by have q9 : s.done = t.done := congrArg Br.done h; simp only [q9]))).symm⟩
  have hsame_done : s.done = t.done := by rwa [List.take_of_length_le (by omega), List.take_of_length_le (by omega)] at hf
  refine ztx ?_
  refine Ox.pure rfl rfl zmv ?_
  refine Ox.pure rfl rfl zfa ?_
  refine Ox.val rfl rfl zrs ?_
  refine Ox.pure rfl rfl (rp_lenS rfl rfl rfl) ?_
  refine Ox.pure rfl rfl zbc ?_
  refine Ox.fin ?_
  refine zcf ?_
  refine zex ?_
  refine ztx ?_
  refine Ox.pure rfl rfl zas ?_
  refine Ox.fin ?_
  refine zrt ?_
  exact endE_ret [_] ⟨rfl, trivial⟩ ⟨zxc, congrArg Value.bool (decide_eq_true (Br.eq_iff.2 ⟨by assumption, hsame, hsame_par, hsame_fks, hsame_done⟩)).symm⟩

end Go.Proofs.Ytfgckcochilpkaa

/- Branches' walks: how many. -/
set_option linter.unusedVariables false
set_option maxRecDepth 100000
set_option maxHeartbeats 4000000
set_option linter.unusedSimpArgs false
namespace Go.Proofs.Ytfgckcochilpkaa
open Go Go.Eng

def sumB (b : Br) : Nat := (b.brs.map List.length).sum
def FewB (b : Br) : Prop := b.base.length ≤ 30 ∧ sumB b ≤ 24 ∧ b.brs.length ≤ 70 ∧ b.par.length ≤ 80 ∧ b.fks.length ≤ 80 ∧ b.done.length ≤ 80 ∧ (sumB b = 0 ∨ b.brs.length ≤ 8)
instance (b : Br) : Decidable (FewB b) := by unfold FewB; infer_instance
theorem sum_step {ls : List Bl} {i : Nat} (h : i < ls.length) : ((ls.take (i + 1)).map (fun x => x.l.length)).sum = ((ls.take i).map (fun x => x.l.length)).sum + ls[i].l.length := by
  rw [← List.take_append_getElem h, List.map_append, List.sum_append]; simp
theorem sumB_br (s : Bs) : sumB s.br = (s.bls.map (fun x => x.l.length)).sum := by
  unfold sumB Bs.br; simp only [List.map_map]; rfl
theorem ref_FewB_many (s : Bs) (w : World) (hs : BsIn s w) (h70 : ¬ s.bls.length ≤ 70) :
    Calls Try.prog 11 #[.agg (bvc s).toArray] w (Ret fun r w' => Ext [] w w' ∧ r = .bool false) := by
  have hbl := br_len s
  have hf1 := hs.bls.few
  refine calls_of_Sx (args := [.agg (bvc s).toArray]) Try.func11 rfl rfl ?_
  refine ztx ?_
  refine Ox.act rfl rfl (acts_box rfl rfl) ?_
  rintro vb1 wb1 ⟨eb1, bb1, rfl, hbb1, hBb1⟩
  first | (have hCb1 : Cells wb1 ⟨bb1, 0, none⟩ [_, _, _, _, _] := hBb1.cells) | have hCb1 := Blk.cellsL hBb1
  have hlb1 := hBb1.lt
  have hzb1 := eb1.size
  refine Ox.pure rfl rfl zas ?_
  refine Ox.fin ?_
  refine ztx ?_
  refine Ox.pure rfl rfl zas ?_
  refine Ox.fin ?_
  refine ztx ?_
  refine Ox.pure rfl rfl zas ?_
  refine Ox.fin ?_
  refine zbl ?_
  refine Sx.loop (ι := Nat × Int) (fun i E wr => E = [(1, .pointer (some ⟨bb1, 0, none⟩)), (3, .int .i64 i.2), (4, .int .i64 (i.1 : Int))] ∧ i.1 ≤ s.bls.length ∧ Ext [] wb1 wr) (fun i => s.bls.length - i.1) (0, 0)
    (sub_cons rfl (sub_cons rfl (sub_cons rfl sub_nil))) ⟨rfl, Nat.zero_le _, zxc⟩ ?_
  rintro ⟨i, n⟩ E wr ⟨rfl, hi, er⟩
  dsimp only at hi ⊢
  by_cases hlt : i < s.bls.length
  · 
    refine ztx ?_
    refine Ox.pure rfl rfl zmv ?_
    refine Ox.pure rfl rfl zfa ?_
    refine Ox.val rfl rfl zrs ?_
    refine Ox.pure rfl rfl (rp_lenS rfl rfl rfl) ?_
    refine Ox.pure rfl rfl zbc ?_
    refine Ox.fin ?_
    refine zct ?_
    refine zsk ?_
    refine zbl ?_
    refine ztx ?_
    refine Ox.pure rfl rfl zmv ?_
    refine Ox.pure rfl rfl zfa ?_
    refine Ox.val rfl rfl zrs ?_
    refine Ox.pure rfl rfl zmv ?_
    refine Ox.pure rfl rfl (rp_indexAddr i rfl rfl rfl rfl rfl hs.bls.ptr rfl hlt) ?_
    refine Ox.val rfl rfl (rv_load rfl rfl (fun u hu => ld_field blc_len (hs.bls.row.ext0 zxc) hlt 0 rfl (by decide) rfl)) ?_
    refine Ox.pure rfl rfl (rp_lenS rfl rfl rfl) ?_
    refine Ox.pure rfl rfl (rp_bin rfl rfl rfl rfl) ?_
    refine Ox.pure rfl rfl zas ?_
    refine Ox.fin ?_
    refine ztx ?_
    refine Ox.pure rfl rfl zmv ?_
    refine Ox.pure rfl rfl zba ?_
    refine Ox.pure rfl rfl zas ?_
    refine Ox.fin ?_
    exact ⟨(i + 1, _), _, sub_cons rfl (sub_cons rfl (sub_cons rfl sub_nil)), ⟨rfl, hlt, zxc⟩, by dsimp only; omega⟩
  refine ztx ?_
  refine Ox.pure rfl rfl zmv ?_
  refine Ox.pure rfl rfl zfa ?_
  refine Ox.val rfl rfl zrs ?_
  refine Ox.pure rfl rfl (rp_lenS rfl rfl rfl) ?_
  refine Ox.pure rfl rfl zbc ?_
  refine Ox.fin ?_
  refine zcf ?_
  refine zex ?_
  by_cases hch1 : s.base.length ≤ 30; rotate_left
  ·   refine ztx ?_
      refine Ox.pure rfl rfl zfa ?_
      refine Ox.val rfl rfl zrs ?_
      refine Ox.pure rfl rfl (rp_lenS rfl rfl rfl) ?_
      refine Ox.pure rfl rfl zbc ?_
      refine Ox.pure rfl rfl zmv ?_
      first | (refine Ox.skip rfl rfl ?_) | (refine Ox.pure rfl rfl zmv ?_)
      first | (refine Ox.skip rfl rfl ?_) | (refine Ox.pure rfl rfl zbc ?_)
      refine Ox.pure rfl rfl zpk ?_
      refine Ox.pure rfl rfl zmv ?_
      first | (refine Ox.skip rfl rfl ?_) | (refine Ox.pure rfl rfl zfa ?_)
      first | (refine Ox.skip rfl rfl ?_) | (refine Ox.val rfl rfl zrs ?_)
      first | (refine Ox.skip rfl rfl ?_) | (refine Ox.pure rfl rfl (rp_lenS rfl rfl rfl) ?_)
      first | (refine Ox.skip rfl rfl ?_) | (refine Ox.pure rfl rfl zbc ?_)
      refine Ox.pure rfl rfl zpk ?_
      refine Ox.pure rfl rfl zmv ?_
      first | (refine Ox.skip rfl rfl ?_) | (refine Ox.pure rfl rfl zfa ?_)
      first | (refine Ox.skip rfl rfl ?_) | (refine Ox.val rfl rfl zrs ?_)
      first | (refine Ox.skip rfl rfl ?_) | (refine Ox.pure rfl rfl (rp_lenS rfl rfl rfl) ?_)
      first | (refine Ox.skip rfl rfl ?_) | (refine Ox.pure rfl rfl zbc ?_)
      refine Ox.pure rfl rfl zpk ?_
      refine Ox.pure rfl rfl zmv ?_
      first | (refine Ox.skip rfl rfl ?_) | (refine Ox.pure rfl rfl zfa ?_)
      first | (refine Ox.skip rfl rfl ?_) | (refine Ox.val rfl rfl zrs ?_)
      first | (refine Ox.skip rfl rfl ?_) | (refine Ox.pure rfl rfl (rp_lenS rfl rfl rfl) ?_)
      first | (refine Ox.skip rfl rfl ?_) | (refine Ox.pure rfl rfl zbc ?_)
      refine Ox.pure rfl rfl zpk ?_
      refine Ox.pure rfl rfl zmv ?_
      first | (refine Ox.skip rfl rfl ?_) | (refine Ox.pure rfl rfl zfa ?_)
      first | (refine Ox.skip rfl rfl ?_) | (refine Ox.val rfl rfl zrs ?_)
      first | (refine Ox.skip rfl rfl ?_) | (refine Ox.pure rfl rfl (rp_lenS rfl rfl rfl) ?_)
      first | (refine Ox.skip rfl rfl ?_) | (refine Ox.pure rfl rfl zbc ?_)
      refine Ox.pure rfl rfl zpk ?_
      refine Ox.pure rfl rfl zmv ?_
      first | (refine Ox.skip rfl rfl ?_) | (refine Ox.pure rfl rfl zmv ?_)
      first | (refine Ox.skip rfl rfl ?_) | (refine Ox.pure rfl rfl zbc ?_)
      first | (refine Ox.skip rfl rfl ?_) | (refine Ox.pure rfl rfl zmv ?_)
      first | (refine Ox.skip rfl rfl ?_) | (refine Ox.pure rfl rfl zfa ?_)
      first | (refine Ox.skip rfl rfl ?_) | (refine Ox.val rfl rfl zrs ?_)
      first | (refine Ox.skip rfl rfl ?_) | (refine Ox.pure rfl rfl (rp_lenS rfl rfl rfl) ?_)
      first | (refine Ox.skip rfl rfl ?_) | (refine Ox.pure rfl rfl zbc ?_)
      first | (refine Ox.skip rfl rfl ?_) | (refine Ox.pure rfl rfl zpk ?_)
      refine Ox.pure rfl rfl zpk ?_
      refine Ox.pure rfl rfl zas ?_
      refine Ox.fin ?_
      refine zrt ?_
      exact endE_ret [_] ⟨rfl, trivial⟩ ⟨zxc, rfl⟩
  by_cases hch2 : n ≤ 24; rotate_left
  ·   refine ztx ?_
      refine Ox.pure rfl rfl zfa ?_
      refine Ox.val rfl rfl zrs ?_
      refine Ox.pure rfl rfl (rp_lenS rfl rfl rfl) ?_
      refine Ox.pure rfl rfl zbc ?_
      refine Ox.pure rfl rfl zmv ?_
      first | (refine Ox.skip rfl rfl ?_) | (refine Ox.pure rfl rfl zmv ?_)
      first | (refine Ox.skip rfl rfl ?_) | (refine Ox.pure rfl rfl zbc ?_)
      refine Ox.pure rfl rfl zpk ?_
      refine Ox.pure rfl rfl zmv ?_
      first | (refine Ox.skip rfl rfl ?_) | (refine Ox.pure rfl rfl zfa ?_)
      first | (refine Ox.skip rfl rfl ?_) | (refine Ox.val rfl rfl zrs ?_)
      first | (refine Ox.skip rfl rfl ?_) | (refine Ox.pure rfl rfl (rp_lenS rfl rfl rfl) ?_)
      first | (refine Ox.skip rfl rfl ?_) | (refine Ox.pure rfl rfl zbc ?_)
      refine Ox.pure rfl rfl zpk ?_
      refine Ox.pure rfl rfl zmv ?_
      first | (refine Ox.skip rfl rfl ?_) | (refine Ox.pure rfl rfl zfa ?_)
      first | (refine Ox.skip rfl rfl ?_) | (refine Ox.val rfl rfl zrs ?_)
      first | (refine Ox.skip rfl rfl ?_) | (refine Ox.pure rfl rfl (rp_lenS rfl rfl rfl) ?_)
      first | (refine Ox.skip rfl rfl ?_) | (refine Ox.pure rfl rfl zbc ?_)
      refine Ox.pure rfl rfl zpk ?_
      refine Ox.pure rfl rfl zmv ?_
      first | (refine Ox.skip rfl rfl ?_) | (refine Ox.pure rfl rfl zfa ?_)
      first | (refine Ox.skip rfl rfl ?_) | (refine Ox.val rfl rfl zrs ?_)
      first | (refine Ox.skip rfl rfl ?_) | (refine Ox.pure rfl rfl (rp_lenS rfl rfl rfl) ?_)
      first | (refine Ox.skip rfl rfl ?_) | (refine Ox.pure rfl rfl zbc ?_)
      refine Ox.pure rfl rfl zpk ?_
      refine Ox.pure rfl rfl zmv ?_
      first | (refine Ox.skip rfl rfl ?_) | (refine Ox.pure rfl rfl zfa ?_)
      first | (refine Ox.skip rfl rfl ?_) | (refine Ox.val rfl rfl zrs ?_)
      first | (refine Ox.skip rfl rfl ?_) | (refine Ox.pure rfl rfl (rp_lenS rfl rfl rfl) ?_)
      first | (refine Ox.skip rfl rfl ?_) | (refine Ox.pure rfl rfl zbc ?_)
      refine Ox.pure rfl rfl zpk ?_
      refine Ox.pure rfl rfl zmv ?_
      first | (refine Ox.skip rfl rfl ?_) | (refine Ox.pure rfl rfl zmv ?_)
      first | (refine Ox.skip rfl rfl ?_) | (refine Ox.pure rfl rfl zbc ?_)
      first | (refine Ox.skip rfl rfl ?_) | (refine Ox.pure rfl rfl zmv ?_)
      first | (refine Ox.skip rfl rfl ?_) | (refine Ox.pure rfl rfl zfa ?_)
      first | (refine Ox.skip rfl rfl ?_) | (refine Ox.val rfl rfl zrs ?_)
      first | (refine Ox.skip rfl rfl ?_) | (refine Ox.pure rfl rfl (rp_lenS rfl rfl rfl) ?_)
      first | (refine Ox.skip rfl rfl ?_) | (refine Ox.pure rfl rfl zbc ?_)
      first | (refine Ox.skip rfl rfl ?_) | (refine Ox.pure rfl rfl zpk ?_)
      refine Ox.pure rfl rfl zpk ?_
      refine Ox.pure rfl rfl zas ?_
      refine Ox.fin ?_
      refine zrt ?_
      exact endE_ret [_] ⟨rfl, trivial⟩ ⟨zxc, rfl⟩
  refine ztx ?_
  refine Ox.pure rfl rfl zfa ?_
  refine Ox.val rfl rfl zrs ?_
  refine Ox.pure rfl rfl (rp_lenS rfl rfl rfl) ?_
  refine Ox.pure rfl rfl zbc ?_
  refine Ox.pure rfl rfl zmv ?_
  first | (refine Ox.skip rfl rfl ?_) | (refine Ox.pure rfl rfl zmv ?_)
  first | (refine Ox.skip rfl rfl ?_) | (refine Ox.pure rfl rfl zbc ?_)
  refine Ox.pure rfl rfl zpk ?_
  refine Ox.pure rfl rfl zmv ?_
  first | (refine Ox.skip rfl rfl ?_) | (refine Ox.pure rfl rfl zfa ?_)
  first | (refine Ox.skip rfl rfl ?_) | (refine Ox.val rfl rfl zrs ?_)
  first | (refine Ox.skip rfl rfl ?_) | (refine Ox.pure rfl rfl (rp_lenS rfl rfl rfl) ?_)
  first | (refine Ox.skip rfl rfl ?_) | (refine Ox.pure rfl rfl zbc ?_)
  refine Ox.pure rfl rfl zpk ?_
  refine Ox.pure rfl rfl zmv ?_
  first | (refine Ox.skip rfl rfl ?_) | (refine Ox.pure rfl rfl zfa ?_)
  first | (refine Ox.skip rfl rfl ?_) | (refine Ox.val rfl rfl zrs ?_)
  first | (refine Ox.skip rfl rfl ?_) | (refine Ox.pure rfl rfl (rp_lenS rfl rfl rfl) ?_)
  first | (refine Ox.skip rfl rfl ?_) | (refine Ox.pure rfl rfl zbc ?_)
  refine Ox.pure rfl rfl zpk ?_
  refine Ox.pure rfl rfl zmv ?_
  first | (refine Ox.skip rfl rfl ?_) | (refine Ox.pure rfl rfl zfa ?_)
  first | (refine Ox.skip rfl rfl ?_) | (refine Ox.val rfl rfl zrs ?_)
  first | (refine Ox.skip rfl rfl ?_) | (refine Ox.pure rfl rfl (rp_lenS rfl rfl rfl) ?_)
  first | (refine Ox.skip rfl rfl ?_) | (refine Ox.pure rfl rfl zbc ?_)
  refine Ox.pure rfl rfl zpk ?_
  refine Ox.pure rfl rfl zmv ?_
  first | (refine Ox.skip rfl rfl ?_) | (refine Ox.pure rfl rfl zfa ?_)
  first | (refine Ox.skip rfl rfl ?_) | (refine Ox.val rfl rfl zrs ?_)
  first | (refine Ox.skip rfl rfl ?_) | (refine Ox.pure rfl rfl (rp_lenS rfl rfl rfl) ?_)
  first | (refine Ox.skip rfl rfl ?_) | (refine Ox.pure rfl rfl zbc ?_)
  refine Ox.pure rfl rfl zpk ?_
  refine Ox.pure rfl rfl zmv ?_
  first | (refine Ox.skip rfl rfl ?_) | (refine Ox.pure rfl rfl zmv ?_)
  first | (refine Ox.skip rfl rfl ?_) | (refine Ox.pure rfl rfl zbc ?_)
  first | (refine Ox.skip rfl rfl ?_) | (refine Ox.pure rfl rfl zmv ?_)
  first | (refine Ox.skip rfl rfl ?_) | (refine Ox.pure rfl rfl zfa ?_)
  first | (refine Ox.skip rfl rfl ?_) | (refine Ox.val rfl rfl zrs ?_)
  first | (refine Ox.skip rfl rfl ?_) | (refine Ox.pure rfl rfl (rp_lenS rfl rfl rfl) ?_)
  first | (refine Ox.skip rfl rfl ?_) | (refine Ox.pure rfl rfl zbc ?_)
  first | (refine Ox.skip rfl rfl ?_) | (refine Ox.pure rfl rfl zpk ?_)
  refine Ox.pure rfl rfl zpk ?_
  refine Ox.pure rfl rfl zas ?_
  refine Ox.fin ?_
  refine zrt ?_
  exact endE_ret [_] ⟨rfl, trivial⟩ ⟨zxc, rfl⟩

theorem ref_FewB (s : Bs) (w : World) (hs : BsIn s w) :
    Calls Try.prog 11 #[.agg (bvc s).toArray] w (Ret fun r w' => Ext [] w w' ∧ r = .bool (decide (FewB s.br))) := by
  by_cases h70 : s.bls.length ≤ 70; rotate_left
  · exact (ref_FewB_many s w hs h70).mono fun e u he => (by
      cases e with
      | returned r => exact ⟨he.1, he.2.trans (congrArg Value.bool (decide_eq_false (fun h : FewB s.br => h70 (by rw [← br_len]; exact h.2.2.1))).symm)⟩
      | panicked c => exact he.elim
      | outgrown => exact he.elim)
  have hbl := br_len s
  have hf1 := hs.bls.few
  refine calls_of_Sx (args := [.agg (bvc s).toArray]) Try.func11 rfl rfl ?_
  refine ztx ?_
  refine Ox.act rfl rfl (acts_box rfl rfl) ?_
  rintro vb1 wb1 ⟨eb1, bb1, rfl, hbb1, hBb1⟩
  first | (have hCb1 : Cells wb1 ⟨bb1, 0, none⟩ [_, _, _, _, _] := hBb1.cells) | have hCb1 := Blk.cellsL hBb1
  have hlb1 := hBb1.lt
  have hzb1 := eb1.size
  refine Ox.pure rfl rfl zas ?_
  refine Ox.fin ?_
  refine ztx ?_
  refine Ox.pure rfl rfl zas ?_
  refine Ox.fin ?_
  refine ztx ?_
  refine Ox.pure rfl rfl zas ?_
  refine Ox.fin ?_
  refine zbl ?_
  refine Sx.loop (ι := Nat × Nat) (fun i E wr => E = [(1, .pointer (some ⟨bb1, 0, none⟩)), (3, .int .i64 (i.2 : Int)), (4, .int .i64 (i.1 : Int))] ∧ i.1 ≤ s.bls.length ∧ i.2 = ((s.bls.take i.1).map (fun x => x.l.length)).sum ∧ i.2 ≤ i.1 * 140737488355328 ∧ Ext [] wb1 wr) (fun i => s.bls.length - i.1) (0, 0)
    (sub_cons rfl (sub_cons rfl (sub_cons rfl sub_nil))) ⟨rfl, Nat.zero_le _, rfl, Nat.le_refl _, zxc⟩ ?_
  rintro ⟨i, n⟩ E wr ⟨rfl, hi, hs1, hn, er⟩
  dsimp only at hi hs1 hn ⊢
  by_cases hlt : i < s.bls.length
  · have hst := sum_step hlt
    obtain ⟨AL, hL⟩ := hs.sub _ (List.getElem_mem hlt)
    have hfL := hL.few
    refine ztx ?_
    refine Ox.pure rfl rfl zmv ?_
    refine Ox.pure rfl rfl zfa ?_
    refine Ox.val rfl rfl zrs ?_
    refine Ox.pure rfl rfl (rp_lenS rfl rfl rfl) ?_
    refine Ox.pure rfl rfl zbc ?_
    refine Ox.fin ?_
    refine zct ?_
    refine zsk ?_
    refine zbl ?_
    refine ztx ?_
    refine Ox.pure rfl rfl zmv ?_
    refine Ox.pure rfl rfl zfa ?_
    refine Ox.val rfl rfl zrs ?_
    refine Ox.pure rfl rfl zmv ?_
    refine Ox.pure rfl rfl (rp_indexAddr i rfl rfl rfl rfl rfl hs.bls.ptr rfl hlt) ?_
    refine Ox.val rfl rfl (rv_load rfl rfl (fun u hu => ld_field blc_len (hs.bls.row.ext0 zxc) hlt 0 rfl (by decide) rfl)) ?_
    refine Ox.pure rfl rfl (rp_lenS rfl rfl rfl) ?_
    refine Ox.pure rfl rfl zba ?_
    refine Ox.pure rfl rfl zas ?_
    refine Ox.fin ?_
    refine ztx ?_
    refine Ox.pure rfl rfl zmv ?_
    refine Ox.pure rfl rfl zba ?_
    refine Ox.pure rfl rfl zas ?_
    refine Ox.fin ?_
    exact ⟨(i + 1, n + s.bls[i].l.length), _, sub_cons rfl (sub_cons rfl (sub_cons rfl sub_nil)), ⟨rfl, hlt, by rw [hst, ← hs1], by dsimp only; omega, zxc⟩, by dsimp only; omega⟩
  rw [List.take_of_length_le (by omega), ← sumB_br] at hs1
  have hdf : FewB s.br ↔ s.base.length ≤ 30 ∧ n ≤ 24 ∧ s.bls.length ≤ 70 ∧ s.par.length ≤ 80 ∧ s.fks.length ≤ 80 ∧ s.done.length ≤ 80 ∧ (n = 0 ∨ s.bls.length ≤ 8) := by
    unfold FewB; rw [hbl, hs1]; exact Iff.rfl
  refine ztx ?_
  refine Ox.pure rfl rfl zmv ?_
  refine Ox.pure rfl rfl zfa ?_
  refine Ox.val rfl rfl zrs ?_
  refine Ox.pure rfl rfl (rp_lenS rfl rfl rfl) ?_
  refine Ox.pure rfl rfl zbc ?_
  refine Ox.fin ?_
  refine zcf ?_
  refine zex ?_
  clear hn hi hlt hs1
  by_cases hF : s.base.length ≤ 30 ∧ n ≤ 24 ∧ s.par.length ≤ 80 ∧ s.fks.length ≤ 80 ∧ s.done.length ≤ 80; rotate_left
  · 
    refine ztx ?_
    refine Ox.pure rfl rfl zfa ?_
    refine Ox.val rfl rfl zrs ?_
    refine Ox.pure rfl rfl (rp_lenS rfl rfl rfl) ?_
    by_cases hs1 : s.base.length ≤ 30; rotate_left
    · refine Ox.pure rfl rfl zbc ?_
      refine Ox.pure rfl rfl zmv ?_
      refine Ox.skip rfl rfl ?_
      refine Ox.skip rfl rfl ?_
      refine Ox.pure rfl rfl zpk ?_
      refine Ox.pure rfl rfl zmv ?_
      refine Ox.skip rfl rfl ?_
      refine Ox.skip rfl rfl ?_
      refine Ox.skip rfl rfl ?_
      refine Ox.skip rfl rfl ?_
      refine Ox.pure rfl rfl zpk ?_
      refine Ox.pure rfl rfl zmv ?_
      refine Ox.skip rfl rfl ?_
      refine Ox.skip rfl rfl ?_
      refine Ox.skip rfl rfl ?_
      refine Ox.skip rfl rfl ?_
      refine Ox.pure rfl rfl zpk ?_
      refine Ox.pure rfl rfl zmv ?_
      refine Ox.skip rfl rfl ?_
      refine Ox.skip rfl rfl ?_
      refine Ox.skip rfl rfl ?_
      refine Ox.skip rfl rfl ?_
      refine Ox.pure rfl rfl zpk ?_
      refine Ox.pure rfl rfl zmv ?_
      refine Ox.skip rfl rfl ?_
      refine Ox.skip rfl rfl ?_
      refine Ox.skip rfl rfl ?_
      refine Ox.skip rfl rfl ?_
      refine Ox.pure rfl rfl zpk ?_
      refine Ox.pure rfl rfl zmv ?_
      refine Ox.skip rfl rfl ?_
      refine Ox.skip rfl rfl ?_
      refine Ox.skip rfl rfl ?_
      refine Ox.skip rfl rfl ?_
      refine Ox.skip rfl rfl ?_
      refine Ox.skip rfl rfl ?_
      refine Ox.skip rfl rfl ?_
      refine Ox.skip rfl rfl ?_
      refine Ox.pure rfl rfl zpk ?_
      refine Ox.pure rfl rfl zas ?_
      refine Ox.fin ?_
      refine zrt ?_
      exact endE_ret [_] ⟨rfl, trivial⟩ ⟨zxc, congrArg Value.bool (decide_eq_false (fun h => hF (by have := hdf.1 h; omega))).symm⟩
    refine Ox.pure rfl rfl zbc ?_
    refine Ox.pure rfl rfl zmv ?_
    refine Ox.pure rfl rfl zmv ?_
    by_cases hs2 : n ≤ 24; rotate_left
    · refine Ox.pure rfl rfl zbc ?_
      refine Ox.pure rfl rfl zpk ?_
      refine Ox.pure rfl rfl zmv ?_
      refine Ox.skip rfl rfl ?_
      refine Ox.skip rfl rfl ?_
      refine Ox.skip rfl rfl ?_
      refine Ox.skip rfl rfl ?_
      refine Ox.pure rfl rfl zpk ?_
      refine Ox.pure rfl rfl zmv ?_
      refine Ox.skip rfl rfl ?_
      refine Ox.skip rfl rfl ?_
      refine Ox.skip rfl rfl ?_
      refine Ox.skip rfl rfl ?_
      refine Ox.pure rfl rfl zpk ?_
      refine Ox.pure rfl rfl zmv ?_
      refine Ox.skip rfl rfl ?_
      refine Ox.skip rfl rfl ?_
      refine Ox.skip rfl rfl ?_
      refine Ox.skip rfl rfl ?_
      refine Ox.pure rfl rfl zpk ?_
      refine Ox.pure rfl rfl zmv ?_
      refine Ox.skip rfl rfl ?_
      refine Ox.skip rfl rfl ?_
      refine Ox.skip rfl rfl ?_
      refine Ox.skip rfl rfl ?_
      refine Ox.pure rfl rfl zpk ?_
      refine Ox.pure rfl rfl zmv ?_
      refine Ox.skip rfl rfl ?_
      refine Ox.skip rfl rfl ?_
      refine Ox.skip rfl rfl ?_
      refine Ox.skip rfl rfl ?_
      refine Ox.skip rfl rfl ?_
      refine Ox.skip rfl rfl ?_
      refine Ox.skip rfl rfl ?_
      refine Ox.skip rfl rfl ?_
      refine Ox.pure rfl rfl zpk ?_
      refine Ox.pure rfl rfl zas ?_
      refine Ox.fin ?_
      refine zrt ?_
      exact endE_ret [_] ⟨rfl, trivial⟩ ⟨zxc, congrArg Value.bool (decide_eq_false (fun h => hF (by have := hdf.1 h; omega))).symm⟩
    refine Ox.pure rfl rfl zbc ?_
    refine Ox.pure rfl rfl zpk ?_
    refine Ox.pure rfl rfl zmv ?_
    refine Ox.pure rfl rfl zfa ?_
    refine Ox.val rfl rfl zrs ?_
    refine Ox.pure rfl rfl (rp_lenS rfl rfl rfl) ?_
    refine Ox.pure rfl rfl zbc ?_
    refine Ox.pure rfl rfl zpk ?_
    refine Ox.pure rfl rfl zmv ?_
    refine Ox.pure rfl rfl zfa ?_
    refine Ox.val rfl rfl zrs ?_
    refine Ox.pure rfl rfl (rp_lenS rfl rfl rfl) ?_
    by_cases hs3 : s.par.length ≤ 80; rotate_left
    · refine Ox.pure rfl rfl zbc ?_
      refine Ox.pure rfl rfl zpk ?_
      refine Ox.pure rfl rfl zmv ?_
      refine Ox.skip rfl rfl ?_
      refine Ox.skip rfl rfl ?_
      refine Ox.skip rfl rfl ?_
      refine Ox.skip rfl rfl ?_
      refine Ox.pure rfl rfl zpk ?_
      refine Ox.pure rfl rfl zmv ?_
      refine Ox.skip rfl rfl ?_
      refine Ox.skip rfl rfl ?_
      refine Ox.skip rfl rfl ?_
      refine Ox.skip rfl rfl ?_
      refine Ox.pure rfl rfl zpk ?_
      refine Ox.pure rfl rfl zmv ?_
      refine Ox.skip rfl rfl ?_
      refine Ox.skip rfl rfl ?_
      refine Ox.skip rfl rfl ?_
      refine Ox.skip rfl rfl ?_
      refine Ox.skip rfl rfl ?_
      refine Ox.skip rfl rfl ?_
      refine Ox.skip rfl rfl ?_
      refine Ox.skip rfl rfl ?_
      refine Ox.pure rfl rfl zpk ?_
      refine Ox.pure rfl rfl zas ?_
      refine Ox.fin ?_
      refine zrt ?_
      exact endE_ret [_] ⟨rfl, trivial⟩ ⟨zxc, congrArg Value.bool (decide_eq_false (fun h => hF (by have := hdf.1 h; omega))).symm⟩
    refine Ox.pure rfl rfl zbc ?_
    refine Ox.pure rfl rfl zpk ?_
    refine Ox.pure rfl rfl zmv ?_
    refine Ox.pure rfl rfl zfa ?_
    refine Ox.val rfl rfl zrs ?_
    refine Ox.pure rfl rfl (rp_lenS rfl rfl rfl) ?_
    by_cases hs4 : s.fks.length ≤ 80; rotate_left
    · refine Ox.pure rfl rfl zbc ?_
      refine Ox.pure rfl rfl zpk ?_
      refine Ox.pure rfl rfl zmv ?_
      refine Ox.skip rfl rfl ?_
      refine Ox.skip rfl rfl ?_
      refine Ox.skip rfl rfl ?_
      refine Ox.skip rfl rfl ?_
      refine Ox.pure rfl rfl zpk ?_
      refine Ox.pure rfl rfl zmv ?_
      refine Ox.skip rfl rfl ?_
      refine Ox.skip rfl rfl ?_
      refine Ox.skip rfl rfl ?_
      refine Ox.skip rfl rfl ?_
      refine Ox.skip rfl rfl ?_
      refine Ox.skip rfl rfl ?_
      refine Ox.skip rfl rfl ?_
      refine Ox.skip rfl rfl ?_
      refine Ox.pure rfl rfl zpk ?_
      refine Ox.pure rfl rfl zas ?_
      refine Ox.fin ?_
      refine zrt ?_
      exact endE_ret [_] ⟨rfl, trivial⟩ ⟨zxc, congrArg Value.bool (decide_eq_false (fun h => hF (by have := hdf.1 h; omega))).symm⟩
    refine Ox.pure rfl rfl zbc ?_
    refine Ox.pure rfl rfl zpk ?_
    refine Ox.pure rfl rfl zmv ?_
    refine Ox.pure rfl rfl zfa ?_
    refine Ox.val rfl rfl zrs ?_
    refine Ox.pure rfl rfl (rp_lenS rfl rfl rfl) ?_
    by_cases hs5 : s.done.length ≤ 80; rotate_left
    · refine Ox.pure rfl rfl zbc ?_
      refine Ox.pure rfl rfl zpk ?_
      refine Ox.pure rfl rfl zmv ?_
      refine Ox.skip rfl rfl ?_
      refine Ox.skip rfl rfl ?_
      refine Ox.skip rfl rfl ?_
      refine Ox.skip rfl rfl ?_
      refine Ox.skip rfl rfl ?_
      refine Ox.skip rfl rfl ?_
      refine Ox.skip rfl rfl ?_
      refine Ox.skip rfl rfl ?_
      refine Ox.pure rfl rfl zpk ?_
      refine Ox.pure rfl rfl zas ?_
      refine Ox.fin ?_
      refine zrt ?_
      exact endE_ret [_] ⟨rfl, trivial⟩ ⟨zxc, congrArg Value.bool (decide_eq_false (fun h => hF (by have := hdf.1 h; omega))).symm⟩
    refine Ox.pure rfl rfl zbc ?_
    omega
  obtain ⟨q1, q2, q3, q4, q5⟩ := hF
  by_cases hz : n = 0
  · refine ztx ?_
    refine Ox.pure rfl rfl zfa ?_
    refine Ox.val rfl rfl zrs ?_
    refine Ox.pure rfl rfl (rp_lenS rfl rfl rfl) ?_
    refine Ox.pure rfl rfl zbc ?_
    refine Ox.pure rfl rfl zmv ?_
    first | (refine Ox.skip rfl rfl ?_) | (refine Ox.pure rfl rfl zmv ?_)
    first | (refine Ox.skip rfl rfl ?_) | (refine Ox.pure rfl rfl zbc ?_)
    refine Ox.pure rfl rfl zpk ?_
    refine Ox.pure rfl rfl zmv ?_
    first | (refine Ox.skip rfl rfl ?_) | (refine Ox.pure rfl rfl zfa ?_)
    first | (refine Ox.skip rfl rfl ?_) | (refine Ox.val rfl rfl zrs ?_)
    first | (refine Ox.skip rfl rfl ?_) | (refine Ox.pure rfl rfl (rp_lenS rfl rfl rfl) ?_)
    first | (refine Ox.skip rfl rfl ?_) | (refine Ox.pure rfl rfl zbc ?_)
    refine Ox.pure rfl rfl zpk ?_
    refine Ox.pure rfl rfl zmv ?_
    first | (refine Ox.skip rfl rfl ?_) | (refine Ox.pure rfl rfl zfa ?_)
    first | (refine Ox.skip rfl rfl ?_) | (refine Ox.val rfl rfl zrs ?_)
    first | (refine Ox.skip rfl rfl ?_) | (refine Ox.pure rfl rfl (rp_lenS rfl rfl rfl) ?_)
    first | (refine Ox.skip rfl rfl ?_) | (refine Ox.pure rfl rfl zbc ?_)
    refine Ox.pure rfl rfl zpk ?_
    refine Ox.pure rfl rfl zmv ?_
    first | (refine Ox.skip rfl rfl ?_) | (refine Ox.pure rfl rfl zfa ?_)
    first | (refine Ox.skip rfl rfl ?_) | (refine Ox.val rfl rfl zrs ?_)
    first | (refine Ox.skip rfl rfl ?_) | (refine Ox.pure rfl rfl (rp_lenS rfl rfl rfl) ?_)
    first | (refine Ox.skip rfl rfl ?_) | (refine Ox.pure rfl rfl zbc ?_)
    refine Ox.pure rfl rfl zpk ?_
    refine Ox.pure rfl rfl zmv ?_
    first | (refine Ox.skip rfl rfl ?_) | (refine Ox.pure rfl rfl zfa ?_)
    first | (refine Ox.skip rfl rfl ?_) | (refine Ox.val rfl rfl zrs ?_)
    first | (refine Ox.skip rfl rfl ?_) | (refine Ox.pure rfl rfl (rp_lenS rfl rfl rfl) ?_)
    first | (refine Ox.skip rfl rfl ?_) | (refine Ox.pure rfl rfl zbc ?_)
    refine Ox.pure rfl rfl zpk ?_
    refine Ox.pure rfl rfl zmv ?_
    first | (refine Ox.skip rfl rfl ?_) | (refine Ox.pure rfl rfl zmv ?_)
    first | (refine Ox.skip rfl rfl ?_) | (refine Ox.pure rfl rfl zbc ?_)
    first | (refine Ox.skip rfl rfl ?_) | (refine Ox.pure rfl rfl zmv ?_)
    first | (refine Ox.skip rfl rfl ?_) | (refine Ox.pure rfl rfl zfa ?_)
    first | (refine Ox.skip rfl rfl ?_) | (refine Ox.val rfl rfl zrs ?_)
    first | (refine Ox.skip rfl rfl ?_) | (refine Ox.pure rfl rfl (rp_lenS rfl rfl rfl) ?_)
    first | (refine Ox.skip rfl rfl ?_) | (refine Ox.pure rfl rfl zbc ?_)
    first | (refine Ox.skip rfl rfl ?_) | (refine Ox.pure rfl rfl zpk ?_)
    refine Ox.pure rfl rfl zpk ?_
    refine Ox.pure rfl rfl zas ?_
    refine Ox.fin ?_
    refine zrt ?_
    exact endE_ret [_] ⟨rfl, trivial⟩ ⟨zxc, congrArg Value.bool (decide_eq_true (hdf.2 (by omega))).symm⟩
  by_cases h8 : s.bls.length ≤ 8
  · refine ztx ?_
    refine Ox.pure rfl rfl zfa ?_
    refine Ox.val rfl rfl zrs ?_
    refine Ox.pure rfl rfl (rp_lenS rfl rfl rfl) ?_
    refine Ox.pure rfl rfl zbc ?_
    refine Ox.pure rfl rfl zmv ?_
    first | (refine Ox.skip rfl rfl ?_) | (refine Ox.pure rfl rfl zmv ?_)
    first | (refine Ox.skip rfl rfl ?_) | (refine Ox.pure rfl rfl zbc ?_)
    refine Ox.pure rfl rfl zpk ?_
    refine Ox.pure rfl rfl zmv ?_
    first | (refine Ox.skip rfl rfl ?_) | (refine Ox.pure rfl rfl zfa ?_)
    first | (refine Ox.skip rfl rfl ?_) | (refine Ox.val rfl rfl zrs ?_)
    first | (refine Ox.skip rfl rfl ?_) | (refine Ox.pure rfl rfl (rp_lenS rfl rfl rfl) ?_)
    first | (refine Ox.skip rfl rfl ?_) | (refine Ox.pure rfl rfl zbc ?_)
    refine Ox.pure rfl rfl zpk ?_
    refine Ox.pure rfl rfl zmv ?_
    first | (refine Ox.skip rfl rfl ?_) | (refine Ox.pure rfl rfl zfa ?_)
    first | (refine Ox.skip rfl rfl ?_) | (refine Ox.val rfl rfl zrs ?_)
    first | (refine Ox.skip rfl rfl ?_) | (refine Ox.pure rfl rfl (rp_lenS rfl rfl rfl) ?_)
    first | (refine Ox.skip rfl rfl ?_) | (refine Ox.pure rfl rfl zbc ?_)
    refine Ox.pure rfl rfl zpk ?_
    refine Ox.pure rfl rfl zmv ?_
    first | (refine Ox.skip rfl rfl ?_) | (refine Ox.pure rfl rfl zfa ?_)
    first | (refine Ox.skip rfl rfl ?_) | (refine Ox.val rfl rfl zrs ?_)
    first | (refine Ox.skip rfl rfl ?_) | (refine Ox.pure rfl rfl (rp_lenS rfl rfl rfl) ?_)
    first | (refine Ox.skip rfl rfl ?_) | (refine Ox.pure rfl rfl zbc ?_)
    refine Ox.pure rfl rfl zpk ?_
    refine Ox.pure rfl rfl zmv ?_
    first | (refine Ox.skip rfl rfl ?_) | (refine Ox.pure rfl rfl zfa ?_)
    first | (refine Ox.skip rfl rfl ?_) | (refine Ox.val rfl rfl zrs ?_)
    first | (refine Ox.skip rfl rfl ?_) | (refine Ox.pure rfl rfl (rp_lenS rfl rfl rfl) ?_)
    first | (refine Ox.skip rfl rfl ?_) | (refine Ox.pure rfl rfl zbc ?_)
    refine Ox.pure rfl rfl zpk ?_
    refine Ox.pure rfl rfl zmv ?_
    first | (refine Ox.skip rfl rfl ?_) | (refine Ox.pure rfl rfl zmv ?_)
    first | (refine Ox.skip rfl rfl ?_) | (refine Ox.pure rfl rfl zbc ?_)
    first | (refine Ox.skip rfl rfl ?_) | (refine Ox.pure rfl rfl zmv ?_)
    first | (refine Ox.skip rfl rfl ?_) | (refine Ox.pure rfl rfl zfa ?_)
    first | (refine Ox.skip rfl rfl ?_) | (refine Ox.val rfl rfl zrs ?_)
    first | (refine Ox.skip rfl rfl ?_) | (refine Ox.pure rfl rfl (rp_lenS rfl rfl rfl) ?_)
    first | (refine Ox.skip rfl rfl ?_) | (refine Ox.pure rfl rfl zbc ?_)
    first | (refine Ox.skip rfl rfl ?_) | (refine Ox.pure rfl rfl zpk ?_)
    refine Ox.pure rfl rfl zpk ?_
    refine Ox.pure rfl rfl zas ?_
    refine Ox.fin ?_
    refine zrt ?_
    exact endE_ret [_] ⟨rfl, trivial⟩ ⟨zxc, congrArg Value.bool (decide_eq_true (hdf.2 (by omega))).symm⟩
  · refine ztx ?_
    refine Ox.pure rfl rfl zfa ?_
    refine Ox.val rfl rfl zrs ?_
    refine Ox.pure rfl rfl (rp_lenS rfl rfl rfl) ?_
    refine Ox.pure rfl rfl zbc ?_
    refine Ox.pure rfl rfl zmv ?_
    first | (refine Ox.skip rfl rfl ?_) | (refine Ox.pure rfl rfl zmv ?_)
    first | (refine Ox.skip rfl rfl ?_) | (refine Ox.pure rfl rfl zbc ?_)
    refine Ox.pure rfl rfl zpk ?_
    refine Ox.pure rfl rfl zmv ?_
    first | (refine Ox.skip rfl rfl ?_) | (refine Ox.pure rfl rfl zfa ?_)
    first | (refine Ox.skip rfl rfl ?_) | (refine Ox.val rfl rfl zrs ?_)
    first | (refine Ox.skip rfl rfl ?_) | (refine Ox.pure rfl rfl (rp_lenS rfl rfl rfl) ?_)
    first | (refine Ox.skip rfl rfl ?_) | (refine Ox.pure rfl rfl zbc ?_)
    refine Ox.pure rfl rfl zpk ?_
    refine Ox.pure rfl rfl zmv ?_
    first | (refine Ox.skip rfl rfl ?_) | (refine Ox.pure rfl rfl zfa ?_)
    first | (refine Ox.skip rfl rfl ?_) | (refine Ox.val rfl rfl zrs ?_)
    first | (refine Ox.skip rfl rfl ?_) | (refine Ox.pure rfl rfl (rp_lenS rfl rfl rfl) ?_)
    first | (refine Ox.skip rfl rfl ?_) | (refine Ox.pure rfl rfl zbc ?_)
    refine Ox.pure rfl rfl zpk ?_
    refine Ox.pure rfl rfl zmv ?_
    first | (refine Ox.skip rfl rfl ?_) | (refine Ox.pure rfl rfl zfa ?_)
    first | (refine Ox.skip rfl rfl ?_) | (refine Ox.val rfl rfl zrs ?_)
    first | (refine Ox.skip rfl rfl ?_) | (refine Ox.pure rfl rfl (rp_lenS rfl rfl rfl) ?_)
    first | (refine Ox.skip rfl rfl ?_) | (refine Ox.pure rfl rfl zbc ?_)
    refine Ox.pure rfl rfl zpk ?_
    refine Ox.pure rfl rfl zmv ?_
    first | (refine Ox.skip rfl rfl ?_) | (refine Ox.pure rfl rfl zfa ?_)
    first | (refine Ox.skip rfl rfl ?_) | (refine Ox.val rfl rfl zrs ?_)
    first | (refine Ox.skip rfl rfl ?_) | (refine Ox.pure rfl rfl (rp_lenS rfl rfl rfl) ?_)
    first | (refine Ox.skip rfl rfl ?_) | (refine Ox.pure rfl rfl zbc ?_)
    refine Ox.pure rfl rfl zpk ?_
    refine Ox.pure rfl rfl zmv ?_
    first | (refine Ox.skip rfl rfl ?_) | (refine Ox.pure rfl rfl zmv ?_)
    first | (refine Ox.skip rfl rfl ?_) | (refine Ox.pure rfl rfl zbc ?_)
    first | (refine Ox.skip rfl rfl ?_) | (refine Ox.pure rfl rfl zmv ?_)
    first | (refine Ox.skip rfl rfl ?_) | (refine Ox.pure rfl rfl zfa ?_)
    first | (refine Ox.skip rfl rfl ?_) | (refine Ox.val rfl rfl zrs ?_)
    first | (refine Ox.skip rfl rfl ?_) | (refine Ox.pure rfl rfl (rp_lenS rfl rfl rfl) ?_)
    first | (refine Ox.skip rfl rfl ?_) | (refine Ox.pure rfl rfl zbc ?_)
    first | (refine Ox.skip rfl rfl ?_) | (refine Ox.pure rfl rfl zpk ?_)
    refine Ox.pure rfl rfl zpk ?_
    refine Ox.pure rfl rfl zas ?_
    refine Ox.fin ?_
    refine zrt ?_
    exact endE_ret [_] ⟨rfl, trivial⟩ ⟨zxc, congrArg Value.bool (decide_eq_false (fun h => by have := hdf.1 h; omega)).symm⟩

end Go.Proofs.Ytfgckcochilpkaa
