/- The codec's walks: the reference's Decode; values made. -/
import Derived.Test.YtflopfjhejchfaaRows
import Derived.Test.YtflopfjhejchfaaCodecU
import Derived.Test.YtflopfjhejchfaaCodecP
import Derived.Test.YtflopfjhejchfaaCodecY
set_option linter.unusedVariables false
set_option linter.unusedSimpArgs false
namespace Go.Proofs.Ytflopfjhejchfaa
open Go Go.Eng

theorem ref_Decode (b : List UInt8) (p : Option Addr) (A : Addr) (cap : Nat) (w : World) (hl : b.length ≤ 1048576) (hcap : b.length ≤ cap) (hsl : Sl w p A b.length (bytesV b)) :
    Calls Try.prog 19 #[.slice p b.length cap] w (Ret fun r w' => Ext [] w w' ∧ ∃ cs, r = .tuple #[.agg cs.toArray, .int .i64 (decRes b).2] ∧ rep (fun k => w.heap.size ≤ k) w' (decRes b).1 cs) := by
  refine calls_of_Sx (args := [.slice p b.length cap]) Try.func19 rfl rfl ?_
  (repeat refine Sx.seq ?_)
  refine Sx.textR ?_
  refine Ox.act rfl rfl (acts_alloc rfl rfl) ?_
  rintro va2 wa2 ⟨ea2, ba2, rfl, hba2, hBa2⟩
  first | (have hCa2 : Cells wa2 ⟨ba2, 0, none⟩ [_, _, _, _] := hBa2.cells) | have hCa2 := Blk.cellsL hBa2
  have hla2 := hBa2.lt
  have hza2 := ea2.size
  refine Ox.pure rfl rfl (rp_assign rfl rfl) ?_
  refine Ox.nil ?_
  (repeat first | refine thenE_normal ?_ | refine thenE_exit ?_ | refine thenE_ret ?_ | refine blockE_normal ?_ | refine blockE_ret ?_ | refine blockE_same ?_ | refine blockE_other rfl ?_)
  (repeat refine Sx.seq ?_)
  refine Sx.textR ?_
  refine Ox.pure rfl rfl (rp_move rfl rfl) ?_
  refine Ox.pure rfl rfl (rp_buildS (ps := [(0, .tmp 6)]) rfl rfl rfl rfl rfl) ?_
  refine Ox.act rfl rfl (acts_box rfl rfl) ?_
  rintro vrd wrd ⟨erd, brd, rfl, hbrd, hBrd⟩
  first | (have hCrd : Cells wrd ⟨brd, 0, none⟩ [_, _, _] := hBrd.cells) | have hCrd := Blk.cellsL hBrd
  have hlrd := hBrd.lt
  have hzrd := erd.size
  refine Ox.pure rfl rfl (rp_assign rfl rfl) ?_
  refine Ox.nil ?_
  (repeat first | refine thenE_normal ?_ | refine thenE_exit ?_ | refine thenE_ret ?_ | refine blockE_normal ?_ | refine blockE_ret ?_ | refine blockE_same ?_ | refine blockE_other rfl ?_)
  have hBrd' : Blk wrd brd 62 [.slice p b.length cap, .int .i64 ((0 : Nat) : Int), .bool false] := hBrd
  have hRd : RdR w.heap.size wrd brd b 0 false := ⟨Nat.zero_le _, p, A, cap, hBrd', hcap, hsl.ext0 (by ((repeat (first | exact Ext.refl _ _ | assumption | refine Ext.trans ?_ (by assumption))); (first | done | fail "chain"))), fun h => by
    have := hsl.2.lt (fun e => by have := congrArg List.length e; rw [bytesV_length] at this; simp only [List.length_nil] at this; omega)
    omega⟩
  have hla2 := hBa2.lt
  have hlrd := hBrd.lt
  (repeat refine Sx.seq ?_)
  refine Sx.textR ?_
  refine Ox.pure rfl rfl (rp_move rfl rfl) ?_
  refine Ox.act rfl rfl (acts_call rfl rfl rfl (ref_Value w.heap.size 16 0 _ brd b 0 rfl hl hRd (by omega))) ?_
  rintro vva wva ⟨qva, cs, v, rfl, hrep, hout⟩
  have hzva := qva.size; have hc4 := rep_length hrep; have hone := rep_one hrep
  refine Ox.act rfl rfl (acts_alloc rfl rfl) ?_
  rintro va5 wa5 ⟨ea5, ba5, rfl, hba5, hBa5⟩
  first | (have hCa5 : Cells wa5 ⟨ba5, 0, none⟩ [_, _, _, _] := hBa5.cells) | have hCa5 := Blk.cellsL hBa5
  have hla5 := hBa5.lt
  have hza5 := ea5.size
  refine Ox.act rfl rfl (acts_store_all rfl rfl rfl hBa5 rfl (by first | rfl | assumption) (by first | rfl | assumption) (by (first | assumption | exact List.all_eq_true.mp rfl | simp [Value.cells, Value.oneCell']))) ?_
  rintro vs5 ws5 ⟨rfl, qs5, hBs5⟩
  have es5 := Ext.renew ea5 qs5 hba5
  have hzs5 := es5.size
  first | (have hCs5 : Cells ws5 ⟨ba5, 0, none⟩ [_, _, _, _] := hBs5.cells) | have hCs5 := Blk.cellsL hBs5
  refine Ox.nil ?_
  (repeat first | refine thenE_normal ?_ | refine thenE_exit ?_ | refine thenE_ret ?_ | refine blockE_normal ?_ | refine blockE_ret ?_ | refine blockE_same ?_ | refine blockE_other rfl ?_)
  have hB2 := (hBa2.ext erd (by simp)).ext qva (by simp; omega)
  have es5' : Ext [] w ws5 := ((show Ext [] w wrd by ((repeat (first | exact Ext.refl _ _ | assumption | refine Ext.trans ?_ (by assumption))); (first | done | fail "chain"))).join qva (by simp; omega)).trans (by ((repeat (first | exact Ext.refl _ _ | assumption | refine Ext.trans ?_ (by assumption))); (first | done | fail "chain")))
  have hslf := hsl.ext0 es5'
  have hdatf := hslf.2
  have fin : ∀ (wf : World) (E : Env) (c2 : List Value) (e2 : Int), get E 2 = some (.pointer (some ⟨ba2, 0, none⟩)) → get E 3 = some (.int .i64 e2) → Ext [] w wf → Blk wf ba2 24 c2 → c2.length = 4 → rep (fun k => w.heap.size ≤ k) wf (decRes b).1 c2 → e2 = (decRes b).2 →
      endE Try.f19 Try.prog (Ret fun r w' => Ext [] w w' ∧ ∃ cs, r = .tuple #[.agg cs.toArray, .int .i64 (decRes b).2] ∧ rep (fun k => w.heap.size ≤ k) w' (decRes b).1 cs) .ret E wf := by
    intro wf E c2 e2 h2 h3 hx hBf hl2 hr he
    subst he
    exact endE_ret [.agg c2.toArray, .int .i64 (decRes b).2] ⟨⟨⟨ba2, 0, none⟩, h2, hBf.cells.ldL rfl rfl hl2⟩, h3, trivial⟩ ⟨hx, c2, rfl, hr⟩
  have bad : ∀ (wf : World) (E : Env) (wg : World), decRes b = (zeroV, 10) → Ext [] ws5 wf → Ext [ba2] wf wg → Blk wg ba2 24 zeroC → get E 2 = some (.pointer (some ⟨ba2, 0, none⟩)) → get E 3 = some (.int .i64 10) →
      endE Try.f19 Try.prog (Ret fun r w' => Ext [] w w' ∧ ∃ cs, r = .tuple #[.agg cs.toArray, .int .i64 (decRes b).2] ∧ rep (fun k => w.heap.size ≤ k) w' (decRes b).1 cs) .ret E wg := by
    intro wf E wg hd e1 q2 hB h2 h3
    exact fin wg E zeroC 10 h2 h3 ((es5'.trans e1).join q2 (by simp; omega)) hB rfl (by rw [hd]; exact rep_zero _ _) (by rw [hd])
  rcases hout with ⟨k', hv, hk, hRf⟩ | ⟨hv, k', hRf⟩
  · rw [List.drop_zero] at hv
    obtain ⟨hk', p2, A2, cap2, hBr, hcap2, hsl2, hnA2⟩ := id hRf
    have hBrc := hBr.cells
    by_cases hend : k' = b.length
    · have hv' : decV 16 b = some (v, []) := by rw [hv, hend, List.drop_length]
      obtain ⟨henc, hform, hdep⟩ := dec_dec 16 b v [] hv'
      rw [List.append_nil] at henc
      have henc' := henc.symm
      have hchk : checkV v = 0 := by rw [checkV, if_neg (by simp [hform]), if_neg (by omega)]
      have hd : decRes b = (v, 0) := by rw [decRes, hv']
      have hlen : (encV v).length = b.length := by rw [henc']
      (repeat refine Sx.seq ?_)
      refine Sx.walkR rfl (fun _ _ _ _ h => h) [0, 1, 2, 3, 4, 5, 6, 7, 8, 9, 10, 11, 12, 13, 14, 15, 16, 17, 18, 19, 22, 23, 20, 21, 24, 25] [0, 1, 2, 3, 4, 5, 6, 7, 8, 9, 10, 11, 12, 13, 14, 16, 17, 18, 19, 21, 22, 23, 24, 25] (0) (by kernel_rfl) ?_
      intro hq w1 e1; have hz1 := e1.size
      refine Wx.pure hq rfl rfl rfl rfl (rp_move rfl rfl) ?_
      refine Wx.pure hq rfl rfl rfl rfl (by first | exact rp_nilP rfl rfl | exact rp_nilF rfl rfl) ?_
      refine Wx.pure hq rfl rfl rfl rfl (rp_fieldAddr rfl rfl rfl rfl) ?_
      refine Wx.val hq rfl rfl rfl rfl ([]) (rv_load rfl rfl (by (intro u hu; first | exact Cells.ld (Cells.ext0 (by assumption) (by ((repeat (first | exact Ext.refl _ _ | assumption | refine Ext.trans ?_ (by assumption))); (first | done | fail "chain")))) _ rfl rfl | exact Cells.ld0 (Cells.ext0 (by assumption) (by ((repeat (first | exact Ext.refl _ _ | assumption | refine Ext.trans ?_ (by assumption))); (first | done | fail "chain")))) rfl rfl | exact Cells.ldA (Cells.ext0 (by assumption) (by ((repeat (first | exact Ext.refl _ _ | assumption | refine Ext.trans ?_ (by assumption))); (first | done | fail "chain")))) rfl rfl | exact Cells.ldL (Cells.ext0 (by assumption) (by ((repeat (first | exact Ext.refl _ _ | assumption | refine Ext.trans ?_ (by assumption))); (first | done | fail "chain")))) rfl rfl (by assumption) | exact Cells.ldP (Cells.ext0 (by assumption) (by ((repeat (first | exact Ext.refl _ _ | assumption | refine Ext.trans ?_ (by assumption))); (first | done | fail "chain")))) _ rfl rfl rfl rfl | exact Cells.ldP (Cells.ext0 (by assumption) (by ((repeat (first | exact Ext.refl _ _ | assumption | refine Ext.trans ?_ (by assumption))); (first | done | fail "chain")))) _ rfl rfl (by assumption) (by assumption)))) ?_
      refine Wx.pure hq rfl rfl rfl rfl (rp_move rfl rfl) ?_
      first | (refine Wx.skip hq rfl rfl rfl rfl ?_) | (refine Wx.pure hq rfl rfl rfl rfl (rp_move rfl rfl) ?_)
      first | (refine Wx.skip hq rfl rfl rfl rfl ?_) | (refine Wx.pure hq rfl rfl rfl rfl (by first | exact rp_nilP rfl rfl | exact rp_nilF rfl rfl) ?_)
      first | (refine Wx.skip hq rfl rfl rfl rfl ?_) | (refine Wx.pure hq rfl rfl rfl rfl (rp_fieldAddr rfl rfl rfl rfl) ?_)
      first | (refine Wx.skip hq rfl rfl rfl rfl ?_) | (refine Wx.val hq rfl rfl rfl rfl ([]) (rv_load rfl rfl (by (intro u hu; first | exact Cells.ld (Cells.ext0 (by assumption) (by ((repeat (first | exact Ext.refl _ _ | assumption | refine Ext.trans ?_ (by assumption))); (first | done | fail "chain")))) _ rfl rfl | exact Cells.ld0 (Cells.ext0 (by assumption) (by ((repeat (first | exact Ext.refl _ _ | assumption | refine Ext.trans ?_ (by assumption))); (first | done | fail "chain")))) rfl rfl | exact Cells.ldA (Cells.ext0 (by assumption) (by ((repeat (first | exact Ext.refl _ _ | assumption | refine Ext.trans ?_ (by assumption))); (first | done | fail "chain")))) rfl rfl | exact Cells.ldL (Cells.ext0 (by assumption) (by ((repeat (first | exact Ext.refl _ _ | assumption | refine Ext.trans ?_ (by assumption))); (first | done | fail "chain")))) rfl rfl (by assumption) | exact Cells.ldP (Cells.ext0 (by assumption) (by ((repeat (first | exact Ext.refl _ _ | assumption | refine Ext.trans ?_ (by assumption))); (first | done | fail "chain")))) _ rfl rfl rfl rfl | exact Cells.ldP (Cells.ext0 (by assumption) (by ((repeat (first | exact Ext.refl _ _ | assumption | refine Ext.trans ?_ (by assumption))); (first | done | fail "chain")))) _ rfl rfl (by assumption) (by assumption)))) ?_)
      first | (refine Wx.skip hq rfl rfl rfl rfl ?_) | (refine Wx.pure hq rfl rfl rfl rfl (rp_move rfl rfl) ?_)
      first | (refine Wx.skip hq rfl rfl rfl rfl ?_) | (refine Wx.pure hq rfl rfl rfl rfl (rp_lenS rfl rfl rfl) ?_)
      first | (refine Wx.skip hq rfl rfl rfl rfl ?_) | (refine Wx.pure hq rfl rfl rfl rfl (by first | exact rp_bin rfl rfl rfl (binI_t (by omega)) | exact rp_bin rfl rfl rfl (binI_f (by omega)) | exact rp_bin rfl rfl rfl rfl) ?_)
      refine Wx.pure hq rfl rfl rfl rfl (by first | exact rp_pick_t rfl rfl rfl | exact rp_pick_f rfl rfl rfl) ?_
      refine Wx.pure hq rfl rfl rfl rfl (rp_move rfl rfl) ?_
      first | (refine Wx.skip hq rfl rfl rfl rfl ?_) | (refine Wx.val hq rfl rfl rfl rfl ([]) (rv_load rfl rfl (by (intro u hu; first | exact Cells.ld (Cells.ext0 (by assumption) (by ((repeat (first | exact Ext.refl _ _ | assumption | refine Ext.trans ?_ (by assumption))); (first | done | fail "chain")))) _ rfl rfl | exact Cells.ld0 (Cells.ext0 (by assumption) (by ((repeat (first | exact Ext.refl _ _ | assumption | refine Ext.trans ?_ (by assumption))); (first | done | fail "chain")))) rfl rfl | exact Cells.ldA (Cells.ext0 (by assumption) (by ((repeat (first | exact Ext.refl _ _ | assumption | refine Ext.trans ?_ (by assumption))); (first | done | fail "chain")))) rfl rfl | exact Cells.ldL (Cells.ext0 (by assumption) (by ((repeat (first | exact Ext.refl _ _ | assumption | refine Ext.trans ?_ (by assumption))); (first | done | fail "chain")))) rfl rfl (by assumption) | exact Cells.ldP (Cells.ext0 (by assumption) (by ((repeat (first | exact Ext.refl _ _ | assumption | refine Ext.trans ?_ (by assumption))); (first | done | fail "chain")))) _ rfl rfl rfl rfl | exact Cells.ldP (Cells.ext0 (by assumption) (by ((repeat (first | exact Ext.refl _ _ | assumption | refine Ext.trans ?_ (by assumption))); (first | done | fail "chain")))) _ rfl rfl (by assumption) (by assumption)))) ?_)
      first | (refine Wx.actSkip rfl rfl rfl rfl ?_) | (refine Wx.actNew rfl rfl rfl rfl (acts_call rfl rfl rfl (ref_Check v _ cs _ (rep_ext0 (by ((repeat (first | exact Ext.refl _ _ | assumption | refine Ext.trans ?_ (by assumption))); (first | done | fail "chain"))) hrep) (by omega))) ?_; rintro vck wck eck ⟨rfl⟩; have hzck := eck.size; rw [hchk])
      first | (refine Wx.skip hq rfl rfl rfl rfl ?_) | (refine Wx.pure hq rfl rfl rfl rfl (by first | exact rp_bin rfl rfl rfl (binI_t (by omega)) | exact rp_bin rfl rfl rfl (binI_f (by omega)) | exact rp_bin rfl rfl rfl rfl) ?_)
      refine Wx.pure hq rfl rfl rfl rfl (by first | exact rp_pick_t rfl rfl rfl | exact rp_pick_f rfl rfl rfl) ?_
      refine Wx.pure hq rfl rfl rfl rfl (rp_move rfl rfl) ?_
      first | (refine Wx.skip hq rfl rfl rfl rfl ?_) | (refine Wx.val hq rfl rfl rfl rfl ([]) (rv_load rfl rfl (by (intro u hu; first | exact Cells.ld (Cells.ext0 (by assumption) (by ((repeat (first | exact Ext.refl _ _ | assumption | refine Ext.trans ?_ (by assumption))); (first | done | fail "chain")))) _ rfl rfl | exact Cells.ld0 (Cells.ext0 (by assumption) (by ((repeat (first | exact Ext.refl _ _ | assumption | refine Ext.trans ?_ (by assumption))); (first | done | fail "chain")))) rfl rfl | exact Cells.ldA (Cells.ext0 (by assumption) (by ((repeat (first | exact Ext.refl _ _ | assumption | refine Ext.trans ?_ (by assumption))); (first | done | fail "chain")))) rfl rfl | exact Cells.ldL (Cells.ext0 (by assumption) (by ((repeat (first | exact Ext.refl _ _ | assumption | refine Ext.trans ?_ (by assumption))); (first | done | fail "chain")))) rfl rfl (by assumption) | exact Cells.ldP (Cells.ext0 (by assumption) (by ((repeat (first | exact Ext.refl _ _ | assumption | refine Ext.trans ?_ (by assumption))); (first | done | fail "chain")))) _ rfl rfl rfl rfl | exact Cells.ldP (Cells.ext0 (by assumption) (by ((repeat (first | exact Ext.refl _ _ | assumption | refine Ext.trans ?_ (by assumption))); (first | done | fail "chain")))) _ rfl rfl (by assumption) (by assumption)))) ?_)
      first | (refine Wx.skip hq rfl rfl rfl rfl ?_) | (refine Wx.pure hq rfl rfl rfl rfl (rp_move rfl rfl) ?_)
      first | (refine Wx.skip hq rfl rfl rfl rfl ?_) | (refine Wx.val hq rfl rfl rfl rfl ([]) (rv_bytes (A := A) (l := b) rfl rfl rfl rfl rfl rfl hsl.1 (fun u hu => (hdatf.ext0 (by ((repeat (first | exact Ext.refl _ _ | assumption | refine Ext.trans ?_ (by assumption))); (first | done | fail "chain")))).ext0 hu)) ?_)
      first | (refine Wx.actSkip rfl rfl rfl rfl ?_) | (refine Wx.actX [(23, [], wck)] rfl rfl rfl rfl ([]) (.keep (fun y hy => nomatch hy) (.drop (by kernel_rfl) (.drop (by kernel_rfl) (.drop (by kernel_rfl) (.drop (by kernel_rfl) (PendK.nil)))))) (acts_call rfl rfl rfl (ref_encode w.heap.size v _ cs _ (rep_ext0 (by ((repeat (first | exact Ext.refl _ _ | assumption | refine Ext.trans ?_ (by assumption))); (first | done | fail "chain"))) hrep) (by omega) (by have := es5'.size; omega))) (fun _ _ h => h.ext) ?_; rintro ven wen hgen; have een := hgen.ext; have hzen := een.size; obtain ⟨pe, ce, Ae, rfl, hsle, hke, hce, hae, _⟩ := own_sl hgen.own)
      first | (refine Wx.skip hq rfl rfl rfl rfl ?_) | (refine Wx.val hq rfl rfl rfl rfl ([]) (rv_bytes (A := Ae) (l := encV v) rfl rfl rfl rfl rfl rfl hsle.1 (fun u hu => hsle.2.ext0 hu)) ?_)
      first | (refine Wx.skip hq rfl rfl rfl rfl ?_) | (refine Wx.pure hq rfl rfl rfl rfl (by first | exact rp_strNe_t rfl rfl rfl (by (first | assumption | rfl | decide)) | exact rp_strNe_f rfl rfl rfl (by (first | assumption | rfl | decide)) | exact rp_strNe rfl rfl rfl) ?_)
      refine Wx.pure hq rfl rfl rfl rfl (by first | exact rp_pick_t rfl rfl rfl | exact rp_pick_f rfl rfl rfl) ?_
      refine Wx.nil ?_
      (repeat first | refine thenE_normal ?_ | refine thenE_exit ?_ | refine thenE_ret ?_ | refine blockE_normal ?_ | refine blockE_ret ?_ | refine blockE_same ?_ | refine blockE_other rfl ?_)
      (repeat refine Sx.seq ?_); first | refine Sx.cond_false rfl ?_ | refine Sx.cond rfl (fun h => absurd h (by simp [*])) (fun _ => ?_)
      (repeat refine Sx.seq ?_); refine Sx.skip ?_
      (repeat first | refine thenE_normal ?_ | refine thenE_exit ?_ | refine thenE_ret ?_ | refine blockE_normal ?_ | refine blockE_ret ?_ | refine blockE_same ?_ | refine blockE_other rfl ?_)
      (repeat refine Sx.seq ?_)
      refine Sx.textR ?_
      refine Ox.val rfl rfl (rv_load rfl rfl (by (intro u hu; first | exact Cells.ld (Cells.ext0 (by assumption) (by ((repeat (first | exact Ext.refl _ _ | assumption | refine Ext.trans ?_ (by assumption))); (first | done | fail "chain")))) _ rfl rfl | exact Cells.ld0 (Cells.ext0 (by assumption) (by ((repeat (first | exact Ext.refl _ _ | assumption | refine Ext.trans ?_ (by assumption))); (first | done | fail "chain")))) rfl rfl | exact Cells.ldA (Cells.ext0 (by assumption) (by ((repeat (first | exact Ext.refl _ _ | assumption | refine Ext.trans ?_ (by assumption))); (first | done | fail "chain")))) rfl rfl | exact Cells.ldL (Cells.ext0 (by assumption) (by ((repeat (first | exact Ext.refl _ _ | assumption | refine Ext.trans ?_ (by assumption))); (first | done | fail "chain")))) rfl rfl (by assumption) | exact Cells.ldP (Cells.ext0 (by assumption) (by ((repeat (first | exact Ext.refl _ _ | assumption | refine Ext.trans ?_ (by assumption))); (first | done | fail "chain")))) _ rfl rfl rfl rfl | exact Cells.ldP (Cells.ext0 (by assumption) (by ((repeat (first | exact Ext.refl _ _ | assumption | refine Ext.trans ?_ (by assumption))); (first | done | fail "chain")))) _ rfl rfl (by assumption) (by assumption)))) ?_
      refine Ox.act rfl rfl (acts_store_all rfl rfl rfl (hB2.ext (X := []) (by ((repeat (first | exact Ext.refl _ _ | assumption | refine Ext.trans ?_ (by assumption))); (first | done | fail "chain"))) (by simp)) rfl (by exact hc4) rfl hone) ?_
      rintro vsg wsg ⟨rfl, qsg, hbsg⟩
      refine Ox.pure rfl rfl (rp_assign rfl rfl) ?_
      refine Ox.nil ?_
      (repeat first | refine thenE_normal ?_ | refine thenE_exit ?_ | refine thenE_ret ?_ | refine blockE_normal ?_ | refine blockE_ret ?_ | refine blockE_same ?_ | refine blockE_other rfl ?_)
      (repeat refine Sx.seq ?_); refine Sx.ret ?_
      (repeat first | refine thenE_normal ?_ | refine thenE_exit ?_ | refine thenE_ret ?_ | refine blockE_normal ?_ | refine blockE_ret ?_ | refine blockE_same ?_ | refine blockE_other rfl ?_)
      refine fin _ _ cs 0 rfl rfl ((es5'.trans (by ((repeat (first | exact Ext.refl _ _ | assumption | refine Ext.trans ?_ (by assumption))); (first | done | fail "chain")))).join qsg (by simp; omega)) hbsg hc4 ?_ (by rw [hd])
      rw [hd]
      exact rep_weak (fun k _ hk => by omega) (rep_ext qsg (fun k hk => by simp; omega) (rep_ext0 (by ((repeat (first | exact Ext.refl _ _ | assumption | refine Ext.trans ?_ (by assumption))); (first | done | fail "chain"))) hrep))
    · have hd : decRes b = (zeroV, 10) := by
        rw [decRes, hv]
        cases hdr : b.drop k' with
        | nil => exact absurd (List.drop_eq_nil_iff.1 hdr) (by omega)
        | cons c t => rfl
      (repeat refine Sx.seq ?_)
      refine Sx.walkR rfl (fun _ _ _ _ h => h) [0, 1, 2, 3, 4, 5, 6, 7, 8, 9, 10, 11, 12, 13, 14, 15, 16, 17, 18, 19, 22, 23, 20, 21, 24, 25] [0, 1, 2, 3, 4, 5, 6, 7, 8, 9, 10, 11, 12, 13, 14, 16, 17, 18, 19, 21, 22, 23, 24, 25] (0) (by kernel_rfl) ?_
      intro hq w2 e2; have hz2 := e2.size
      refine Wx.pure hq rfl rfl rfl rfl (rp_move rfl rfl) ?_
      refine Wx.pure hq rfl rfl rfl rfl (by first | exact rp_nilP rfl rfl | exact rp_nilF rfl rfl) ?_
      refine Wx.pure hq rfl rfl rfl rfl (rp_fieldAddr rfl rfl rfl rfl) ?_
      refine Wx.val hq rfl rfl rfl rfl ([]) (rv_load rfl rfl (by (intro u hu; first | exact Cells.ld (Cells.ext0 (by assumption) (by ((repeat (first | exact Ext.refl _ _ | assumption | refine Ext.trans ?_ (by assumption))); (first | done | fail "chain")))) _ rfl rfl | exact Cells.ld0 (Cells.ext0 (by assumption) (by ((repeat (first | exact Ext.refl _ _ | assumption | refine Ext.trans ?_ (by assumption))); (first | done | fail "chain")))) rfl rfl | exact Cells.ldA (Cells.ext0 (by assumption) (by ((repeat (first | exact Ext.refl _ _ | assumption | refine Ext.trans ?_ (by assumption))); (first | done | fail "chain")))) rfl rfl | exact Cells.ldL (Cells.ext0 (by assumption) (by ((repeat (first | exact Ext.refl _ _ | assumption | refine Ext.trans ?_ (by assumption))); (first | done | fail "chain")))) rfl rfl (by assumption) | exact Cells.ldP (Cells.ext0 (by assumption) (by ((repeat (first | exact Ext.refl _ _ | assumption | refine Ext.trans ?_ (by assumption))); (first | done | fail "chain")))) _ rfl rfl rfl rfl | exact Cells.ldP (Cells.ext0 (by assumption) (by ((repeat (first | exact Ext.refl _ _ | assumption | refine Ext.trans ?_ (by assumption))); (first | done | fail "chain")))) _ rfl rfl (by assumption) (by assumption)))) ?_
      refine Wx.pure hq rfl rfl rfl rfl (rp_move rfl rfl) ?_
      first | (refine Wx.skip hq rfl rfl rfl rfl ?_) | (refine Wx.pure hq rfl rfl rfl rfl (rp_move rfl rfl) ?_)
      first | (refine Wx.skip hq rfl rfl rfl rfl ?_) | (refine Wx.pure hq rfl rfl rfl rfl (by first | exact rp_nilP rfl rfl | exact rp_nilF rfl rfl) ?_)
      first | (refine Wx.skip hq rfl rfl rfl rfl ?_) | (refine Wx.pure hq rfl rfl rfl rfl (rp_fieldAddr rfl rfl rfl rfl) ?_)
      first | (refine Wx.skip hq rfl rfl rfl rfl ?_) | (refine Wx.val hq rfl rfl rfl rfl ([]) (rv_load rfl rfl (by (intro u hu; first | exact Cells.ld (Cells.ext0 (by assumption) (by ((repeat (first | exact Ext.refl _ _ | assumption | refine Ext.trans ?_ (by assumption))); (first | done | fail "chain")))) _ rfl rfl | exact Cells.ld0 (Cells.ext0 (by assumption) (by ((repeat (first | exact Ext.refl _ _ | assumption | refine Ext.trans ?_ (by assumption))); (first | done | fail "chain")))) rfl rfl | exact Cells.ldA (Cells.ext0 (by assumption) (by ((repeat (first | exact Ext.refl _ _ | assumption | refine Ext.trans ?_ (by assumption))); (first | done | fail "chain")))) rfl rfl | exact Cells.ldL (Cells.ext0 (by assumption) (by ((repeat (first | exact Ext.refl _ _ | assumption | refine Ext.trans ?_ (by assumption))); (first | done | fail "chain")))) rfl rfl (by assumption) | exact Cells.ldP (Cells.ext0 (by assumption) (by ((repeat (first | exact Ext.refl _ _ | assumption | refine Ext.trans ?_ (by assumption))); (first | done | fail "chain")))) _ rfl rfl rfl rfl | exact Cells.ldP (Cells.ext0 (by assumption) (by ((repeat (first | exact Ext.refl _ _ | assumption | refine Ext.trans ?_ (by assumption))); (first | done | fail "chain")))) _ rfl rfl (by assumption) (by assumption)))) ?_)
      first | (refine Wx.skip hq rfl rfl rfl rfl ?_) | (refine Wx.pure hq rfl rfl rfl rfl (rp_move rfl rfl) ?_)
      first | (refine Wx.skip hq rfl rfl rfl rfl ?_) | (refine Wx.pure hq rfl rfl rfl rfl (rp_lenS rfl rfl rfl) ?_)
      first | (refine Wx.skip hq rfl rfl rfl rfl ?_) | (refine Wx.pure hq rfl rfl rfl rfl (by first | exact rp_bin rfl rfl rfl (binI_t (by omega)) | exact rp_bin rfl rfl rfl (binI_f (by omega)) | exact rp_bin rfl rfl rfl rfl) ?_)
      refine Wx.pure hq rfl rfl rfl rfl (by first | exact rp_pick_t rfl rfl rfl | exact rp_pick_f rfl rfl rfl) ?_
      refine Wx.pure hq rfl rfl rfl rfl (rp_move rfl rfl) ?_
      first | (refine Wx.skip hq rfl rfl rfl rfl ?_) | (refine Wx.val hq rfl rfl rfl rfl ([]) (rv_load rfl rfl (by (intro u hu; first | exact Cells.ld (Cells.ext0 (by assumption) (by ((repeat (first | exact Ext.refl _ _ | assumption | refine Ext.trans ?_ (by assumption))); (first | done | fail "chain")))) _ rfl rfl | exact Cells.ld0 (Cells.ext0 (by assumption) (by ((repeat (first | exact Ext.refl _ _ | assumption | refine Ext.trans ?_ (by assumption))); (first | done | fail "chain")))) rfl rfl | exact Cells.ldA (Cells.ext0 (by assumption) (by ((repeat (first | exact Ext.refl _ _ | assumption | refine Ext.trans ?_ (by assumption))); (first | done | fail "chain")))) rfl rfl | exact Cells.ldL (Cells.ext0 (by assumption) (by ((repeat (first | exact Ext.refl _ _ | assumption | refine Ext.trans ?_ (by assumption))); (first | done | fail "chain")))) rfl rfl (by assumption) | exact Cells.ldP (Cells.ext0 (by assumption) (by ((repeat (first | exact Ext.refl _ _ | assumption | refine Ext.trans ?_ (by assumption))); (first | done | fail "chain")))) _ rfl rfl rfl rfl | exact Cells.ldP (Cells.ext0 (by assumption) (by ((repeat (first | exact Ext.refl _ _ | assumption | refine Ext.trans ?_ (by assumption))); (first | done | fail "chain")))) _ rfl rfl (by assumption) (by assumption)))) ?_)
      first | (refine Wx.actSkip rfl rfl rfl rfl ?_) | (refine Wx.actNew rfl rfl rfl rfl (acts_call rfl rfl rfl (ref_Check v _ cs _ (rep_ext0 (by ((repeat (first | exact Ext.refl _ _ | assumption | refine Ext.trans ?_ (by assumption))); (first | done | fail "chain"))) hrep) (by omega))) ?_; rintro vck wck eck ⟨rfl⟩; have hzck := eck.size; rw [hchk])
      first | (refine Wx.skip hq rfl rfl rfl rfl ?_) | (refine Wx.pure hq rfl rfl rfl rfl (by first | exact rp_bin rfl rfl rfl (binI_t (by omega)) | exact rp_bin rfl rfl rfl (binI_f (by omega)) | exact rp_bin rfl rfl rfl rfl) ?_)
      refine Wx.pure hq rfl rfl rfl rfl (by first | exact rp_pick_t rfl rfl rfl | exact rp_pick_f rfl rfl rfl) ?_
      refine Wx.pure hq rfl rfl rfl rfl (rp_move rfl rfl) ?_
      first | (refine Wx.skip hq rfl rfl rfl rfl ?_) | (refine Wx.val hq rfl rfl rfl rfl ([]) (rv_load rfl rfl (by (intro u hu; first | exact Cells.ld (Cells.ext0 (by assumption) (by ((repeat (first | exact Ext.refl _ _ | assumption | refine Ext.trans ?_ (by assumption))); (first | done | fail "chain")))) _ rfl rfl | exact Cells.ld0 (Cells.ext0 (by assumption) (by ((repeat (first | exact Ext.refl _ _ | assumption | refine Ext.trans ?_ (by assumption))); (first | done | fail "chain")))) rfl rfl | exact Cells.ldA (Cells.ext0 (by assumption) (by ((repeat (first | exact Ext.refl _ _ | assumption | refine Ext.trans ?_ (by assumption))); (first | done | fail "chain")))) rfl rfl | exact Cells.ldL (Cells.ext0 (by assumption) (by ((repeat (first | exact Ext.refl _ _ | assumption | refine Ext.trans ?_ (by assumption))); (first | done | fail "chain")))) rfl rfl (by assumption) | exact Cells.ldP (Cells.ext0 (by assumption) (by ((repeat (first | exact Ext.refl _ _ | assumption | refine Ext.trans ?_ (by assumption))); (first | done | fail "chain")))) _ rfl rfl rfl rfl | exact Cells.ldP (Cells.ext0 (by assumption) (by ((repeat (first | exact Ext.refl _ _ | assumption | refine Ext.trans ?_ (by assumption))); (first | done | fail "chain")))) _ rfl rfl (by assumption) (by assumption)))) ?_)
      first | (refine Wx.skip hq rfl rfl rfl rfl ?_) | (refine Wx.pure hq rfl rfl rfl rfl (rp_move rfl rfl) ?_)
      first | (refine Wx.skip hq rfl rfl rfl rfl ?_) | (refine Wx.val hq rfl rfl rfl rfl ([]) (rv_bytes (A := A) (l := b) rfl rfl rfl rfl rfl rfl hsl.1 (fun u hu => (hdatf.ext0 (by ((repeat (first | exact Ext.refl _ _ | assumption | refine Ext.trans ?_ (by assumption))); (first | done | fail "chain")))).ext0 hu)) ?_)
      first | (refine Wx.actSkip rfl rfl rfl rfl ?_) | (refine Wx.actX [(23, [], wck)] rfl rfl rfl rfl ([]) (.keep (fun y hy => nomatch hy) (.drop (by kernel_rfl) (.drop (by kernel_rfl) (.drop (by kernel_rfl) (.drop (by kernel_rfl) (PendK.nil)))))) (acts_call rfl rfl rfl (ref_encode w.heap.size v _ cs _ (rep_ext0 (by ((repeat (first | exact Ext.refl _ _ | assumption | refine Ext.trans ?_ (by assumption))); (first | done | fail "chain"))) hrep) (by omega) (by have := es5'.size; omega))) (fun _ _ h => h.ext) ?_; rintro ven wen hgen; have een := hgen.ext; have hzen := een.size; obtain ⟨pe, ce, Ae, rfl, hsle, hke, hce, hae, _⟩ := own_sl hgen.own)
      first | (refine Wx.skip hq rfl rfl rfl rfl ?_) | (refine Wx.val hq rfl rfl rfl rfl ([]) (rv_bytes (A := Ae) (l := encV v) rfl rfl rfl rfl rfl rfl hsle.1 (fun u hu => hsle.2.ext0 hu)) ?_)
      first | (refine Wx.skip hq rfl rfl rfl rfl ?_) | (refine Wx.pure hq rfl rfl rfl rfl (by first | exact rp_strNe_t rfl rfl rfl (by (first | assumption | rfl | decide)) | exact rp_strNe_f rfl rfl rfl (by (first | assumption | rfl | decide)) | exact rp_strNe rfl rfl rfl) ?_)
      refine Wx.pure hq rfl rfl rfl rfl (by first | exact rp_pick_t rfl rfl rfl | exact rp_pick_f rfl rfl rfl) ?_
      refine Wx.nil ?_
      (repeat first | refine thenE_normal ?_ | refine thenE_exit ?_ | refine thenE_ret ?_ | refine blockE_normal ?_ | refine blockE_ret ?_ | refine blockE_same ?_ | refine blockE_other rfl ?_)
      (repeat refine Sx.seq ?_); first | refine Sx.cond_true rfl ?_ | refine Sx.cond rfl (fun _ => ?_) (fun h => absurd h (by simp [*]))
      (repeat refine Sx.seq ?_)
      refine Sx.textR ?_
      refine Ox.pure rfl rfl (rp_buildS (ps := []) rfl rfl rfl rfl rfl) ?_
      refine Ox.act rfl rfl (acts_store_all rfl rfl rfl (hB2.ext (X := []) (by ((repeat (first | exact Ext.refl _ _ | assumption | refine Ext.trans ?_ (by assumption))); (first | done | fail "chain"))) (by simp)) rfl rfl rfl (by (first | assumption | exact List.all_eq_true.mp rfl | simp [Value.cells, Value.oneCell']))) ?_
      rintro vsf wsf ⟨rfl, qsf, hbsf⟩
      refine Ox.pure rfl rfl (rp_assign rfl rfl) ?_
      refine Ox.nil ?_
      (repeat first | refine thenE_normal ?_ | refine thenE_exit ?_ | refine thenE_ret ?_ | refine blockE_normal ?_ | refine blockE_ret ?_ | refine blockE_same ?_ | refine blockE_other rfl ?_)
      (repeat refine Sx.seq ?_); refine Sx.ret ?_
      (repeat first | refine thenE_normal ?_ | refine thenE_exit ?_ | refine thenE_ret ?_ | refine blockE_normal ?_ | refine blockE_ret ?_ | refine blockE_same ?_ | refine blockE_other rfl ?_)
      exact bad _ _ _ hd (by ((repeat (first | exact Ext.refl _ _ | assumption | refine Ext.trans ?_ (by assumption))); (first | done | fail "chain"))) qsf hbsf rfl rfl
  · rw [List.drop_zero] at hv
    obtain ⟨hk', p2, A2, cap2, hBr, hcap2, hsl2, hnA2⟩ := id hRf
    have hBrc := hBr.cells
    have hd : decRes b = (zeroV, 10) := by rw [decRes, hv]
    (repeat refine Sx.seq ?_)
    refine Sx.walkR rfl (fun _ _ _ _ h => h) [0, 1, 2, 3, 4, 5, 6, 7, 8, 9, 10, 11, 12, 13, 14, 15, 16, 17, 18, 19, 22, 23, 20, 21, 24, 25] [0, 1, 2, 3, 4, 5, 6, 7, 8, 9, 10, 11, 12, 13, 14, 16, 17, 18, 19, 21, 22, 23, 24, 25] (0) (by kernel_rfl) ?_
    intro hq w3 e3; have hz3 := e3.size
    refine Wx.pure hq rfl rfl rfl rfl (rp_move rfl rfl) ?_
    refine Wx.pure hq rfl rfl rfl rfl (by first | exact rp_nilP rfl rfl | exact rp_nilF rfl rfl) ?_
    refine Wx.pure hq rfl rfl rfl rfl (rp_fieldAddr rfl rfl rfl rfl) ?_
    refine Wx.val hq rfl rfl rfl rfl ([]) (rv_load rfl rfl (by (intro u hu; first | exact Cells.ld (Cells.ext0 (by assumption) (by ((repeat (first | exact Ext.refl _ _ | assumption | refine Ext.trans ?_ (by assumption))); (first | done | fail "chain")))) _ rfl rfl | exact Cells.ld0 (Cells.ext0 (by assumption) (by ((repeat (first | exact Ext.refl _ _ | assumption | refine Ext.trans ?_ (by assumption))); (first | done | fail "chain")))) rfl rfl | exact Cells.ldA (Cells.ext0 (by assumption) (by ((repeat (first | exact Ext.refl _ _ | assumption | refine Ext.trans ?_ (by assumption))); (first | done | fail "chain")))) rfl rfl | exact Cells.ldL (Cells.ext0 (by assumption) (by ((repeat (first | exact Ext.refl _ _ | assumption | refine Ext.trans ?_ (by assumption))); (first | done | fail "chain")))) rfl rfl (by assumption) | exact Cells.ldP (Cells.ext0 (by assumption) (by ((repeat (first | exact Ext.refl _ _ | assumption | refine Ext.trans ?_ (by assumption))); (first | done | fail "chain")))) _ rfl rfl rfl rfl | exact Cells.ldP (Cells.ext0 (by assumption) (by ((repeat (first | exact Ext.refl _ _ | assumption | refine Ext.trans ?_ (by assumption))); (first | done | fail "chain")))) _ rfl rfl (by assumption) (by assumption)))) ?_
    refine Wx.pure hq rfl rfl rfl rfl (rp_move rfl rfl) ?_
    first | (refine Wx.skip hq rfl rfl rfl rfl ?_) | (refine Wx.pure hq rfl rfl rfl rfl (rp_move rfl rfl) ?_)
    first | (refine Wx.skip hq rfl rfl rfl rfl ?_) | (refine Wx.pure hq rfl rfl rfl rfl (by first | exact rp_nilP rfl rfl | exact rp_nilF rfl rfl) ?_)
    first | (refine Wx.skip hq rfl rfl rfl rfl ?_) | (refine Wx.pure hq rfl rfl rfl rfl (rp_fieldAddr rfl rfl rfl rfl) ?_)
    first | (refine Wx.skip hq rfl rfl rfl rfl ?_) | (refine Wx.val hq rfl rfl rfl rfl ([]) (rv_load rfl rfl (by (intro u hu; first | exact Cells.ld (Cells.ext0 (by assumption) (by ((repeat (first | exact Ext.refl _ _ | assumption | refine Ext.trans ?_ (by assumption))); (first | done | fail "chain")))) _ rfl rfl | exact Cells.ld0 (Cells.ext0 (by assumption) (by ((repeat (first | exact Ext.refl _ _ | assumption | refine Ext.trans ?_ (by assumption))); (first | done | fail "chain")))) rfl rfl | exact Cells.ldA (Cells.ext0 (by assumption) (by ((repeat (first | exact Ext.refl _ _ | assumption | refine Ext.trans ?_ (by assumption))); (first | done | fail "chain")))) rfl rfl | exact Cells.ldL (Cells.ext0 (by assumption) (by ((repeat (first | exact Ext.refl _ _ | assumption | refine Ext.trans ?_ (by assumption))); (first | done | fail "chain")))) rfl rfl (by assumption) | exact Cells.ldP (Cells.ext0 (by assumption) (by ((repeat (first | exact Ext.refl _ _ | assumption | refine Ext.trans ?_ (by assumption))); (first | done | fail "chain")))) _ rfl rfl rfl rfl | exact Cells.ldP (Cells.ext0 (by assumption) (by ((repeat (first | exact Ext.refl _ _ | assumption | refine Ext.trans ?_ (by assumption))); (first | done | fail "chain")))) _ rfl rfl (by assumption) (by assumption)))) ?_)
    first | (refine Wx.skip hq rfl rfl rfl rfl ?_) | (refine Wx.pure hq rfl rfl rfl rfl (rp_move rfl rfl) ?_)
    first | (refine Wx.skip hq rfl rfl rfl rfl ?_) | (refine Wx.pure hq rfl rfl rfl rfl (rp_lenS rfl rfl rfl) ?_)
    first | (refine Wx.skip hq rfl rfl rfl rfl ?_) | (refine Wx.pure hq rfl rfl rfl rfl (by first | exact rp_bin rfl rfl rfl (binI_t (by omega)) | exact rp_bin rfl rfl rfl (binI_f (by omega)) | exact rp_bin rfl rfl rfl rfl) ?_)
    refine Wx.pure hq rfl rfl rfl rfl (by first | exact rp_pick_t rfl rfl rfl | exact rp_pick_f rfl rfl rfl) ?_
    refine Wx.pure hq rfl rfl rfl rfl (rp_move rfl rfl) ?_
    first | (refine Wx.skip hq rfl rfl rfl rfl ?_) | (refine Wx.val hq rfl rfl rfl rfl ([]) (rv_load rfl rfl (by (intro u hu; first | exact Cells.ld (Cells.ext0 (by assumption) (by ((repeat (first | exact Ext.refl _ _ | assumption | refine Ext.trans ?_ (by assumption))); (first | done | fail "chain")))) _ rfl rfl | exact Cells.ld0 (Cells.ext0 (by assumption) (by ((repeat (first | exact Ext.refl _ _ | assumption | refine Ext.trans ?_ (by assumption))); (first | done | fail "chain")))) rfl rfl | exact Cells.ldA (Cells.ext0 (by assumption) (by ((repeat (first | exact Ext.refl _ _ | assumption | refine Ext.trans ?_ (by assumption))); (first | done | fail "chain")))) rfl rfl | exact Cells.ldL (Cells.ext0 (by assumption) (by ((repeat (first | exact Ext.refl _ _ | assumption | refine Ext.trans ?_ (by assumption))); (first | done | fail "chain")))) rfl rfl (by assumption) | exact Cells.ldP (Cells.ext0 (by assumption) (by ((repeat (first | exact Ext.refl _ _ | assumption | refine Ext.trans ?_ (by assumption))); (first | done | fail "chain")))) _ rfl rfl rfl rfl | exact Cells.ldP (Cells.ext0 (by assumption) (by ((repeat (first | exact Ext.refl _ _ | assumption | refine Ext.trans ?_ (by assumption))); (first | done | fail "chain")))) _ rfl rfl (by assumption) (by assumption)))) ?_)
    first | (refine Wx.actSkip rfl rfl rfl rfl ?_) | (refine Wx.actNew rfl rfl rfl rfl (acts_call rfl rfl rfl (ref_Check v _ cs _ (rep_ext0 (by ((repeat (first | exact Ext.refl _ _ | assumption | refine Ext.trans ?_ (by assumption))); (first | done | fail "chain"))) hrep) (by omega))) ?_; rintro vck wck eck ⟨rfl⟩; have hzck := eck.size; rw [hchk])
    first | (refine Wx.skip hq rfl rfl rfl rfl ?_) | (refine Wx.pure hq rfl rfl rfl rfl (by first | exact rp_bin rfl rfl rfl (binI_t (by omega)) | exact rp_bin rfl rfl rfl (binI_f (by omega)) | exact rp_bin rfl rfl rfl rfl) ?_)
    refine Wx.pure hq rfl rfl rfl rfl (by first | exact rp_pick_t rfl rfl rfl | exact rp_pick_f rfl rfl rfl) ?_
    refine Wx.pure hq rfl rfl rfl rfl (rp_move rfl rfl) ?_
    first | (refine Wx.skip hq rfl rfl rfl rfl ?_) | (refine Wx.val hq rfl rfl rfl rfl ([]) (rv_load rfl rfl (by (intro u hu; first | exact Cells.ld (Cells.ext0 (by assumption) (by ((repeat (first | exact Ext.refl _ _ | assumption | refine Ext.trans ?_ (by assumption))); (first | done | fail "chain")))) _ rfl rfl | exact Cells.ld0 (Cells.ext0 (by assumption) (by ((repeat (first | exact Ext.refl _ _ | assumption | refine Ext.trans ?_ (by assumption))); (first | done | fail "chain")))) rfl rfl | exact Cells.ldA (Cells.ext0 (by assumption) (by ((repeat (first | exact Ext.refl _ _ | assumption | refine Ext.trans ?_ (by assumption))); (first | done | fail "chain")))) rfl rfl | exact Cells.ldL (Cells.ext0 (by assumption) (by ((repeat (first | exact Ext.refl _ _ | assumption | refine Ext.trans ?_ (by assumption))); (first | done | fail "chain")))) rfl rfl (by assumption) | exact Cells.ldP (Cells.ext0 (by assumption) (by ((repeat (first | exact Ext.refl _ _ | assumption | refine Ext.trans ?_ (by assumption))); (first | done | fail "chain")))) _ rfl rfl rfl rfl | exact Cells.ldP (Cells.ext0 (by assumption) (by ((repeat (first | exact Ext.refl _ _ | assumption | refine Ext.trans ?_ (by assumption))); (first | done | fail "chain")))) _ rfl rfl (by assumption) (by assumption)))) ?_)
    first | (refine Wx.skip hq rfl rfl rfl rfl ?_) | (refine Wx.pure hq rfl rfl rfl rfl (rp_move rfl rfl) ?_)
    first | (refine Wx.skip hq rfl rfl rfl rfl ?_) | (refine Wx.val hq rfl rfl rfl rfl ([]) (rv_bytes (A := A) (l := b) rfl rfl rfl rfl rfl rfl hsl.1 (fun u hu => (hdatf.ext0 (by ((repeat (first | exact Ext.refl _ _ | assumption | refine Ext.trans ?_ (by assumption))); (first | done | fail "chain")))).ext0 hu)) ?_)
    first | (refine Wx.actSkip rfl rfl rfl rfl ?_) | (refine Wx.actX [(23, [], wck)] rfl rfl rfl rfl ([]) (.keep (fun y hy => nomatch hy) (.drop (by kernel_rfl) (.drop (by kernel_rfl) (.drop (by kernel_rfl) (.drop (by kernel_rfl) (PendK.nil)))))) (acts_call rfl rfl rfl (ref_encode w.heap.size v _ cs _ (rep_ext0 (by ((repeat (first | exact Ext.refl _ _ | assumption | refine Ext.trans ?_ (by assumption))); (first | done | fail "chain"))) hrep) (by omega) (by have := es5'.size; omega))) (fun _ _ h => h.ext) ?_; rintro ven wen hgen; have een := hgen.ext; have hzen := een.size; obtain ⟨pe, ce, Ae, rfl, hsle, hke, hce, hae, _⟩ := own_sl hgen.own)
    first | (refine Wx.skip hq rfl rfl rfl rfl ?_) | (refine Wx.val hq rfl rfl rfl rfl ([]) (rv_bytes (A := Ae) (l := encV v) rfl rfl rfl rfl rfl rfl hsle.1 (fun u hu => hsle.2.ext0 hu)) ?_)
    first | (refine Wx.skip hq rfl rfl rfl rfl ?_) | (refine Wx.pure hq rfl rfl rfl rfl (by first | exact rp_strNe_t rfl rfl rfl (by (first | assumption | rfl | decide)) | exact rp_strNe_f rfl rfl rfl (by (first | assumption | rfl | decide)) | exact rp_strNe rfl rfl rfl) ?_)
    refine Wx.pure hq rfl rfl rfl rfl (by first | exact rp_pick_t rfl rfl rfl | exact rp_pick_f rfl rfl rfl) ?_
    refine Wx.nil ?_
    (repeat first | refine thenE_normal ?_ | refine thenE_exit ?_ | refine thenE_ret ?_ | refine blockE_normal ?_ | refine blockE_ret ?_ | refine blockE_same ?_ | refine blockE_other rfl ?_)
    (repeat refine Sx.seq ?_); first | refine Sx.cond_true rfl ?_ | refine Sx.cond rfl (fun _ => ?_) (fun h => absurd h (by simp [*]))
    (repeat refine Sx.seq ?_)
    refine Sx.textR ?_
    refine Ox.pure rfl rfl (rp_buildS (ps := []) rfl rfl rfl rfl rfl) ?_
    refine Ox.act rfl rfl (acts_store_all rfl rfl rfl (hB2.ext (X := []) (by ((repeat (first | exact Ext.refl _ _ | assumption | refine Ext.trans ?_ (by assumption))); (first | done | fail "chain"))) (by simp)) rfl rfl rfl (by (first | assumption | exact List.all_eq_true.mp rfl | simp [Value.cells, Value.oneCell']))) ?_
    rintro vsf wsf ⟨rfl, qsf, hbsf⟩
    refine Ox.pure rfl rfl (rp_assign rfl rfl) ?_
    refine Ox.nil ?_
    (repeat first | refine thenE_normal ?_ | refine thenE_exit ?_ | refine thenE_ret ?_ | refine blockE_normal ?_ | refine blockE_ret ?_ | refine blockE_same ?_ | refine blockE_other rfl ?_)
    (repeat refine Sx.seq ?_); refine Sx.ret ?_
    (repeat first | refine thenE_normal ?_ | refine thenE_exit ?_ | refine thenE_ret ?_ | refine blockE_normal ?_ | refine blockE_ret ?_ | refine blockE_same ?_ | refine blockE_other rfl ?_)
    exact bad _ _ _ hd (by ((repeat (first | exact Ext.refl _ _ | assumption | refine Ext.trans ?_ (by assumption))); (first | done | fail "chain"))) qsf hbsf rfl rfl

theorem ref_Int (n : Int) (w : World) : Calls Try.prog 23 #[.int .i64 n] w (Ret fun r w' => Ext [] w w' ∧ r = .agg #[.int .i64 1, .int .i64 n, .string ⟨[].toArray⟩, nilS]) := by
  refine calls_of_Sx (args := [.int .i64 n]) Try.func23 rfl rfl ?_
  (repeat refine Sx.seq ?_)
  refine Sx.textR ?_
  refine Ox.act rfl rfl (acts_alloc rfl rfl) ?_
  rintro val wal ⟨eal, bal, rfl, hbal, hBal⟩
  first | (have hCal : Cells wal ⟨bal, 0, none⟩ [_, _, _, _] := hBal.cells) | have hCal := Blk.cellsL hBal
  have hlal := hBal.lt
  have hzal := eal.size
  refine Ox.nil ?_
  (repeat first | refine thenE_normal ?_ | refine thenE_exit ?_ | refine thenE_ret ?_ | refine blockE_normal ?_ | refine blockE_ret ?_ | refine blockE_same ?_ | refine blockE_other rfl ?_)
  (repeat refine Sx.seq ?_)
  refine Sx.textR ?_
  refine Ox.pure rfl rfl (rp_move rfl rfl) ?_
  refine Ox.pure rfl rfl (rp_buildS (ps := [(0, .const _), (1, .tmp 3)]) rfl rfl rfl rfl rfl) ?_
  refine Ox.act rfl rfl (acts_store_all rfl rfl rfl (hBal.ext (X := []) (by ((repeat (first | exact Ext.refl _ _ | assumption | refine Ext.trans ?_ (by assumption))); (first | done | fail "chain"))) (by simp)) rfl rfl rfl (by (first | assumption | exact List.all_eq_true.mp rfl | simp [Value.cells, Value.oneCell']))) ?_
  rintro vst wst ⟨rfl, qst, hbst⟩
  refine Ox.nil ?_
  (repeat first | refine thenE_normal ?_ | refine thenE_exit ?_ | refine thenE_ret ?_ | refine blockE_normal ?_ | refine blockE_ret ?_ | refine blockE_same ?_ | refine blockE_other rfl ?_)
  (repeat refine Sx.seq ?_); refine Sx.ret ?_
  (repeat first | refine thenE_normal ?_ | refine thenE_exit ?_ | refine thenE_ret ?_ | refine blockE_normal ?_ | refine blockE_ret ?_ | refine blockE_same ?_ | refine blockE_other rfl ?_)
  exact endE_ret [_] ⟨⟨⟨bal, 0, none⟩, rfl, hbst.cells.ldA rfl rfl⟩, trivial⟩ ⟨Ext.join eal ((Ext.up (by ((repeat (first | exact Ext.refl _ _ | assumption | refine Ext.trans ?_ (by assumption))); (first | done | fail "chain")))).trans qst) (by simp; omega), rfl⟩

theorem ref_Text (s : List UInt8) (w : World) : Calls Try.prog 24 #[.string ⟨s.toArray⟩] w (Ret fun r w' => Ext [] w w' ∧ r = .agg #[.int .i64 2, .int .i64 0, .string ⟨s.toArray⟩, nilS]) := by
  refine calls_of_Sx (args := [.string ⟨s.toArray⟩]) Try.func24 rfl rfl ?_
  (repeat refine Sx.seq ?_)
  refine Sx.textR ?_
  refine Ox.act rfl rfl (acts_alloc rfl rfl) ?_
  rintro val wal ⟨eal, bal, rfl, hbal, hBal⟩
  first | (have hCal : Cells wal ⟨bal, 0, none⟩ [_, _, _, _] := hBal.cells) | have hCal := Blk.cellsL hBal
  have hlal := hBal.lt
  have hzal := eal.size
  refine Ox.nil ?_
  (repeat first | refine thenE_normal ?_ | refine thenE_exit ?_ | refine thenE_ret ?_ | refine blockE_normal ?_ | refine blockE_ret ?_ | refine blockE_same ?_ | refine blockE_other rfl ?_)
  (repeat refine Sx.seq ?_)
  refine Sx.textR ?_
  refine Ox.pure rfl rfl (rp_move rfl rfl) ?_
  refine Ox.pure rfl rfl (rp_buildS (ps := [(0, .const _), (2, .tmp 3)]) rfl rfl rfl rfl rfl) ?_
  refine Ox.act rfl rfl (acts_store_all rfl rfl rfl (hBal.ext (X := []) (by ((repeat (first | exact Ext.refl _ _ | assumption | refine Ext.trans ?_ (by assumption))); (first | done | fail "chain"))) (by simp)) rfl rfl rfl (by (first | assumption | exact List.all_eq_true.mp rfl | simp [Value.cells, Value.oneCell']))) ?_
  rintro vst wst ⟨rfl, qst, hbst⟩
  refine Ox.nil ?_
  (repeat first | refine thenE_normal ?_ | refine thenE_exit ?_ | refine thenE_ret ?_ | refine blockE_normal ?_ | refine blockE_ret ?_ | refine blockE_same ?_ | refine blockE_other rfl ?_)
  (repeat refine Sx.seq ?_); refine Sx.ret ?_
  (repeat first | refine thenE_normal ?_ | refine thenE_exit ?_ | refine thenE_ret ?_ | refine blockE_normal ?_ | refine blockE_ret ?_ | refine blockE_same ?_ | refine blockE_other rfl ?_)
  exact endE_ret [_] ⟨⟨⟨bal, 0, none⟩, rfl, hbst.cells.ldA rfl rfl⟩, trivial⟩ ⟨Ext.join eal ((Ext.up (by ((repeat (first | exact Ext.refl _ _ | assumption | refine Ext.trans ?_ (by assumption))); (first | done | fail "chain")))).trans qst) (by simp; omega), rfl⟩

theorem ref_List (p : Option Addr) (len cap : Nat) (w : World) : Calls Try.prog 22 #[.slice p len cap] w (Ret fun r w' => Ext [] w w' ∧ r = .agg #[.int .i64 3, .int .i64 0, .string ⟨[].toArray⟩, .slice p len cap]) := by
  refine calls_of_Sx (args := [.slice p len cap]) Try.func22 rfl rfl ?_
  (repeat refine Sx.seq ?_)
  refine Sx.textR ?_
  refine Ox.act rfl rfl (acts_alloc rfl rfl) ?_
  rintro val wal ⟨eal, bal, rfl, hbal, hBal⟩
  first | (have hCal : Cells wal ⟨bal, 0, none⟩ [_, _, _, _] := hBal.cells) | have hCal := Blk.cellsL hBal
  have hlal := hBal.lt
  have hzal := eal.size
  refine Ox.nil ?_
  (repeat first | refine thenE_normal ?_ | refine thenE_exit ?_ | refine thenE_ret ?_ | refine blockE_normal ?_ | refine blockE_ret ?_ | refine blockE_same ?_ | refine blockE_other rfl ?_)
  (repeat refine Sx.seq ?_)
  refine Sx.textR ?_
  refine Ox.pure rfl rfl (rp_move rfl rfl) ?_
  refine Ox.pure rfl rfl (rp_buildS (ps := [(0, .const _), (3, .tmp 3)]) rfl rfl rfl rfl rfl) ?_
  refine Ox.act rfl rfl (acts_store_all rfl rfl rfl (hBal.ext (X := []) (by ((repeat (first | exact Ext.refl _ _ | assumption | refine Ext.trans ?_ (by assumption))); (first | done | fail "chain"))) (by simp)) rfl rfl rfl (by (first | assumption | exact List.all_eq_true.mp rfl | simp [Value.cells, Value.oneCell']))) ?_
  rintro vst wst ⟨rfl, qst, hbst⟩
  refine Ox.nil ?_
  (repeat first | refine thenE_normal ?_ | refine thenE_exit ?_ | refine thenE_ret ?_ | refine blockE_normal ?_ | refine blockE_ret ?_ | refine blockE_same ?_ | refine blockE_other rfl ?_)
  (repeat refine Sx.seq ?_); refine Sx.ret ?_
  (repeat first | refine thenE_normal ?_ | refine thenE_exit ?_ | refine thenE_ret ?_ | refine blockE_normal ?_ | refine blockE_ret ?_ | refine blockE_same ?_ | refine blockE_other rfl ?_)
  exact endE_ret [_] ⟨⟨⟨bal, 0, none⟩, rfl, hbst.cells.ldA rfl rfl⟩, trivial⟩ ⟨Ext.join eal ((Ext.up (by ((repeat (first | exact Ext.refl _ _ | assumption | refine Ext.trans ?_ (by assumption))); (first | done | fail "chain")))).trans qst) (by simp; omega), rfl⟩

end Go.Proofs.Ytflopfjhejchfaa
