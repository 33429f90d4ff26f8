/- The codec's walks: what is written. -/
import Derived.Test.YtflopfjhejchfaaRows
import Derived.Test.YtflopfjhejchfaaCodecC
import Derived.Test.YtflopfjhejchfaaCodecN
set_option linter.unusedVariables false
set_option linter.unusedSimpArgs false
namespace Go.Proofs.Ytflopfjhejchfaa
open Go Go.Eng

/-- What newWriter has made. -/
def Wr (w : World) (ba bc : Nat) : Prop :=
  Cells w ⟨ba, 0, none⟩ [.nilFunc, .func (.func 37) #[] #[], .func (.func 40) #[] #[], .func (.func 41) #[] #[.pointer (some ⟨bc, 0, none⟩)]] ∧ Cells w ⟨bc, 0, none⟩ [.pointer (some ⟨ba, 0, none⟩)]
theorem Wr.ext {w w' : World} {ba bc : Nat} {X : List Nat} (h : Wr w ba bc) (he : Ext X w w') (h1 : ba ∉ X) (h2 : bc ∉ X) : Wr w' ba bc := ⟨h.1.ext he h1, h.2.ext he h2⟩
def wfn (k : Int) : FuncId := if k = 1 then 37 else if k = 2 then 40 else 41
def wcap (bc : Nat) (k : Int) : Array Value := if k = 1 then #[] else if k = 2 then #[] else #[.pointer (some ⟨bc, 0, none⟩)]

theorem own_not {w : World} {base : Nat} {e : TypeId} {size : Nat} {v : Value} {k : Nat} {xs : List Value} (h : w.ownsRow base e size v k xs) {b : Nat} (hb : b < base ∨ w.heap.size ≤ b) : b ∉ v.ownBlock.toList := fun hm => by
  have := own_lt h b hm; omega

theorem encL_take {l : List V} {i : Nat} (hi : i < l.length) : encL (l.take (i + 1)) = encL (l.take i) ++ encV l[i] := by
  rw [← List.take_append_getElem hi, encL_append]; simp [encL]
theorem encL_take_le (l : List V) (i : Nat) : (encL (l.take i)).length ≤ (encL l).length := by
  have := encL_append (l.take i) (l.drop i)
  rw [List.take_append_drop] at this
  rw [this, List.length_append]; omega

theorem formed_kind {v : V} (h : formedV v = true) : v.kind = 1 ∨ v.kind = 2 ∨ v.kind = 3 := by
  cases v with
  | mk k n s l =>
    rw [formedV] at h
    show k = 1 ∨ k = 2 ∨ k = 3
    by_cases h1 : k = 1
    · exact .inl h1
    · by_cases h2 : k = 2
      · exact .inr (.inl h2)
      · by_cases h3 : k = 3
        · exact .inr (.inr h3)
        · rw [if_neg h1, if_neg h2, if_neg h3] at h; cases h
theorem wcell (ba bc : Nat) {k : Int} (h : k = 1 ∨ k = 2 ∨ k = 3) : [Value.nilFunc, .func (.func 37) #[] #[], .func (.func 40) #[] #[], .func (.func 41) #[] #[.pointer (some ⟨bc, 0, none⟩)]][k.toNat * 1]? = some (.func (.func (wfn k)) #[] (wcap bc k)) := by
  rcases h with rfl | rfl | rfl <;> rfl
theorem wcallable {k : Int} (h : k = 1 ∨ k = 2 ∨ k = 3) : callable Try.prog (wfn k) = true := by
  rcases h with rfl | rfl | rfl <;> rfl
theorem rep_kind {S : Nat → Prop} {w : World} {v : V} {cs : List Value} (h : rep S w v cs) : cs[0]? = some (.int .i64 v.kind) := by
  cases v with
  | mk k n s l =>
    obtain ⟨_, _, _, _, p, cap, A, row, rfl, _⟩ := h
    rfl

theorem write_at : ∀ (v : V), formedV v = true → ∀ (S : Nat → Prop) (cs : List Value) (B : Nat) (b : List UInt8) (bv : Value) (w : World) (ba bc : Nat), rep S w v cs → (∀ k, S k → k < B) → Wr w ba bc → ba < B → bc < B →
    w.ownsRow B 5 1 bv b.length (bytesV b) → b.length + (encV v).length ≤ 1099511627776 → B ≤ w.heap.size →
    Calls Try.prog (wfn v.kind) (#[bv, .agg cs.toArray] ++ wcap bc v.kind) w (Ret (Grew B 5 1 w bv (b ++ encV v).length (bytesV (b ++ encV v)))) := by
  refine V.ind ?_
  intro k n s l ih hf S cs B b bv w ba bc h hSB hW hba hbc hown hlen hB
  obtain ⟨hk, hn, hs, hl, p, cap, A, row, rfl, hcap, hcap2, hsl, hb, hr⟩ := h
  by_cases h1 : k = 1
  · have henc : encV (.mk k n s l) = 1 :: numeralL (zig n) := by rw [encV, if_pos h1]
    rw [henc] at hlen ⊢
    subst h1
    show Calls Try.prog 37 #[bv, .agg #[.int .i64 1, .int .i64 n, .string ⟨s.toArray⟩, .slice p l.length cap]] w _
    refine calls_of_Sx (args := [bv, .agg #[.int .i64 1, .int .i64 n, .string ⟨s.toArray⟩, .slice p l.length cap]]) Try.func37 rfl rfl ?_
    (repeat refine Sx.seq ?_)
    refine Sx.textR ?_
    refine Ox.act rfl rfl (acts_box rfl rfl) ?_
    rintro vbx wbx ⟨ebx, bbx, rfl, hbbx, hBbx⟩
    first | (have hCbx : Cells wbx ⟨bbx, 0, none⟩ [_, _, _, _] := hBbx.cells) | have hCbx := Blk.cellsL hBbx
    have hlbx := hBbx.lt
    have hzbx := ebx.size
    have hnx := own_not hown (.inr hbbx)
    refine Ox.pure rfl rfl (rp_assign rfl rfl) ?_
    refine Ox.nil ?_
    (repeat first | refine thenE_normal ?_ | refine thenE_exit ?_ | refine thenE_ret ?_ | refine blockE_normal ?_ | refine blockE_ret ?_ | refine blockE_same ?_ | refine blockE_other rfl ?_)
    (repeat refine Sx.seq ?_)
    refine Sx.walkR rfl (fun _ _ _ _ h => h) [0, 3, 4, 1, 2, 5, 6, 7] [0, 3, 4, 7] (0) (by kernel_rfl) ?_
    intro hq w1 e1; have hz1 := e1.size
    refine Wx.pure hq rfl rfl rfl rfl (rp_move rfl rfl) ?_
    refine Wx.pure hq rfl rfl rfl rfl (rp_fieldAddr rfl rfl rfl rfl) ?_
    refine Wx.val hq rfl rfl rfl rfl (bv.ownBlock.toList) (rv_load rfl rfl (by (intro u hu; first | exact Cells.ld (Cells.ext (Cells.ext0 (by assumption) (by ((repeat (first | exact Ext.refl _ _ | assumption | refine Ext.trans ?_ (by assumption))); (first | done | fail "chain")))) hu (by assumption)) _ rfl rfl | exact Cells.ld0 (Cells.ext (Cells.ext0 (by assumption) (by ((repeat (first | exact Ext.refl _ _ | assumption | refine Ext.trans ?_ (by assumption))); (first | done | fail "chain")))) hu (by assumption)) rfl rfl | exact Cells.ldA (Cells.ext (Cells.ext0 (by assumption) (by ((repeat (first | exact Ext.refl _ _ | assumption | refine Ext.trans ?_ (by assumption))); (first | done | fail "chain")))) hu (by assumption)) rfl rfl | exact Cells.ldL (Cells.ext (Cells.ext0 (by assumption) (by ((repeat (first | exact Ext.refl _ _ | assumption | refine Ext.trans ?_ (by assumption))); (first | done | fail "chain")))) hu (by assumption)) rfl rfl (by assumption)))) ?_
    refine Wx.actNew rfl rfl rfl rfl (acts_buildSlice (ps := [(0, .const _)]) rfl rfl rfl rfl rfl rfl rfl rfl) ?_
    rintro vbs wbs ebs ⟨bbs, rfl, hbbs, hBbs⟩
    first | (have hCbs : Cells wbs ⟨bbs, 0, none⟩ [_] := hBbs.cells) | have hCbs := Blk.cellsL hBbs
    have hlbs := hBbs.lt
    have hzbs := ebs.size
    refine Wx.actX [(4, bv.ownBlock.toList, w1)] rfl rfl rfl rfl (bv.ownBlock.toList) (.keep (fun y hy => .inl hy) (PendK.nil)) (acts_append (e := 5) (size := 1) (bytes := 1) rfl rfl rfl rfl (own_keep0 hown (by ((repeat (first | exact Ext.refl _ _ | assumption | refine Ext.trans ?_ (by assumption))); (first | done | fail "chain")))) (source_slice rfl rfl (fun _ => rfl) hCbs (by simp [Value.oneCell'])) (by omega) (by omega) (by omega)) (fun _ _ h => h.ext) ?_
    rintro vap wap hgap
    have hzap := hgap.ext.size
    refine Wx.actNew rfl rfl rfl rfl (acts_call rfl rfl rfl (unsigned_at n _ hn)) ?_
    rintro vun wun eun ⟨rfl⟩
    have hzun := eun.size
    refine Wx.actLast rfl rfl rfl rfl (by kernel_rfl) (acts_call rfl rfl rfl (numeral_any B (b ++ [1]) (zig n) vap _ (by unfold zig; have h1 := hn.1; have h2 := hn.2; split <;> omega) (by simp at hlen ⊢; omega) (by omega) (by rw [List.length_append, bytesV_append]; exact own_keep0 hgap.own (by ((repeat (first | exact Ext.refl _ _ | assumption | refine Ext.trans ?_ (by assumption))); (first | done | fail "chain")))))) ?_
    rintro vnu wnu hgnu
    refine Wx.pure hq rfl rfl rfl rfl (rp_assign rfl rfl) ?_
    refine Wx.nil ?_
    (repeat first | refine thenE_normal ?_ | refine thenE_exit ?_ | refine thenE_ret ?_ | refine blockE_normal ?_ | refine blockE_ret ?_ | refine blockE_same ?_ | refine blockE_other rfl ?_)
    (repeat refine Sx.seq ?_); refine Sx.ret ?_
    (repeat first | refine thenE_normal ?_ | refine thenE_exit ?_ | refine thenE_ret ?_ | refine blockE_normal ?_ | refine blockE_ret ?_ | refine blockE_same ?_ | refine blockE_other rfl ?_)
    refine endE_ret [_] ⟨rfl, trivial⟩ ?_
    show Grew _ _ _ _ _ _ _ _ _
    rw [show b ++ 1 :: numeralL (zig n) = b ++ [1] ++ numeralL (zig n) by simp]
    exact ((((Grew.refl hown).step (by ((repeat (first | exact Ext.refl _ _ | assumption | refine Ext.trans ?_ (by assumption))); (first | done | fail "chain")))).trans hgap).step (by ((repeat (first | exact Ext.refl _ _ | assumption | refine Ext.trans ?_ (by assumption))); (first | done | fail "chain")))).trans hgnu
  · by_cases h2 : k = 2
    · have henc : encV (.mk k n s l) = 2 :: (numeralL s.length ++ s) := by rw [encV, if_neg h1, if_pos h2]
      have h10 := numeralL_10 (u := s.length) (by omega)
      rw [henc] at hlen ⊢
      simp only [List.length_cons, List.length_append] at hlen
      subst h2
      show Calls Try.prog 40 #[bv, .agg #[.int .i64 2, .int .i64 n, .string ⟨s.toArray⟩, .slice p l.length cap]] w _
      refine calls_of_Sx (args := [bv, .agg #[.int .i64 2, .int .i64 n, .string ⟨s.toArray⟩, .slice p l.length cap]]) Try.func40 rfl rfl ?_
      have hlen' : (b ++ [2] ++ numeralL s.length).length = b.length + 1 + (numeralL s.length).length := by simp; omega
      (repeat refine Sx.seq ?_)
      refine Sx.textR ?_
      refine Ox.act rfl rfl (acts_box rfl rfl) ?_
      rintro vbx wbx ⟨ebx, bbx, rfl, hbbx, hBbx⟩
      first | (have hCbx : Cells wbx ⟨bbx, 0, none⟩ [_, _, _, _] := hBbx.cells) | have hCbx := Blk.cellsL hBbx
      have hlbx := hBbx.lt
      have hzbx := ebx.size
      have hnx := own_not hown (.inr hbbx)
      refine Ox.pure rfl rfl (rp_assign rfl rfl) ?_
      refine Ox.nil ?_
      (repeat first | refine thenE_normal ?_ | refine thenE_exit ?_ | refine thenE_ret ?_ | refine blockE_normal ?_ | refine blockE_ret ?_ | refine blockE_same ?_ | refine blockE_other rfl ?_)
      (repeat refine Sx.seq ?_)
      refine Sx.walkR rfl (fun _ _ _ _ h => h) [0, 3, 4, 5, 6, 8, 9, 1, 2, 7, 10, 11] [0, 3, 4, 5, 6, 8, 9, 11] (0) (by kernel_rfl) ?_
      intro hq w2 e2; have hz2 := e2.size
      refine Wx.pure hq rfl rfl rfl rfl (rp_move rfl rfl) ?_
      refine Wx.pure hq rfl rfl rfl rfl (rp_fieldAddr rfl rfl rfl rfl) ?_
      refine Wx.val hq rfl rfl rfl rfl (bv.ownBlock.toList) (rv_load rfl rfl (by (intro u hu; first | exact Cells.ld (Cells.ext (Cells.ext0 (by assumption) (by ((repeat (first | exact Ext.refl _ _ | assumption | refine Ext.trans ?_ (by assumption))); (first | done | fail "chain")))) hu (by assumption)) _ rfl rfl | exact Cells.ld0 (Cells.ext (Cells.ext0 (by assumption) (by ((repeat (first | exact Ext.refl _ _ | assumption | refine Ext.trans ?_ (by assumption))); (first | done | fail "chain")))) hu (by assumption)) rfl rfl | exact Cells.ldA (Cells.ext (Cells.ext0 (by assumption) (by ((repeat (first | exact Ext.refl _ _ | assumption | refine Ext.trans ?_ (by assumption))); (first | done | fail "chain")))) hu (by assumption)) rfl rfl | exact Cells.ldL (Cells.ext (Cells.ext0 (by assumption) (by ((repeat (first | exact Ext.refl _ _ | assumption | refine Ext.trans ?_ (by assumption))); (first | done | fail "chain")))) hu (by assumption)) rfl rfl (by assumption)))) ?_
      refine Wx.pure hq rfl rfl rfl rfl (by first | exact rp_lenL rfl rfl rfl | exact rp_lenT rfl rfl rfl) ?_
      refine Wx.pure hq rfl rfl rfl rfl (by first | exact rp_conv_fit rfl rfl rfl rfl (wrapu64 (by omega)) | exact rp_conv rfl rfl rfl rfl) ?_
      refine Wx.pure hq rfl rfl rfl rfl (rp_fieldAddr rfl rfl rfl rfl) ?_
      refine Wx.val hq rfl rfl rfl rfl (bv.ownBlock.toList) (rv_load rfl rfl (by (intro u hu; first | exact Cells.ld (Cells.ext (Cells.ext0 (by assumption) (by ((repeat (first | exact Ext.refl _ _ | assumption | refine Ext.trans ?_ (by assumption))); (first | done | fail "chain")))) hu (by assumption)) _ rfl rfl | exact Cells.ld0 (Cells.ext (Cells.ext0 (by assumption) (by ((repeat (first | exact Ext.refl _ _ | assumption | refine Ext.trans ?_ (by assumption))); (first | done | fail "chain")))) hu (by assumption)) rfl rfl | exact Cells.ldA (Cells.ext (Cells.ext0 (by assumption) (by ((repeat (first | exact Ext.refl _ _ | assumption | refine Ext.trans ?_ (by assumption))); (first | done | fail "chain")))) hu (by assumption)) rfl rfl | exact Cells.ldL (Cells.ext (Cells.ext0 (by assumption) (by ((repeat (first | exact Ext.refl _ _ | assumption | refine Ext.trans ?_ (by assumption))); (first | done | fail "chain")))) hu (by assumption)) rfl rfl (by assumption)))) ?_
      refine Wx.actNew rfl rfl rfl rfl (acts_buildSlice (ps := [(0, .const _)]) rfl rfl rfl rfl rfl rfl rfl rfl) ?_
      rintro vbs wbs ebs ⟨bbs, rfl, hbbs, hBbs⟩
      first | (have hCbs : Cells wbs ⟨bbs, 0, none⟩ [_] := hBbs.cells) | have hCbs := Blk.cellsL hBbs
      have hlbs := hBbs.lt
      have hzbs := ebs.size
      refine Wx.actX [(9, bv.ownBlock.toList, w2), (4, bv.ownBlock.toList, w2)] rfl rfl rfl rfl (bv.ownBlock.toList) (.keep (fun y hy => .inl hy) (.keep (fun y hy => .inl hy) (PendK.nil))) (acts_append (e := 5) (size := 1) (bytes := 1) rfl rfl rfl rfl (own_keep0 hown (by ((repeat (first | exact Ext.refl _ _ | assumption | refine Ext.trans ?_ (by assumption))); (first | done | fail "chain")))) (source_slice rfl rfl (fun _ => rfl) hCbs (by simp [Value.oneCell'])) (by omega) (by omega) (by omega)) (fun _ _ h => h.ext) ?_
      rintro vap wap hgap
      have hzap := hgap.ext.size
      refine Wx.actX [(9, bv.ownBlock.toList, w2)] rfl rfl rfl rfl (vap.ownBlock.toList) (.keep (fun y hy => (hgap.blk y hy).imp id (by simp only; omega)) (.drop (by kernel_rfl) (PendK.nil))) (acts_call rfl rfl rfl (numeral_any B (b ++ [2]) s.length vap _ (by omega) (by simp; omega) (by omega) (by rw [List.length_append, bytesV_append]; exact hgap.own))) (fun _ _ h => h.ext) ?_
      rintro vnu wnu hgnu
      have hznu := hgnu.ext.size
      refine Wx.actLast rfl rfl rfl rfl (by kernel_rfl) (acts_append (e := 5) (size := 1) (bytes := 1) rfl rfl rfl rfl (hgnu.own) (source_string rfl) (by omega) (by omega) (by omega)) ?_
      rintro vaq waq hgaq
      refine Wx.pure hq rfl rfl rfl rfl (rp_assign rfl rfl) ?_
      refine Wx.nil ?_
      (repeat first | refine thenE_normal ?_ | refine thenE_exit ?_ | refine thenE_ret ?_ | refine blockE_normal ?_ | refine blockE_ret ?_ | refine blockE_same ?_ | refine blockE_other rfl ?_)
      (repeat refine Sx.seq ?_); refine Sx.ret ?_
      (repeat first | refine thenE_normal ?_ | refine thenE_exit ?_ | refine thenE_ret ?_ | refine blockE_normal ?_ | refine blockE_ret ?_ | refine blockE_same ?_ | refine blockE_other rfl ?_)
      refine endE_ret [_] ⟨rfl, trivial⟩ ?_
      show Grew _ _ _ _ _ _ _ _ _
      rw [show b ++ 2 :: (numeralL s.length ++ s) = b ++ [2] ++ numeralL s.length ++ s by simp, List.length_append (bs := s), bytesV_append (b := s)]
      exact ((((Grew.refl hown).step (by ((repeat (first | exact Ext.refl _ _ | assumption | refine Ext.trans ?_ (by assumption))); (first | done | fail "chain")))).trans hgap).trans hgnu).trans hgaq
    · have h3 : k = 3 ∧ formedL l = true := by
        rw [formedV, if_neg h1, if_neg h2] at hf
        by_cases h3 : k = 3
        · rw [if_pos h3] at hf; simp at hf; exact ⟨h3, hf.1⟩
        · rw [if_neg h3] at hf; cases hf
      obtain ⟨h3, hfl⟩ := h3
      have henc : encV (.mk k n s l) = 3 :: (numeralL l.length ++ encL l) := by rw [encV, if_neg h1, if_neg h2]
      have h10 := numeralL_10 (u := l.length) (by omega)
      rw [henc] at hlen ⊢
      simp only [List.length_cons, List.length_append] at hlen
      subst h3
      show Calls Try.prog 41 #[bv, .agg #[.int .i64 3, .int .i64 n, .string ⟨s.toArray⟩, .slice p l.length cap], .pointer (some ⟨bc, 0, none⟩)] w _
      refine calls_of_Sx (args := [bv, .agg #[.int .i64 3, .int .i64 n, .string ⟨s.toArray⟩, .slice p l.length cap], .pointer (some ⟨bc, 0, none⟩)]) Try.func41 rfl rfl ?_
      (repeat refine Sx.seq ?_)
      refine Sx.textR ?_
      refine Ox.act rfl rfl (acts_box rfl rfl) ?_
      rintro vbx wbx ⟨ebx, bbx, rfl, hbbx, hBbx⟩
      first | (have hCbx : Cells wbx ⟨bbx, 0, none⟩ [_, _, _, _] := hBbx.cells) | have hCbx := Blk.cellsL hBbx
      have hlbx := hBbx.lt
      have hzbx := ebx.size
      have hnx := own_not hown (.inr hbbx)
      refine Ox.pure rfl rfl (rp_assign rfl rfl) ?_
      refine Ox.nil ?_
      (repeat first | refine thenE_normal ?_ | refine thenE_exit ?_ | refine thenE_ret ?_ | refine blockE_normal ?_ | refine blockE_ret ?_ | refine blockE_same ?_ | refine blockE_other rfl ?_)
      (repeat refine Sx.seq ?_)
      refine Sx.walkR rfl (fun _ _ _ _ h => h) [0, 3, 4, 5, 6, 1, 2, 7, 8] [0, 3, 4, 5, 6, 8] (0) (by kernel_rfl) ?_
      intro hq w3 e3; have hz3 := e3.size
      refine Wx.pure hq rfl rfl rfl rfl (rp_move rfl rfl) ?_
      refine Wx.pure hq rfl rfl rfl rfl (rp_fieldAddr rfl rfl rfl rfl) ?_
      refine Wx.val hq rfl rfl rfl rfl (bv.ownBlock.toList) (rv_load rfl rfl (by (intro u hu; first | exact Cells.ld (Cells.ext (Cells.ext0 (by assumption) (by ((repeat (first | exact Ext.refl _ _ | assumption | refine Ext.trans ?_ (by assumption))); (first | done | fail "chain")))) hu (by assumption)) _ rfl rfl | exact Cells.ld0 (Cells.ext (Cells.ext0 (by assumption) (by ((repeat (first | exact Ext.refl _ _ | assumption | refine Ext.trans ?_ (by assumption))); (first | done | fail "chain")))) hu (by assumption)) rfl rfl | exact Cells.ldA (Cells.ext (Cells.ext0 (by assumption) (by ((repeat (first | exact Ext.refl _ _ | assumption | refine Ext.trans ?_ (by assumption))); (first | done | fail "chain")))) hu (by assumption)) rfl rfl | exact Cells.ldL (Cells.ext (Cells.ext0 (by assumption) (by ((repeat (first | exact Ext.refl _ _ | assumption | refine Ext.trans ?_ (by assumption))); (first | done | fail "chain")))) hu (by assumption)) rfl rfl (by assumption)))) ?_
      refine Wx.pure hq rfl rfl rfl rfl (rp_lenS rfl rfl rfl) ?_
      refine Wx.pure hq rfl rfl rfl rfl (by first | exact rp_conv_fit rfl rfl rfl rfl (wrapu64 (by omega)) | exact rp_conv rfl rfl rfl rfl) ?_
      refine Wx.actNew rfl rfl rfl rfl (acts_buildSlice (ps := [(0, .const _)]) rfl rfl rfl rfl rfl rfl rfl rfl) ?_
      rintro vbs wbs ebs ⟨bbs, rfl, hbbs, hBbs⟩
      first | (have hCbs : Cells wbs ⟨bbs, 0, none⟩ [_] := hBbs.cells) | have hCbs := Blk.cellsL hBbs
      have hlbs := hBbs.lt
      have hzbs := ebs.size
      refine Wx.actX [(4, bv.ownBlock.toList, w3)] rfl rfl rfl rfl (bv.ownBlock.toList) (.keep (fun y hy => .inl hy) (PendK.nil)) (acts_append (e := 5) (size := 1) (bytes := 1) rfl rfl rfl rfl (own_keep0 hown (by ((repeat (first | exact Ext.refl _ _ | assumption | refine Ext.trans ?_ (by assumption))); (first | done | fail "chain")))) (source_slice rfl rfl (fun _ => rfl) hCbs (by simp [Value.oneCell'])) (by omega) (by omega) (by omega)) (fun _ _ h => h.ext) ?_
      rintro vap wap hgap
      have hzap := hgap.ext.size
      refine Wx.actLast rfl rfl rfl rfl (by kernel_rfl) (acts_call rfl rfl rfl (numeral_any B (b ++ [3]) l.length vap _ (by omega) (by simp; omega) (by omega) (by rw [List.length_append, bytesV_append]; exact hgap.own))) ?_
      rintro vnu wnu hgnu
      have hznu := hgnu.ext.size
      refine Wx.pure hq rfl rfl rfl rfl (rp_assign rfl rfl) ?_
      refine Wx.nil ?_
      (repeat first | refine thenE_normal ?_ | refine thenE_exit ?_ | refine thenE_ret ?_ | refine blockE_normal ?_ | refine blockE_ret ?_ | refine blockE_same ?_ | refine blockE_other rfl ?_)
      have hG1 : Grew B 5 1 w bv (b ++ [3] ++ numeralL l.length).length (bytesV (b ++ [3] ++ numeralL l.length)) vnu wnu := (((Grew.refl hown).step (by ((repeat (first | exact Ext.refl _ _ | assumption | refine Ext.trans ?_ (by assumption))); (first | done | fail "chain")))).trans hgap).trans hgnu
      have hG1x : Grew B 5 1 wbx bv (b ++ [3] ++ numeralL l.length).length (bytesV (b ++ [3] ++ numeralL l.length)) vnu wnu := (((Grew.refl (own_keep0 hown ebx)).step (by ((repeat (first | exact Ext.refl _ _ | assumption | refine Ext.trans ?_ (by assumption))); (first | done | fail "chain")))).trans hgap).trans hgnu
      have hC2 := hCbx.ext hG1x.ext hnx
      (repeat refine Sx.seq ?_)
      refine Sx.textR ?_
      refine Ox.pure rfl rfl (rp_fieldAddr rfl rfl rfl rfl) ?_
      refine Ox.val rfl rfl (rv_load rfl rfl (by (intro u hu; first | exact Cells.ld (Cells.ext0 (by assumption) (by ((repeat (first | exact Ext.refl _ _ | assumption | refine Ext.trans ?_ (by assumption))); (first | done | fail "chain")))) _ rfl rfl | exact Cells.ld0 (Cells.ext0 (by assumption) (by ((repeat (first | exact Ext.refl _ _ | assumption | refine Ext.trans ?_ (by assumption))); (first | done | fail "chain")))) rfl rfl | exact Cells.ldA (Cells.ext0 (by assumption) (by ((repeat (first | exact Ext.refl _ _ | assumption | refine Ext.trans ?_ (by assumption))); (first | done | fail "chain")))) rfl rfl | exact Cells.ldL (Cells.ext0 (by assumption) (by ((repeat (first | exact Ext.refl _ _ | assumption | refine Ext.trans ?_ (by assumption))); (first | done | fail "chain")))) rfl rfl (by assumption) | exact Cells.ldP (Cells.ext0 (by assumption) (by ((repeat (first | exact Ext.refl _ _ | assumption | refine Ext.trans ?_ (by assumption))); (first | done | fail "chain")))) _ rfl rfl rfl rfl | exact Cells.ldP (Cells.ext0 (by assumption) (by ((repeat (first | exact Ext.refl _ _ | assumption | refine Ext.trans ?_ (by assumption))); (first | done | fail "chain")))) _ rfl rfl (by assumption) (by assumption)))) ?_
      refine Ox.pure rfl rfl (rp_lenS rfl rfl rfl) ?_
      refine Ox.pure rfl rfl (rp_move rfl rfl) ?_
      refine Ox.nil ?_
      (repeat first | refine thenE_normal ?_ | refine thenE_exit ?_ | refine thenE_ret ?_ | refine blockE_normal ?_ | refine blockE_ret ?_ | refine blockE_same ?_ | refine blockE_other rfl ?_)
      (repeat refine Sx.seq ?_); refine Sx.block ?_
      have hpA := hsl.1
      refine Sx.loop (ι := Nat × Value) (fun i E wr => E = [(0, i.2), (2, .pointer (some ⟨bc, 0, none⟩)), (17, .slice p l.length cap), (18, .int .i64 (l.length : Int)), (19, .int .i64 (i.1 : Int))] ∧ i.1 ≤ l.length ∧
          Grew B 5 1 w bv (b ++ [3] ++ numeralL l.length ++ encL (l.take i.1)).length (bytesV (b ++ [3] ++ numeralL l.length ++ encL (l.take i.1))) i.2 wr) (fun i => l.length - i.1) (0, vnu)
        (sub_cons rfl (sub_cons rfl (sub_cons rfl (sub_cons rfl (sub_cons rfl sub_nil))))) ⟨rfl, Nat.zero_le _, by rw [List.take_zero, encL, List.append_nil]; exact hG1.step (by ((repeat (first | exact Ext.refl _ _ | assumption | refine Ext.trans ?_ (by assumption))); (first | done | fail "chain")))⟩ ?_
      rintro ⟨i, bi⟩ E wr ⟨rfl, hi, hg⟩
      dsimp only at hi hg ⊢
      by_cases hlt : i < l.length
      · obtain ⟨d, hd', hdl, hdr⟩ := reps_at hlt hr
        have hd1 := rep_one hdr
        have hdk := rep_kind hdr
        have hnA := own_not hown (.inl (hSB _ (hb (by omega)).1))
        have hrow := hsl.2.ext hg.ext hnA
        have hWr := hW.ext hg.ext (own_not hown (.inl hba)) (own_not hown (.inl hbc))
        have hdr' := rep_ext hg.ext (fun k hk => own_not hown (.inl (hSB k hk))) hdr
        have hfd := formedL_all.mp hfl _ (List.getElem_mem hlt)
        have hfk := formed_kind hfd
        have hzr := hg.ext.size
        have hta := encL_take hlt
        have hlt2 := encL_take_le l (i + 1)
        rw [hta, List.length_append] at hlt2
        have hWc := hWr.1
        have hWb := hWr.2
        (repeat refine Sx.seq ?_)
        refine Sx.textR ?_
        refine Ox.pure rfl rfl (by first | exact rp_bin rfl rfl rfl (binI_t (by omega)) | exact rp_bin rfl rfl rfl (binI_f (by omega)) | exact rp_bin rfl rfl rfl rfl) ?_
        refine Ox.nil ?_
        (repeat first | refine thenE_normal ?_ | refine thenE_exit ?_ | refine thenE_ret ?_ | refine blockE_normal ?_ | refine blockE_ret ?_ | refine blockE_same ?_ | refine blockE_other rfl ?_)
        (repeat refine Sx.seq ?_); first | refine Sx.cond_true rfl ?_ | refine Sx.cond rfl (fun _ => ?_) (fun h => absurd h (by simp [*]))
        (repeat refine Sx.seq ?_); refine Sx.skip ?_
        (repeat first | refine thenE_normal ?_ | refine thenE_exit ?_ | refine thenE_ret ?_ | refine blockE_normal ?_ | refine blockE_ret ?_ | refine blockE_same ?_ | refine blockE_other rfl ?_)
        (repeat refine Sx.seq ?_); refine Sx.block ?_
        (repeat refine Sx.seq ?_)
        refine Sx.textR ?_
        refine Ox.pure rfl rfl (rp_indexAddr _ rfl rfl rfl rfl rfl (by assumption) rfl (by first | omega | decide)) ?_
        refine Ox.val rfl rfl (rv_load rfl rfl (by (intro u hu; first | exact Cells.ld (Cells.ext0 (by assumption) (by ((repeat (first | exact Ext.refl _ _ | assumption | refine Ext.trans ?_ (by assumption))); (first | done | fail "chain")))) _ rfl rfl | exact Cells.ld0 (Cells.ext0 (by assumption) (by ((repeat (first | exact Ext.refl _ _ | assumption | refine Ext.trans ?_ (by assumption))); (first | done | fail "chain")))) rfl rfl | exact Cells.ldA (Cells.ext0 (by assumption) (by ((repeat (first | exact Ext.refl _ _ | assumption | refine Ext.trans ?_ (by assumption))); (first | done | fail "chain")))) rfl rfl | exact Cells.ldL (Cells.ext0 (by assumption) (by ((repeat (first | exact Ext.refl _ _ | assumption | refine Ext.trans ?_ (by assumption))); (first | done | fail "chain")))) rfl rfl (by assumption) | exact Cells.ldP (Cells.ext0 (by assumption) (by ((repeat (first | exact Ext.refl _ _ | assumption | refine Ext.trans ?_ (by assumption))); (first | done | fail "chain")))) _ rfl rfl rfl rfl | exact Cells.ldP (Cells.ext0 (by assumption) (by ((repeat (first | exact Ext.refl _ _ | assumption | refine Ext.trans ?_ (by assumption))); (first | done | fail "chain")))) _ rfl rfl (by assumption) (by assumption)))) ?_
        refine Ox.act rfl rfl (acts_alloc rfl rfl) ?_
        rintro v4 w4 ⟨e4, b4, rfl, hb4, hB4⟩
        first | (have hC4 : Cells w4 ⟨b4, 0, none⟩ [_, _, _, _] := hB4.cells) | have hC4 := Blk.cellsL hB4
        have hl4 := hB4.lt
        have hz4 := e4.size
        refine Ox.act rfl rfl (acts_store_all rfl rfl rfl hB4 rfl (by first | rfl | assumption) (by first | rfl | assumption) (by (first | assumption | exact List.all_eq_true.mp rfl | simp [Value.cells, Value.oneCell']))) ?_
        rintro vst wst ⟨rfl, qst, hBst⟩
        have est := Ext.renew e4 qst hb4
        have hzst := est.size
        first | (have hCst : Cells wst ⟨b4, 0, none⟩ [_, _, _, _] := hBst.cells) | have hCst := Blk.cellsL hBst
        refine Ox.nil ?_
        (repeat first | refine thenE_normal ?_ | refine thenE_exit ?_ | refine thenE_ret ?_ | refine blockE_normal ?_ | refine blockE_ret ?_ | refine blockE_same ?_ | refine blockE_other rfl ?_)
        (repeat refine Sx.seq ?_)
        refine Sx.walkR rfl (fun _ _ _ _ h => h) [0, 1, 2, 3, 4, 5, 6, 7, 8, 9, 10] [0, 1, 2, 3, 4, 5, 6, 7, 8, 10] (0) (by kernel_rfl) ?_
        intro hq w5 e5; have hz5 := e5.size
        refine Wx.val hq rfl rfl rfl rfl ([]) (rv_load rfl rfl (by (intro u hu; first | exact Cells.ld (Cells.ext0 (by assumption) (by ((repeat (first | exact Ext.refl _ _ | assumption | refine Ext.trans ?_ (by assumption))); (first | done | fail "chain")))) _ rfl rfl | exact Cells.ld0 (Cells.ext0 (by assumption) (by ((repeat (first | exact Ext.refl _ _ | assumption | refine Ext.trans ?_ (by assumption))); (first | done | fail "chain")))) rfl rfl | exact Cells.ldA (Cells.ext0 (by assumption) (by ((repeat (first | exact Ext.refl _ _ | assumption | refine Ext.trans ?_ (by assumption))); (first | done | fail "chain")))) rfl rfl | exact Cells.ldL (Cells.ext0 (by assumption) (by ((repeat (first | exact Ext.refl _ _ | assumption | refine Ext.trans ?_ (by assumption))); (first | done | fail "chain")))) rfl rfl (by assumption) | exact Cells.ldP (Cells.ext0 (by assumption) (by ((repeat (first | exact Ext.refl _ _ | assumption | refine Ext.trans ?_ (by assumption))); (first | done | fail "chain")))) _ rfl rfl rfl rfl | exact Cells.ldP (Cells.ext0 (by assumption) (by ((repeat (first | exact Ext.refl _ _ | assumption | refine Ext.trans ?_ (by assumption))); (first | done | fail "chain")))) _ rfl rfl (by assumption) (by assumption)))) ?_
        refine Wx.pure hq rfl rfl rfl rfl (rp_fieldAddr rfl rfl rfl rfl) ?_
        refine Wx.val hq rfl rfl rfl rfl ([]) (rv_load rfl rfl (fun u hu => ((hCst.ext0 (by ((repeat (first | exact Ext.refl _ _ | assumption | refine Ext.trans ?_ (by assumption))); (first | done | fail "chain")))).ext0 hu).ld0 rfl hdk)) ?_
        refine Wx.pure hq rfl rfl rfl rfl (by first | exact rp_nilP rfl rfl | exact rp_nilF rfl rfl) ?_
        refine Wx.pure hq rfl rfl rfl rfl (rp_indexArr (l[i]).kind.toNat rfl rfl rfl rfl rfl (by omega) (by omega)) ?_
        refine Wx.pure hq rfl rfl rfl rfl (rp_fieldAddr rfl rfl rfl rfl) ?_
        refine Wx.val hq rfl rfl rfl rfl ([]) (rv_load rfl rfl (fun u hu => ((hWc.ext0 (by ((repeat (first | exact Ext.refl _ _ | assumption | refine Ext.trans ?_ (by assumption))); (first | done | fail "chain")))).ext0 hu).ld _ rfl (wcell ba bc hfk))) ?_
        refine Wx.pure hq rfl rfl rfl rfl (rp_move rfl rfl) ?_
        refine Wx.val hq rfl rfl rfl rfl ([]) (rv_load rfl rfl (by (intro u hu; first | exact Cells.ld (Cells.ext0 (by assumption) (by ((repeat (first | exact Ext.refl _ _ | assumption | refine Ext.trans ?_ (by assumption))); (first | done | fail "chain")))) _ rfl rfl | exact Cells.ld0 (Cells.ext0 (by assumption) (by ((repeat (first | exact Ext.refl _ _ | assumption | refine Ext.trans ?_ (by assumption))); (first | done | fail "chain")))) rfl rfl | exact Cells.ldA (Cells.ext0 (by assumption) (by ((repeat (first | exact Ext.refl _ _ | assumption | refine Ext.trans ?_ (by assumption))); (first | done | fail "chain")))) rfl rfl | exact Cells.ldL (Cells.ext0 (by assumption) (by ((repeat (first | exact Ext.refl _ _ | assumption | refine Ext.trans ?_ (by assumption))); (first | done | fail "chain")))) rfl rfl (by assumption) | exact Cells.ldP (Cells.ext0 (by assumption) (by ((repeat (first | exact Ext.refl _ _ | assumption | refine Ext.trans ?_ (by assumption))); (first | done | fail "chain")))) _ rfl rfl rfl rfl | exact Cells.ldP (Cells.ext0 (by assumption) (by ((repeat (first | exact Ext.refl _ _ | assumption | refine Ext.trans ?_ (by assumption))); (first | done | fail "chain")))) _ rfl rfl (by assumption) (by assumption)))) ?_
        refine Wx.actLast rfl rfl rfl rfl (by kernel_rfl) (acts_callv rfl rfl rfl (wcallable hfk) (ih _ (List.getElem_mem hlt) hfd S d B (b ++ [3] ++ numeralL l.length ++ encL (l.take i)) bi _ ba bc (rep_ext0 (by ((repeat (first | exact Ext.refl _ _ | assumption | refine Ext.trans ?_ (by assumption))); (first | done | fail "chain"))) hdr') hSB (hWr.ext (X := []) (by ((repeat (first | exact Ext.refl _ _ | assumption | refine Ext.trans ?_ (by assumption))); (first | done | fail "chain"))) (by simp) (by simp)) hba hbc (own_keep0 hg.own (by ((repeat (first | exact Ext.refl _ _ | assumption | refine Ext.trans ?_ (by assumption))); (first | done | fail "chain")))) (by simp; omega) (by omega))) ?_
        rintro vcl wcl hgcl
        refine Wx.pure hq rfl rfl rfl rfl (rp_assign rfl rfl) ?_
        refine Wx.nil ?_
        (repeat first | refine thenE_normal ?_ | refine thenE_exit ?_ | refine thenE_ret ?_ | refine blockE_normal ?_ | refine blockE_ret ?_ | refine blockE_same ?_ | refine blockE_other rfl ?_)
        (repeat refine Sx.seq ?_)
        refine Sx.textR ?_
        refine Ox.pure rfl rfl (by first | exact rp_bin rfl rfl rfl (binI_fit_add (wrap64 (by omega))) | exact rp_bin rfl rfl rfl rfl) ?_
        refine Ox.pure rfl rfl (rp_move rfl rfl) ?_
        refine Ox.nil ?_
        (repeat first | refine thenE_normal ?_ | refine thenE_exit ?_ | refine thenE_ret ?_ | refine blockE_normal ?_ | refine blockE_ret ?_ | refine blockE_same ?_ | refine blockE_other rfl ?_)
        refine ⟨(i + 1, vcl), _, sub_cons rfl (sub_cons rfl (sub_cons rfl (sub_cons rfl (sub_cons rfl sub_nil)))), ⟨rfl, hlt, ?_⟩, by dsimp only; omega⟩
        dsimp only
        rw [hta, ← List.append_assoc]
        exact (hg.step (by ((repeat (first | exact Ext.refl _ _ | assumption | refine Ext.trans ?_ (by assumption))); (first | done | fail "chain")))).trans hgcl
      · rw [take_all hlt] at hg
        (repeat refine Sx.seq ?_)
        refine Sx.textR ?_
        refine Ox.pure rfl rfl (by first | exact rp_bin rfl rfl rfl (binI_t (by omega)) | exact rp_bin rfl rfl rfl (binI_f (by omega)) | exact rp_bin rfl rfl rfl rfl) ?_
        refine Ox.nil ?_
        (repeat first | refine thenE_normal ?_ | refine thenE_exit ?_ | refine thenE_ret ?_ | refine blockE_normal ?_ | refine blockE_ret ?_ | refine blockE_same ?_ | refine blockE_other rfl ?_)
        (repeat refine Sx.seq ?_); first | refine Sx.cond_false rfl ?_ | refine Sx.cond rfl (fun h => absurd h (by simp [*])) (fun _ => ?_)
        (repeat refine Sx.seq ?_); refine Sx.exit ?_
        (repeat first | refine thenE_normal ?_ | refine thenE_exit ?_ | refine thenE_ret ?_ | refine blockE_normal ?_ | refine blockE_ret ?_ | refine blockE_same ?_ | refine blockE_other rfl ?_)
        (repeat refine Sx.seq ?_)
        refine Sx.textR ?_
        refine Ox.pure rfl rfl (rp_move rfl rfl) ?_
        refine Ox.pure rfl rfl (rp_assign rfl rfl) ?_
        refine Ox.nil ?_
        (repeat first | refine thenE_normal ?_ | refine thenE_exit ?_ | refine thenE_ret ?_ | refine blockE_normal ?_ | refine blockE_ret ?_ | refine blockE_same ?_ | refine blockE_other rfl ?_)
        (repeat refine Sx.seq ?_); refine Sx.ret ?_
        (repeat first | refine thenE_normal ?_ | refine thenE_exit ?_ | refine thenE_ret ?_ | refine blockE_normal ?_ | refine blockE_ret ?_ | refine blockE_same ?_ | refine blockE_other rfl ?_)
        refine endE_ret [_] ⟨rfl, trivial⟩ ?_
        show Grew _ _ _ _ _ _ _ _ _
        rw [show b ++ 3 :: (numeralL l.length ++ encL l) = b ++ [3] ++ numeralL l.length ++ encL l by simp]
        exact hg

end Go.Proofs.Ytflopfjhejchfaa
