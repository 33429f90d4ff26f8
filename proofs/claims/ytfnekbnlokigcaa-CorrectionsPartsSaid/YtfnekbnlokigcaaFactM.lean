/- The facts' walks: the keys' order, the keys of facts. -/
import Derived.Test.YtfnekbnlokigcaaRows
import Derived.Test.YtfnekbnlokigcaaFactL
set_option linter.unusedVariables false
set_option maxRecDepth 100000
set_option maxHeartbeats 4000000
set_option linter.unusedSimpArgs false
namespace Go.Proofs.Ytfnekbnlokigcaa
open Go Go.Eng

def lessK (a b : Ky) : Prop := a.k < b.k ∨ a.k = b.k ∧ (a.s < b.s ∨ a.s = b.s ∧ a.o < b.o)
instance (a b : Ky) : Decidable (lessK a b) := inferInstanceAs (Decidable (_ ∨ _))
def cmpK (a b : Ky) : Int := orL [cmpI a.k b.k, cmpI a.s b.s, cmpI a.o b.o]
theorem cmpK_lt (a b : Ky) : cmpK a b < 0 ↔ lessK a b := by
  unfold cmpK lessK
  simp only [orL]
  have h1 := cmpI_cases a.k b.k
  have h2 := cmpI_cases a.s b.s
  have h3 := cmpI_cases a.o b.o
  split
  · split
    · split <;> omega
    · omega
  · omega
theorem lessK_irrefl (a : Ky) : ¬ lessK a a := by unfold lessK; omega
theorem lessK_trans {a b c : Ky} (h1 : lessK a b) (h2 : lessK b c) : lessK a c := by unfold lessK at *; omega
theorem lessK_total {a b : Ky} (h1 : ¬ lessK a b) (h2 : a ≠ b) : lessK b a := by
  rw [ne_eq, Ky.eq_iff] at h2
  unfold lessK at *; omega

theorem compareKeys_at (a b : Ky) (w : World) : Calls Try.prog 46 #[.agg (kc a).toArray, .agg (kc b).toArray] w (Ret fun r w' => Ext [] w w' ∧ r = .int .i64 (cmpK a b)) := by
  refine calls_of_Sx (args := [.agg (kc a).toArray, .agg (kc b).toArray]) Try.func46 rfl rfl ?_
  (repeat refine Sx.seq ?_)
  refine Sx.textR ?_
  refine Ox.act rfl rfl (acts_box rfl rfl) ?_
  rintro vbx wbx ⟨ebx, bbx, rfl, hbbx, hBbx⟩
  first | (have hCbx : Cells wbx ⟨bbx, 0, none⟩ [_, _, _] := hBbx.cells) | have hCbx := Blk.cellsL hBbx
  have hlbx := hBbx.lt
  have hzbx := ebx.size
  refine Ox.act rfl rfl (acts_box rfl rfl) ?_
  rintro vby wby ⟨eby, bby, rfl, hbby, hBby⟩
  first | (have hCby : Cells wby ⟨bby, 0, none⟩ [_, _, _] := hBby.cells) | have hCby := Blk.cellsL hBby
  have hlby := hBby.lt
  have hzby := eby.size
  refine Ox.pure rfl rfl (rp_assign rfl rfl) ?_
  refine Ox.nil ?_
  (repeat first | refine thenE_normal ?_ | refine blockE_normal ?_ | refine scopeE_normal ?_)
  (repeat refine Sx.seq ?_)
  refine Sx.walkR rfl (fun _ _ _ _ h => h) [0, 1, 2, 3, 5, 6, 7, 8, 10, 11, 12, 13, 4, 9, 14, 15, 16, 17] [0, 1, 2, 3, 5, 6, 7, 8, 10, 11, 12, 13, 17] (0) (by kernel_rfl) ?_
  intro hq w1 e1; have hz1 := e1.size
  refine Wx.pure hq rfl rfl rfl rfl (by first | exact rp_fieldAddr2 rfl rfl rfl rfl | exact rp_fieldAddr rfl rfl rfl rfl) ?_
  refine Wx.val hq rfl rfl rfl rfl ([]) (rv_load rfl rfl (by (intro u hu; first | exact Cells.l1 (by assumption) (by (repeat first | exact .refl _ _ | assumption | refine .trans ?_ (by assumption)); first | done | fail) _ rfl rfl | exact Cells.l0 (by assumption) (by (repeat first | exact .refl _ _ | assumption | refine .trans ?_ (by assumption)); first | done | fail) rfl rfl))) ?_
  refine Wx.pure hq rfl rfl rfl rfl (by first | exact rp_fieldAddr2 rfl rfl rfl rfl | exact rp_fieldAddr rfl rfl rfl rfl) ?_
  refine Wx.val hq rfl rfl rfl rfl ([]) (rv_load rfl rfl (by (intro u hu; first | exact Cells.l1 (by assumption) (by (repeat first | exact .refl _ _ | assumption | refine .trans ?_ (by assumption)); first | done | fail) _ rfl rfl | exact Cells.l0 (by assumption) (by (repeat first | exact .refl _ _ | assumption | refine .trans ?_ (by assumption)); first | done | fail) rfl rfl))) ?_
  refine Wx.pure hq rfl rfl rfl rfl (by first | exact rp_fieldAddr2 rfl rfl rfl rfl | exact rp_fieldAddr rfl rfl rfl rfl) ?_
  refine Wx.val hq rfl rfl rfl rfl ([]) (rv_load rfl rfl (by (intro u hu; first | exact Cells.l1 (by assumption) (by (repeat first | exact .refl _ _ | assumption | refine .trans ?_ (by assumption)); first | done | fail) _ rfl rfl | exact Cells.l0 (by assumption) (by (repeat first | exact .refl _ _ | assumption | refine .trans ?_ (by assumption)); first | done | fail) rfl rfl))) ?_
  refine Wx.pure hq rfl rfl rfl rfl (by first | exact rp_fieldAddr2 rfl rfl rfl rfl | exact rp_fieldAddr rfl rfl rfl rfl) ?_
  refine Wx.val hq rfl rfl rfl rfl ([]) (rv_load rfl rfl (by (intro u hu; first | exact Cells.l1 (by assumption) (by (repeat first | exact .refl _ _ | assumption | refine .trans ?_ (by assumption)); first | done | fail) _ rfl rfl | exact Cells.l0 (by assumption) (by (repeat first | exact .refl _ _ | assumption | refine .trans ?_ (by assumption)); first | done | fail) rfl rfl))) ?_
  refine Wx.pure hq rfl rfl rfl rfl (by first | exact rp_fieldAddr2 rfl rfl rfl rfl | exact rp_fieldAddr rfl rfl rfl rfl) ?_
  refine Wx.val hq rfl rfl rfl rfl ([]) (rv_load rfl rfl (by (intro u hu; first | exact Cells.l1 (by assumption) (by (repeat first | exact .refl _ _ | assumption | refine .trans ?_ (by assumption)); first | done | fail) _ rfl rfl | exact Cells.l0 (by assumption) (by (repeat first | exact .refl _ _ | assumption | refine .trans ?_ (by assumption)); first | done | fail) rfl rfl))) ?_
  refine Wx.pure hq rfl rfl rfl rfl (by first | exact rp_fieldAddr2 rfl rfl rfl rfl | exact rp_fieldAddr rfl rfl rfl rfl) ?_
  refine Wx.val hq rfl rfl rfl rfl ([]) (rv_load rfl rfl (by (intro u hu; first | exact Cells.l1 (by assumption) (by (repeat first | exact .refl _ _ | assumption | refine .trans ?_ (by assumption)); first | done | fail) _ rfl rfl | exact Cells.l0 (by assumption) (by (repeat first | exact .refl _ _ | assumption | refine .trans ?_ (by assumption)); first | done | fail) rfl rfl))) ?_
  refine Wx.actNew rfl rfl rfl rfl (acts_call rfl rfl rfl (compareI_at a.k b.k _)) ?_
  rintro v2 w2 e2 rfl
  have hz2 := e2.size
  refine Wx.actNew rfl rfl rfl rfl (acts_call rfl rfl rfl (compareI_at a.s b.s _)) ?_
  rintro v3 w3 e3 rfl
  have hz3 := e3.size
  refine Wx.actNew rfl rfl rfl rfl (acts_call rfl rfl rfl (compareI_at a.o b.o _)) ?_
  rintro v4 w4 e4 rfl
  have hz4 := e4.size
  refine Wx.actNew rfl rfl rfl rfl (acts_buildSlice (ps := [(0, .tmp 9), (1, .tmp 14), (2, .tmp 19)]) rfl rfl rfl rfl rfl rfl rfl rfl) ?_
  rintro vbs wbs ebs ⟨bbs, rfl, hbbs, hBbs⟩
  first | (have hCbs : Cells wbs ⟨bbs, 0, none⟩ [_, _, _] := hBbs.cells) | have hCbs := Blk.cellsL hBbs
  have hlbs := hBbs.lt
  have hzbs := ebs.size
  refine Wx.actNew rfl rfl rfl rfl (acts_call rfl rfl rfl (or_at [cmpI a.k b.k, cmpI a.s b.s, cmpI a.o b.o] (some ⟨bbs, 0, none⟩) ⟨bbs, 0, none⟩ 3 _ ⟨fun _ => rfl, hCbs, by simp, by simp, by simp⟩)) ?_
  rintro v5 w5 e5 rfl
  have hz5 := e5.size
  refine Wx.pure hq rfl rfl rfl rfl (rp_assign rfl rfl) ?_
  refine Wx.nil ?_
  (repeat first | refine thenE_normal ?_ | refine blockE_normal ?_ | refine scopeE_normal ?_)
  (repeat refine Sx.seq ?_); refine Sx.ret ?_
  (repeat first | refine thenE_ret ?_ | refine blockE_ret ?_ | refine scopeE_ret ?_)
  exact endE_ret [_] ⟨rfl, trivial⟩ ⟨by (repeat first | exact .refl _ _ | assumption | refine .trans ?_ (by assumption)); first | done | fail, rfl⟩

/-! ## The keys of facts -/
/-- A key laid into the keys before it. -/
def insAt (out : List Ky) (k : Ky) (n : Nat) : List Ky := out.take n ++ k :: out.drop n
/-- Where it belongs. -/
def Place (out : List Ky) (k : Ky) (n : Nat) : Prop := n ≤ out.length ∧ (∀ j, (h : j < out.length) → j < n → lessK out[j] k) ∧ (∀ h : n < out.length, ¬ lessK out[n] k)
def placeOf (out : List Ky) (k : Ky) : Nat := (out.takeWhile fun x => decide (lessK x k)).length
theorem placeOf_eq : ∀ {out : List Ky} {k : Ky} {n : Nat}, Place out k n → placeOf out k = n
  | [], k, n, h => by have := h.1; simp at this; subst this; rfl
  | x :: l, k, n, h => by
    by_cases hx : lessK x k
    · cases n with
      | zero => exact absurd hx (h.2.2 (by simp))
      | succ n =>
        have := placeOf_eq (out := l) (k := k) (n := n) ⟨by have := h.1; simp at this; omega, fun j hj hn => h.2.1 (j + 1) (by simp; omega) (by omega), fun hn => h.2.2 (by simp; omega)⟩
        unfold placeOf at this ⊢
        rw [List.takeWhile_cons_of_pos (by simpa using hx), List.length_cons, this]
    · cases n with
      | zero => unfold placeOf; rw [List.takeWhile_cons_of_neg (by simpa using hx)]; rfl
      | succ n => exact absurd (h.2.1 0 (by simp) (by omega)) hx
def insK (out : List Ky) (k : Ky) : List Ky := if out[placeOf out k]? = some k then out else insAt out k (placeOf out k)
theorem insK_have {out : List Ky} {k : Ky} {n : Nat} (h : Place out k n) (hn : n < out.length) (he : out[n] = k) : insK out k = out := by
  unfold insK; rw [placeOf_eq h, if_pos (by rw [List.getElem?_eq_getElem hn, he])]
theorem insK_new {out : List Ky} {k : Ky} {n : Nat} (h : Place out k n) (hn : ∀ hn : n < out.length, out[n] ≠ k) : insK out k = insAt out k n := by
  unfold insK; rw [placeOf_eq h, if_neg]
  intro he
  obtain ⟨h1, h2⟩ := List.getElem?_eq_some_iff.1 he
  exact hn h1 h2
def keysL (l : List Fct) : List Ky := l.foldl (fun o f => insK o f.key) []
theorem insK_length (out : List Ky) (k : Ky) : (insK out k).length ≤ out.length + 1 := by
  unfold insK insAt
  split
  · omega
  · simp; omega
theorem keysL_take {l : List Fct} {i : Nat} (hi : i < l.length) : keysL (l.take (i + 1)) = insK (keysL (l.take i)) l[i].key := by
  unfold keysL
  rw [← List.take_append_getElem hi, List.foldl_append]; rfl
theorem keysL_le (l : List Fct) (i : Nat) : (keysL (l.take i)).length ≤ i := by
  induction i with
  | zero => simp [keysL]
  | succ i ih =>
    by_cases hi : i < l.length
    · rw [keysL_take hi]
      have := insK_length (keysL (l.take i)) l[i].key
      omega
    · rw [List.take_of_length_le (by omega)] at ih ⊢; omega
theorem keysL_length (l : List Fct) : (keysL l).length ≤ l.length := by
  have := keysL_le l l.length
  rwa [List.take_length] at this

abbrev OwnK (base : Nat) (w : World) (v : Value) (l : List Ky) : Prop := w.ownsRow base 52 3 v l.length (rowsV kc l)

end Go.Proofs.Ytfnekbnlokigcaa
