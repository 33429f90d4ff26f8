/- The law CorrectionsParts: corrections can be applied in two parts: for every world, all corrections, times and parts, no condition. -/
import Derived.Test.YtfnekbnlokigcaaRows
import Derived.Test.YtfnekbnlokigcaaCorrC
import Derived.Test.YtfnekbnlokigcaaCorrG
import Derived.Test.YtfnekbnlokigcaaCorrU
set_option linter.unusedVariables false
set_option maxRecDepth 100000
set_option maxHeartbeats 4000000
set_option linter.unusedSimpArgs false
namespace Go.Proofs.Ytfnekbnlokigcaa
open Go Go.Eng

theorem rem_nat_eq {P : Program} {n : Nat} {E : Env} {o : Oper} {t t' : TypeId} {x y : Operand} {k : IntKind} {a b r : Nat} (ho : o.op = .binOp .rem t x y t') (hx : ev E x = some (.int k (a : Int))) (hy : ev E y = some (.int k (b : Int))) (hb : b ≠ 0) (hr : a % b = r) : RunP P n E o (.int k (r : Int)) := hr ▸ rem_nat ho hx hy hb
theorem slv_store {w w' : World} {p : Option Addr} {A : Addr} {l : List Fct} {c b : Nat} {t : TypeId} {cs : List Value} (hs : SlV fc w p A l c) (hB : Blk w b t cs) (hno : ∀ v ∈ cs, v = .slice none 0 0) (he : Ext [b] w w') : SlV fc w' p A l c := by
  refine ⟨hs.ptr, ?_, hs.le, hs.small, hs.few⟩
  cases l with
  | nil => exact cells_nil _ _
  | cons f l =>
    refine hs.row.ext he ?_
    rw [List.mem_singleton]
    intro hb
    have h0 := hs.row 0 (.int .i64 f.key.k) rfl
    rw [addr_add0] at h0
    unfold World.cell? at h0
    unfold Blk at hB
    rw [hb, hB] at h0
    simp only at h0
    split at h0
    · cases h0
    · have hm : Value.int .i64 f.key.k ∈ cs := List.mem_of_getElem? (by simpa using h0)
      cases hno _ hm
theorem nil11 : ∀ v ∈ [Value.slice none 0 0, Value.slice none 0 0, Value.slice none 0 0, Value.slice none 0 0, Value.slice none 0 0, Value.slice none 0 0, Value.slice none 0 0, Value.slice none 0 0, Value.slice none 0 0, Value.slice none 0 0, Value.slice none 0 0], v = .slice none 0 0 := by simp
theorem sl_part {w : World} {q : Option Addr} {B : Addr} {cs : List Cr} {d : Nat} (hs : SlV cc w q B cs d) {lo n : Nat} (h : lo + n ≤ cs.length) : SlV cc w (if d = lo then q else q.map (·.add (lo * 6))) (B.add (lo * 6)) ((cs.drop lo).take n) (d - lo) := by
  have hle := hs.le
  have hsm := hs.small
  have hfe := hs.few
  have hl : ((cs.drop lo).take n).length = n := by rw [List.length_take, List.length_drop]; omega
  refine ⟨fun h0 => ?_, ?_, by omega, by omega, by omega⟩
  · rw [if_neg (by omega), hs.ptr (by omega)]; rfl
  · rw [← rowsV_take cc_len, ← rowsV_drop cc_len]
    exact (hs.row.drop _).take _
theorem partsLaw (t : Tb) (l : List Fct) (cs : List Cr) (at_ : Int) (pn : Nat) (p q : Option Addr) (A B : Addr) (c d : Nat) (W : World) (hpn : pn ≤ 255) (ht : t.ok) (hs : SlV fc W p A l c) (hc : SlV cc W q B cs d) :
    Calls Try.prog 5 #[.agg (wvc t (.slice p l.length c)).toArray, .slice q cs.length d, .int .i64 at_, .int .u8 (pn : Int)] W (Ret fun r w' => Ext [] W w' ∧ r = .bool true) := by
  have hp := hs.ptr
  have hrow := hs.row
  have hf1 := hs.few
  have hpq := hc.ptr
  have hrq := hc.row
  have hf2 := hc.few
  have hle := hc.le
  refine calls_of_Sx (args := [.agg (wvc t (.slice p l.length c)).toArray, .slice q cs.length d, .int .i64 at_, .int .u8 (pn : Int)]) Try.func5 rfl rfl ?_
  by_cases hfew : l.length ≤ 30 ∧ cs.length ≤ 8; rotate_left
  · 
    (repeat refine Sx.seq ?_)
    refine Sx.textR ?_
    refine Ox.act rfl rfl (acts_box rfl rfl) ?_
    rintro vbx wbx ⟨ebx, bbx, rfl, hbbx, hBbx⟩
    first | (have hCbx : Cells wbx ⟨bbx, 0, none⟩ [_, _, _, _, _, _, _, _, _, _, _] := hBbx.cells) | have hCbx := Blk.cellsL hBbx
    have hlbx := hBbx.lt
    have hzbx := ebx.size
    refine Ox.pure rfl rfl (rp_assign rfl rfl) ?_
    refine Ox.nil ?_
    (repeat first | refine thenE_normal ?_ | refine blockE_normal ?_ | refine scopeE_normal ?_)
    (repeat refine Sx.seq ?_)
    refine Sx.textR ?_
    refine Ox.act rfl rfl (acts_call rfl rfl rfl (sane_at _)) ?_
    rintro v1 w1 ⟨e1, rfl⟩
    have hz1 := e1.size
    refine Ox.pure rfl rfl (rp_not rfl rfl) ?_
    refine Ox.nil ?_
    (repeat first | refine thenE_normal ?_ | refine blockE_normal ?_ | refine scopeE_normal ?_)
    (repeat refine Sx.seq ?_); first | refine Sx.cond_false rfl ?_ | refine Sx.cond rfl (fun h => absurd h (by simp [*])) (fun _ => ?_)
    (repeat refine Sx.seq ?_); refine Sx.skip ?_
    (repeat first | refine thenE_normal ?_ | refine blockE_normal ?_ | refine scopeE_normal ?_)
    (repeat refine Sx.seq ?_)
    refine Sx.textR ?_
    refine Ox.val rfl rfl (rv_load rfl rfl (by (intro u hu; first | exact Cells.lA (by assumption) (by (repeat first | exact .refl _ _ | assumption | refine .trans ?_ (by assumption)); first | done | fail) rfl rfl | exact Cells.lL (by assumption) (by (repeat first | exact .refl _ _ | assumption | refine .trans ?_ (by assumption)); first | done | fail) rfl rfl (by assumption) | exact Cells.lP (by assumption) (by (repeat first | exact .refl _ _ | assumption | refine .trans ?_ (by assumption)); first | done | fail) _ rfl rfl rfl rfl | exact Cells.lP (by assumption) (by (repeat first | exact .refl _ _ | assumption | refine .trans ?_ (by assumption)); first | done | fail) _ rfl rfl (by assumption) (by assumption)))) ?_
    refine Ox.pure rfl rfl (rp_move rfl rfl) ?_
    refine Ox.act rfl rfl (acts_call rfl rfl rfl (ref_FewC t l p A c q cs.length d _ (hs.ext0 (by (repeat first | exact .refl _ _ | assumption | refine .trans ?_ (by assumption)); first | done | fail)))) ?_
    rintro v2 w2 ⟨e2, rfl⟩
    have hz2 := e2.size
    rw [decide_eq_false hfew]
    refine Ox.pure rfl rfl (rp_not rfl rfl) ?_
    refine Ox.nil ?_
    (repeat first | refine thenE_normal ?_ | refine blockE_normal ?_ | refine scopeE_normal ?_)
    (repeat refine Sx.seq ?_); first | refine Sx.cond_true rfl ?_ | refine Sx.cond rfl (fun _ => ?_) (fun h => absurd h (by simp [*]))
    (repeat refine Sx.seq ?_)
    refine Sx.textR ?_
    refine Ox.pure rfl rfl (rp_assign rfl rfl) ?_
    refine Ox.nil ?_
    (repeat first | refine thenE_normal ?_ | refine blockE_normal ?_ | refine scopeE_normal ?_)
    (repeat refine Sx.seq ?_); refine Sx.ret ?_
    (repeat first | refine thenE_ret ?_ | refine blockE_ret ?_ | refine scopeE_ret ?_)
    exact endE_ret [_] ⟨rfl, trivial⟩ ⟨by (repeat first | exact .refl _ _ | assumption | refine .trans ?_ (by assumption)); first | done | fail, rfl⟩
  obtain ⟨hf30, hf8⟩ := id hfew
  obtain ⟨kk, hkk⟩ : ∃ kk, kk = pn % (cs.length + 1) := ⟨_, rfl⟩
  have hk : kk ≤ cs.length := by have := Nat.mod_lt pn (show 0 < cs.length + 1 by omega); omega

  have hT := sl_part hc (lo := 0) (n := kk) (by omega)
  have hD := sl_part hc (lo := kk) (n := cs.length - kk) (by omega)
  have hTl : ((cs.drop 0).take kk).length = kk := by rw [List.length_take, List.length_drop]; omega
  have hDl : ((cs.drop kk).take (cs.length - kk)).length = cs.length - kk := by rw [List.length_take, List.length_drop]; omega
  have hTe : (cs.drop 0).take kk = cs.take kk := by rw [List.drop_zero]
  have hDe : (cs.drop kk).take (cs.length - kk) = cs.drop kk := List.take_of_length_le (by rw [List.length_drop]; omega)
  rw [hTe] at hT hTl
  rw [hDe] at hD hDl
  have hsplit : cs.take kk ++ cs.drop kk = cs := List.take_append_drop kk cs
  have hap7 : ∀ u, Ext [] W u → Calls Try.prog 8 #[.agg (wvc t (.slice p l.length c)).toArray, .slice (if d = 0 then q else q.map (·.add (0 * 6))) (kk - 0) (d - 0), .int .i64 at_] u (Ret fun r w' => Ext [] u w' ∧ RApp w' r (applyL l (cs.take kk) at_)) := fun u hu => by
    have h9 := apply_at t l (cs.take kk) at_ p A c _ _ _ u ht (hs.ext0 hu) (hT.ext0 hu) (by omega) (by omega)
    rw [hTl] at h9
    exact h9
  have hap10 : ∀ u (t7 : Tb) (p7 : Option Addr) (A7 : Addr) (c7 : Nat) (l7 : List Fct), Ext [] W u → t7.ok → SlV fc u p7 A7 l7 c7 → l7.length ≤ 1000 → Calls Try.prog 8 #[.agg (wvc t7 (.slice p7 l7.length c7)).toArray, .slice (if d = kk then q else q.map (·.add (kk * 6))) (cs.length - kk) (d - kk), .int .i64 at_] u (Ret fun r w' => Ext [] u w' ∧ RApp w' r (applyL l7 (cs.drop kk) at_)) := fun u t7 p7 A7 c7 l7 hu ht7 hs7 hl7 => by
    have h9 := apply_at t7 l7 (cs.drop kk) at_ p7 A7 c7 _ _ _ u ht7 hs7 (hD.ext0 hu) hl7 (by omega)
    rw [hDl] at h9
    exact h9
  have hyl := applyL_length l (cs.take kk) at_
  (repeat refine Sx.seq ?_)
  refine Sx.textR ?_
  refine Ox.act rfl rfl (acts_box rfl rfl) ?_
  rintro vbx wbx ⟨ebx, bbx, rfl, hbbx, hBbx⟩
  first | (have hCbx : Cells wbx ⟨bbx, 0, none⟩ [_, _, _, _, _, _, _, _, _, _, _] := hBbx.cells) | have hCbx := Blk.cellsL hBbx
  have hlbx := hBbx.lt
  have hzbx := ebx.size
  refine Ox.pure rfl rfl (rp_assign rfl rfl) ?_
  refine Ox.nil ?_
  (repeat first | refine thenE_normal ?_ | refine blockE_normal ?_ | refine scopeE_normal ?_)
  (repeat refine Sx.seq ?_)
  refine Sx.textR ?_
  refine Ox.act rfl rfl (acts_call rfl rfl rfl (sane_at _)) ?_
  rintro v3 w3 ⟨e3, rfl⟩
  have hz3 := e3.size
  refine Ox.pure rfl rfl (rp_not rfl rfl) ?_
  refine Ox.nil ?_
  (repeat first | refine thenE_normal ?_ | refine blockE_normal ?_ | refine scopeE_normal ?_)
  (repeat refine Sx.seq ?_); first | refine Sx.cond_false rfl ?_ | refine Sx.cond rfl (fun h => absurd h (by simp [*])) (fun _ => ?_)
  (repeat refine Sx.seq ?_); refine Sx.skip ?_
  (repeat first | refine thenE_normal ?_ | refine blockE_normal ?_ | refine scopeE_normal ?_)
  (repeat refine Sx.seq ?_)
  refine Sx.textR ?_
  refine Ox.val rfl rfl (rv_load rfl rfl (by (intro u hu; first | exact Cells.lA (by assumption) (by (repeat first | exact .refl _ _ | assumption | refine .trans ?_ (by assumption)); first | done | fail) rfl rfl | exact Cells.lL (by assumption) (by (repeat first | exact .refl _ _ | assumption | refine .trans ?_ (by assumption)); first | done | fail) rfl rfl (by assumption) | exact Cells.lP (by assumption) (by (repeat first | exact .refl _ _ | assumption | refine .trans ?_ (by assumption)); first | done | fail) _ rfl rfl rfl rfl | exact Cells.lP (by assumption) (by (repeat first | exact .refl _ _ | assumption | refine .trans ?_ (by assumption)); first | done | fail) _ rfl rfl (by assumption) (by assumption)))) ?_
  refine Ox.pure rfl rfl (rp_move rfl rfl) ?_
  refine Ox.act rfl rfl (acts_call rfl rfl rfl (ref_FewC t l p A c q cs.length d _ (hs.ext0 (by (repeat first | exact .refl _ _ | assumption | refine .trans ?_ (by assumption)); first | done | fail)))) ?_
  rintro v4 w4 ⟨e4, rfl⟩
  have hz4 := e4.size
  rw [decide_eq_true hfew]
  refine Ox.pure rfl rfl (rp_not rfl rfl) ?_
  refine Ox.nil ?_
  (repeat first | refine thenE_normal ?_ | refine blockE_normal ?_ | refine scopeE_normal ?_)
  (repeat refine Sx.seq ?_); first | refine Sx.cond_false rfl ?_ | refine Sx.cond rfl (fun h => absurd h (by simp [*])) (fun _ => ?_)
  (repeat refine Sx.seq ?_); refine Sx.skip ?_
  (repeat first | refine thenE_normal ?_ | refine blockE_normal ?_ | refine scopeE_normal ?_)
  (repeat refine Sx.seq ?_)
  refine Sx.textR ?_
  refine Ox.pure rfl rfl (rp_move rfl rfl) ?_
  refine Ox.pure rfl rfl (rp_conv_fit rfl rfl rfl rfl (wrap64 (by omega))) ?_
  refine Ox.pure rfl rfl (rp_move rfl rfl) ?_
  refine Ox.pure rfl rfl (rp_lenS rfl rfl rfl) ?_
  refine Ox.pure rfl rfl (by first | exact rp_bin rfl rfl rfl (binI_fit_add (wrap64 (by omega))) | exact rp_bin rfl rfl rfl rfl) ?_
  refine Ox.pure rfl rfl (rem_nat_eq (a := pn) (b := cs.length + 1) (r := kk) rfl rfl rfl (by omega) hkk.symm) ?_
  refine Ox.pure rfl rfl (rp_assign rfl rfl) ?_
  refine Ox.nil ?_
  (repeat first | refine thenE_normal ?_ | refine blockE_normal ?_ | refine scopeE_normal ?_)
  (repeat refine Sx.seq ?_)
  refine Sx.textR ?_
  refine Ox.val rfl rfl (rv_load rfl rfl (by (intro u hu; first | exact Cells.lA (by assumption) (by (repeat first | exact .refl _ _ | assumption | refine .trans ?_ (by assumption)); first | done | fail) rfl rfl | exact Cells.lL (by assumption) (by (repeat first | exact .refl _ _ | assumption | refine .trans ?_ (by assumption)); first | done | fail) rfl rfl (by assumption) | exact Cells.lP (by assumption) (by (repeat first | exact .refl _ _ | assumption | refine .trans ?_ (by assumption)); first | done | fail) _ rfl rfl rfl rfl | exact Cells.lP (by assumption) (by (repeat first | exact .refl _ _ | assumption | refine .trans ?_ (by assumption)); first | done | fail) _ rfl rfl (by assumption) (by assumption)))) ?_
  refine Ox.pure rfl rfl (rp_move rfl rfl) ?_
  refine Ox.pure rfl rfl (rp_move rfl rfl) ?_
  refine Ox.act rfl rfl (acts_call rfl rfl rfl (apply_at t l cs at_ p A c q B d _ ht (hs.ext0 (by (repeat first | exact .refl _ _ | assumption | refine .trans ?_ (by assumption)); first | done | fail)) (hc.ext0 (by (repeat first | exact .refl _ _ | assumption | refine .trans ?_ (by assumption)); first | done | fail)) (by omega) (by omega))) ?_
  rintro v5 w5 ⟨e5, t6, p6, A6, c6, ht6, rfl, hs6⟩
  have hz5 := e5.size
  have ho6 := wvc_one (v := .slice p6 (applyL l cs at_).1.length c6) ht6 rfl
  refine Ox.pure rfl rfl (rp_move rfl rfl) ?_
  refine Ox.pure rfl rfl (rp_extract rfl rfl rfl) ?_
  refine Ox.pure rfl rfl (rp_extract rfl rfl rfl) ?_
  refine Ox.act rfl rfl (acts_alloc rfl rfl) ?_
  rintro va6 wa6 ⟨ea6, ba6, rfl, hba6, hBa6⟩
  first | (have hCa6 : Cells wa6 ⟨ba6, 0, none⟩ [_, _, _, _, _, _, _, _, _, _, _] := hBa6.cells) | have hCa6 := Blk.cellsL hBa6
  have hla6 := hBa6.lt
  have hza6 := ea6.size
  refine Ox.act rfl rfl (acts_store_all rfl rfl rfl hBa6 rfl (by first | rfl | assumption) (by first | rfl | assumption) (by (first | assumption | exact List.all_eq_true.mp rfl | simp [Value.cells, Value.oneCell']))) ?_
  rintro vs6 ws6 ⟨rfl, qs6, hBs6⟩
  have es6 := Ext.renew ea6 qs6 hba6
  have hzs6 := es6.size
  have hls6 := hBs6.lt
  first | (have hCs6 : Cells ws6 ⟨ba6, 0, none⟩ [_, _, _, _, _, _, _, _, _, _, _] := hBs6.cells) | have hCs6 := Blk.cellsL hBs6
  refine Ox.pure rfl rfl (rp_assign rfl rfl) ?_
  refine Ox.nil ?_
  (repeat first | refine thenE_normal ?_ | refine blockE_normal ?_ | refine scopeE_normal ?_)
  refine Sx.seq (Sx.upto (fun E' w' => ∃ (t7 : Tb) (p7 : Option Addr) (A7 : Addr) (c7 b7 : Nat), (∀ x u, get [(1, .slice q cs.length d), (2, .int .i64 at_), (9, .int .i64 (kk : Int)), (10, .pointer (some ⟨ba6, 0, none⟩)), (11, .int .i64 (applyL l cs at_).2), (12, .pointer (some ⟨b7, 0, none⟩)), (13, .int .i64 (applyL l (cs.take kk) at_).2)] x = some u → get E' x = some u) ∧ t7.ok ∧ SlV fc w' p7 A7 (applyL l (cs.take kk) at_).1 c7 ∧ Cells w' ⟨b7, 0, none⟩ (wvc t7 (.slice p7 (applyL l (cs.take kk) at_).1.length c7)) ∧ Ext [] ws6 w') ?_ ?_)
  · (repeat refine Sx.seq ?_)
    refine Sx.walkR rfl (fun _ _ _ _ h => h) [0, 1, 2, 3, 4] [0, 1, 2, 3, 4, 6, 7, 8, 11] (7) (by kernel_rfl) ?_
    intro hq w6 e6; have hz6 := e6.size
    refine Wx.val hq rfl rfl rfl rfl ([]) (rv_load rfl rfl (by (intro u hu; first | exact Cells.lA (by assumption) (by (repeat first | exact .refl _ _ | assumption | refine .trans ?_ (by assumption)); first | done | fail) rfl rfl | exact Cells.lL (by assumption) (by (repeat first | exact .refl _ _ | assumption | refine .trans ?_ (by assumption)); first | done | fail) rfl rfl (by assumption) | exact Cells.lP (by assumption) (by (repeat first | exact .refl _ _ | assumption | refine .trans ?_ (by assumption)); first | done | fail) _ rfl rfl rfl rfl | exact Cells.lP (by assumption) (by (repeat first | exact .refl _ _ | assumption | refine .trans ?_ (by assumption)); first | done | fail) _ rfl rfl (by assumption) (by assumption)))) ?_
    refine Wx.pure hq rfl rfl rfl rfl (rp_move rfl rfl) ?_
    refine Wx.pure hq rfl rfl rfl rfl (rp_move rfl rfl) ?_
    refine Wx.pure hq rfl rfl rfl rfl (rp_sliceS 0 kk rfl rfl rfl rfl rfl rfl (.inl ⟨rfl, rfl⟩) (.inr ⟨_, rfl⟩) (Nat.zero_le _) (by omega)) ?_
    refine Wx.pure hq rfl rfl rfl rfl (rp_move rfl rfl) ?_
    refine Wx.fork (i := 5) (j := 9) (by kernel_rfl) ?_ ?_
    · refine Br.mk [] rfl rfl rfl ([]) (.drop (by kernel_rfl) (PendK.nil)) (acts_call rfl rfl rfl (hap7 _ (by (repeat first | exact .refl _ _ | assumption | refine .trans ?_ (by assumption)); first | done | fail))) (fun _ _ h => h.1) [6, 7, 8, 9, 10, 11] (0) (by kernel_rfl) ?_
      rintro v7 w7 ⟨e7, t7, p7, A7, c7, ht7, rfl, hs7⟩
      have hz7 := e7.size
      have ho7 := wvc_one (v := .slice p7 (applyL l (cs.take kk) at_).1.length c7) ht7 rfl
      refine Wx.pure hq rfl rfl rfl rfl (rp_move rfl rfl) ?_
      refine Wx.pure hq rfl rfl rfl rfl (rp_extract rfl rfl rfl) ?_
      refine Wx.pure hq rfl rfl rfl rfl (rp_extract rfl rfl rfl) ?_
      refine Wx.actNew rfl rfl rfl rfl (acts_alloc rfl rfl) ?_
      rintro va7 wa7 ea7 ⟨ba7, rfl, hba7, hBa7⟩
      first | (have hCa7 : Cells wa7 ⟨ba7, 0, none⟩ [_, _, _, _, _, _, _, _, _, _, _] := hBa7.cells) | have hCa7 := Blk.cellsL hBa7
      have hla7 := hBa7.lt
      have hza7 := ea7.size
      refine Wx.actLast rfl rfl rfl rfl (by kernel_rfl) (acts_store_all rfl rfl rfl (hBa7.ext (X := []) (by (repeat first | exact .refl _ _ | assumption | refine .trans ?_ (by assumption)); first | done | fail) (by simp)) rfl rfl rfl ho7) ?_
      rintro vs7 ws7 ⟨rfl, qs7, hBs7⟩
      have es7 : Ext [] ws6 ws7 := Ext.renew (by (repeat first | exact .refl _ _ | assumption | refine .trans ?_ (by assumption)); first | done | fail) qs7 (by omega)
      have hz7 := slv_store (hs7.ext0 (by (repeat first | exact .refl _ _ | assumption | refine .trans ?_ (by assumption)); first | done | fail)) (hBa7.ext (X := []) (by (repeat first | exact .refl _ _ | assumption | refine .trans ?_ (by assumption)); first | done | fail) (by simp)) nil11 qs7
      refine Wx.pure hq rfl rfl rfl rfl (rp_assign rfl rfl) ?_
      refine Wx.nil ?_
      (repeat first | refine thenE_normal ?_ | refine blockE_normal ?_ | refine scopeE_normal ?_)
      exact ⟨t7, p7, A7, c7, ba7, sub_cons rfl (sub_cons rfl (sub_cons rfl (sub_cons rfl (sub_cons rfl (sub_cons rfl (sub_cons rfl sub_nil)))))), ht7, hz7, hBs7.cellsL, by (repeat first | exact .refl _ _ | assumption | refine .trans ?_ (by assumption)); first | done | fail⟩
    · refine Br.mk [(0, [], w6)] rfl rfl rfl ([]) (.keep (fun y hy => .inl hy) (PendK.nil)) (acts_alloc rfl rfl) (fun _ _ h => h.1) [5, 6, 7, 8, 10, 11] (0) (by kernel_rfl) ?_
      rintro va7 wa7 ⟨ea7, ba7, rfl, hba7, hBa7⟩
      first | (have hCa7 : Cells wa7 ⟨ba7, 0, none⟩ [_, _, _, _, _, _, _, _, _, _, _] := hBa7.cells) | have hCa7 := Blk.cellsL hBa7
      have hla7 := hBa7.lt
      have hza7 := ea7.size
      refine Wx.actNew rfl rfl rfl rfl (acts_call rfl rfl rfl (hap7 _ (by (repeat first | exact .refl _ _ | assumption | refine .trans ?_ (by assumption)); first | done | fail))) ?_
      rintro v8 w8 e8 ⟨t7, p7, A7, c7, ht7, rfl, hs7⟩
      have hz8 := e8.size
      have ho7 := wvc_one (v := .slice p7 (applyL l (cs.take kk) at_).1.length c7) ht7 rfl
      refine Wx.pure hq rfl rfl rfl rfl (rp_move rfl rfl) ?_
      refine Wx.pure hq rfl rfl rfl rfl (rp_extract rfl rfl rfl) ?_
      refine Wx.pure hq rfl rfl rfl rfl (rp_extract rfl rfl rfl) ?_
      refine Wx.actLast rfl rfl rfl rfl (by kernel_rfl) (acts_store_all rfl rfl rfl (hBa7.ext (X := []) (by (repeat first | exact .refl _ _ | assumption | refine .trans ?_ (by assumption)); first | done | fail) (by simp)) rfl rfl rfl ho7) ?_
      rintro vs7 ws7 ⟨rfl, qs7, hBs7⟩
      have es7 : Ext [] ws6 ws7 := Ext.renew (by (repeat first | exact .refl _ _ | assumption | refine .trans ?_ (by assumption)); first | done | fail) qs7 (by omega)
      have hz7 := slv_store (hs7.ext0 (by (repeat first | exact .refl _ _ | assumption | refine .trans ?_ (by assumption)); first | done | fail)) (hBa7.ext (X := []) (by (repeat first | exact .refl _ _ | assumption | refine .trans ?_ (by assumption)); first | done | fail) (by simp)) nil11 qs7
      refine Wx.pure hq rfl rfl rfl rfl (rp_assign rfl rfl) ?_
      refine Wx.nil ?_
      (repeat first | refine thenE_normal ?_ | refine blockE_normal ?_ | refine scopeE_normal ?_)
      exact ⟨t7, p7, A7, c7, ba7, sub_cons rfl (sub_cons rfl (sub_cons rfl (sub_cons rfl (sub_cons rfl (sub_cons rfl (sub_cons rfl sub_nil)))))), ht7, hz7, hBs7.cellsL, by (repeat first | exact .refl _ _ | assumption | refine .trans ?_ (by assumption)); first | done | fail⟩
  rintro E' w7f ⟨t7, p7, A7, c7, b7, hsub, ht7, hs7, hC7, e7f⟩
  refine thenE_normal (Sx.weaken ?_ hsub)
  have hz7f := e7f.size
  by_cases hf : (applyL l (cs.take kk) at_).2 = 0; rotate_left
  · have hbad := parts_fail (l := l) (a := cs.take kk) (b := cs.drop kk) (known := at_) (by rw [hsplit]; omega) hf
    rw [hsplit] at hbad
    have hnil : (applyL l (cs.take kk) at_).1.length = 0 := by rw [applyL_fail hf]; rfl
    (repeat refine Sx.seq ?_)
    refine Sx.textR ?_
    refine Ox.pure rfl rfl (rp_move rfl rfl) ?_
    refine Ox.pure rfl rfl (by first | exact rp_bin rfl rfl rfl (binI_t (by omega)) | exact rp_bin rfl rfl rfl (binI_f (by omega)) | exact rp_bin rfl rfl rfl rfl) ?_
    refine Ox.nil ?_
    (repeat first | refine thenE_normal ?_ | refine blockE_normal ?_ | refine scopeE_normal ?_)
    (repeat refine Sx.seq ?_); first | refine Sx.cond_true rfl ?_ | refine Sx.cond rfl (fun _ => ?_) (fun h => absurd h (by simp [*]))
    (repeat refine Sx.seq ?_)
    refine Sx.textR ?_
    refine Ox.pure rfl rfl (rp_move rfl rfl) ?_
    refine Ox.pure rfl rfl (by first | exact rp_bin rfl rfl rfl (binI_t (by omega)) | exact rp_bin rfl rfl rfl (binI_f (by omega)) | exact rp_bin rfl rfl rfl rfl) ?_
    refine Ox.pure rfl rfl (rp_move rfl rfl) ?_
    first | (refine Ox.skip rfl rfl ?_) | (refine Ox.pure rfl rfl (by first | exact rp_fieldAddr2 rfl rfl rfl rfl | exact rp_fieldAddr rfl rfl rfl rfl) ?_)
    first | (refine Ox.skip rfl rfl ?_) | (refine Ox.val rfl rfl (rv_load rfl rfl (by (intro u hu; first | exact Cells.l1 (by assumption) (by (repeat first | exact .refl _ _ | assumption | refine .trans ?_ (by assumption)); first | done | fail) _ rfl rfl | exact Cells.l0 (by assumption) (by (repeat first | exact .refl _ _ | assumption | refine .trans ?_ (by assumption)); first | done | fail) rfl rfl))) ?_)
    first | (refine Ox.skip rfl rfl ?_) | (refine Ox.pure rfl rfl (rp_lenS rfl rfl rfl) ?_)
    first | (refine Ox.skip rfl rfl ?_) | (refine Ox.pure rfl rfl (by first | exact rp_bin rfl rfl rfl (binI_t (by omega)) | exact rp_bin rfl rfl rfl (binI_f (by omega)) | exact rp_bin rfl rfl rfl rfl) ?_)
    refine Ox.pure rfl rfl (by first | exact rp_pick_t rfl rfl rfl | exact rp_pick_f rfl rfl rfl) ?_
    refine Ox.pure rfl rfl (rp_assign rfl rfl) ?_
    refine Ox.nil ?_
    (repeat first | refine thenE_normal ?_ | refine blockE_normal ?_ | refine scopeE_normal ?_)
    (repeat refine Sx.seq ?_); refine Sx.ret ?_
    (repeat first | refine thenE_ret ?_ | refine blockE_ret ?_ | refine scopeE_ret ?_)
    exact endE_ret [_] ⟨rfl, trivial⟩ ⟨by (repeat first | exact .refl _ _ | assumption | refine .trans ?_ (by assumption)); first | done | fail, rfl⟩
  obtain ⟨hiff, hsame⟩ := parts_ok (l := l) (a := cs.take kk) (b := cs.drop kk) (known := at_) (by rw [hsplit]; omega) hf
  rw [hsplit] at hiff hsame
  (repeat refine Sx.seq ?_)
  refine Sx.textR ?_
  refine Ox.pure rfl rfl (rp_move rfl rfl) ?_
  refine Ox.pure rfl rfl (by first | exact rp_bin rfl rfl rfl (binI_t (by omega)) | exact rp_bin rfl rfl rfl (binI_f (by omega)) | exact rp_bin rfl rfl rfl rfl) ?_
  refine Ox.nil ?_
  (repeat first | refine thenE_normal ?_ | refine blockE_normal ?_ | refine scopeE_normal ?_)
  (repeat refine Sx.seq ?_); first | refine Sx.cond_false rfl ?_ | refine Sx.cond rfl (fun h => absurd h (by simp [*])) (fun _ => ?_)
  (repeat refine Sx.seq ?_); refine Sx.skip ?_
  (repeat first | refine thenE_normal ?_ | refine blockE_normal ?_ | refine scopeE_normal ?_)
  refine Sx.seq (Sx.upto (fun E' w' => ∃ (t10 : Tb) (p10 : Option Addr) (A10 : Addr) (c10 b10 : Nat), (∀ x u, get [(10, .pointer (some ⟨ba6, 0, none⟩)), (11, .int .i64 (applyL l cs at_).2), (14, .pointer (some ⟨b10, 0, none⟩)), (15, .int .i64 (applyL (applyL l (cs.take kk) at_).1 (cs.drop kk) at_).2)] x = some u → get E' x = some u) ∧ SlV fc w' p10 A10 (applyL (applyL l (cs.take kk) at_).1 (cs.drop kk) at_).1 c10 ∧ Cells w' ⟨b10, 0, none⟩ (wvc t10 (.slice p10 (applyL (applyL l (cs.take kk) at_).1 (cs.drop kk) at_).1.length c10)) ∧ Ext [] w7f w') ?_ ?_)
  · (repeat refine Sx.seq ?_)
    refine Sx.walkR rfl (fun _ _ _ _ h => h) [0, 1, 2, 3, 4] [0, 1, 2, 3, 4, 6, 7, 8, 11] (7) (by kernel_rfl) ?_
    intro hq w9 e9; have hz9 := e9.size
    refine Wx.val hq rfl rfl rfl rfl ([]) (rv_load rfl rfl (by (intro u hu; first | exact Cells.lA (by assumption) (by (repeat first | exact .refl _ _ | assumption | refine .trans ?_ (by assumption)); first | done | fail) rfl rfl | exact Cells.lL (by assumption) (by (repeat first | exact .refl _ _ | assumption | refine .trans ?_ (by assumption)); first | done | fail) rfl rfl (by assumption) | exact Cells.lP (by assumption) (by (repeat first | exact .refl _ _ | assumption | refine .trans ?_ (by assumption)); first | done | fail) _ rfl rfl rfl rfl | exact Cells.lP (by assumption) (by (repeat first | exact .refl _ _ | assumption | refine .trans ?_ (by assumption)); first | done | fail) _ rfl rfl (by assumption) (by assumption)))) ?_
    refine Wx.pure hq rfl rfl rfl rfl (rp_move rfl rfl) ?_
    refine Wx.pure hq rfl rfl rfl rfl (rp_move rfl rfl) ?_
    refine Wx.pure hq rfl rfl rfl rfl (rp_sliceS kk cs.length rfl rfl rfl rfl rfl rfl (.inr ⟨_, rfl⟩) (.inl ⟨rfl, rfl⟩) hk hle) ?_
    refine Wx.pure hq rfl rfl rfl rfl (rp_move rfl rfl) ?_
    refine Wx.fork (i := 5) (j := 9) (by kernel_rfl) ?_ ?_
    · refine Br.mk [] rfl rfl rfl ([]) (.drop (by kernel_rfl) (PendK.nil)) (acts_call rfl rfl rfl (hap10 _ t7 p7 A7 c7 _ (by (repeat first | exact .refl _ _ | assumption | refine .trans ?_ (by assumption)); first | done | fail) ht7 (hs7.ext0 (by (repeat first | exact .refl _ _ | assumption | refine .trans ?_ (by assumption)); first | done | fail)) (by omega))) (fun _ _ h => h.1) [6, 7, 8, 9, 10, 11] (0) (by kernel_rfl) ?_
      rintro v10 w10 ⟨e10, t10, p10, A10, c10, ht10, rfl, hs10⟩
      have hz10 := e10.size
      have ho10 := wvc_one (v := .slice p10 (applyL (applyL l (cs.take kk) at_).1 (cs.drop kk) at_).1.length c10) ht10 rfl
      refine Wx.pure hq rfl rfl rfl rfl (rp_move rfl rfl) ?_
      refine Wx.pure hq rfl rfl rfl rfl (rp_extract rfl rfl rfl) ?_
      refine Wx.pure hq rfl rfl rfl rfl (rp_extract rfl rfl rfl) ?_
      refine Wx.actNew rfl rfl rfl rfl (acts_alloc rfl rfl) ?_
      rintro va10 wa10 ea10 ⟨ba10, rfl, hba10, hBa10⟩
      first | (have hCa10 : Cells wa10 ⟨ba10, 0, none⟩ [_, _, _, _, _, _, _, _, _, _, _] := hBa10.cells) | have hCa10 := Blk.cellsL hBa10
      have hla10 := hBa10.lt
      have hza10 := ea10.size
      refine Wx.actLast rfl rfl rfl rfl (by kernel_rfl) (acts_store_all rfl rfl rfl (hBa10.ext (X := []) (by (repeat first | exact .refl _ _ | assumption | refine .trans ?_ (by assumption)); first | done | fail) (by simp)) rfl rfl rfl ho10) ?_
      rintro vs10 ws10 ⟨rfl, qs10, hBs10⟩
      have es10 : Ext [] w7f ws10 := Ext.renew (by (repeat first | exact .refl _ _ | assumption | refine .trans ?_ (by assumption)); first | done | fail) qs10 (by omega)
      have hz10 := slv_store (hs10.ext0 (by (repeat first | exact .refl _ _ | assumption | refine .trans ?_ (by assumption)); first | done | fail)) (hBa10.ext (X := []) (by (repeat first | exact .refl _ _ | assumption | refine .trans ?_ (by assumption)); first | done | fail) (by simp)) nil11 qs10
      refine Wx.pure hq rfl rfl rfl rfl (rp_assign rfl rfl) ?_
      refine Wx.nil ?_
      (repeat first | refine thenE_normal ?_ | refine blockE_normal ?_ | refine scopeE_normal ?_)
      exact ⟨t10, p10, A10, c10, ba10, sub_cons rfl (sub_cons rfl (sub_cons rfl (sub_cons rfl sub_nil))), hz10, hBs10.cellsL, by (repeat first | exact .refl _ _ | assumption | refine .trans ?_ (by assumption)); first | done | fail⟩
    · refine Br.mk [(0, [], w9)] rfl rfl rfl ([]) (.keep (fun y hy => .inl hy) (PendK.nil)) (acts_alloc rfl rfl) (fun _ _ h => h.1) [5, 6, 7, 8, 10, 11] (0) (by kernel_rfl) ?_
      rintro va10 wa10 ⟨ea10, ba10, rfl, hba10, hBa10⟩
      first | (have hCa10 : Cells wa10 ⟨ba10, 0, none⟩ [_, _, _, _, _, _, _, _, _, _, _] := hBa10.cells) | have hCa10 := Blk.cellsL hBa10
      have hla10 := hBa10.lt
      have hza10 := ea10.size
      refine Wx.actNew rfl rfl rfl rfl (acts_call rfl rfl rfl (hap10 _ t7 p7 A7 c7 _ (by (repeat first | exact .refl _ _ | assumption | refine .trans ?_ (by assumption)); first | done | fail) ht7 (hs7.ext0 (by (repeat first | exact .refl _ _ | assumption | refine .trans ?_ (by assumption)); first | done | fail)) (by omega))) ?_
      rintro v11 w11 e11 ⟨t10, p10, A10, c10, ht10, rfl, hs10⟩
      have hz11 := e11.size
      have ho10 := wvc_one (v := .slice p10 (applyL (applyL l (cs.take kk) at_).1 (cs.drop kk) at_).1.length c10) ht10 rfl
      refine Wx.pure hq rfl rfl rfl rfl (rp_move rfl rfl) ?_
      refine Wx.pure hq rfl rfl rfl rfl (rp_extract rfl rfl rfl) ?_
      refine Wx.pure hq rfl rfl rfl rfl (rp_extract rfl rfl rfl) ?_
      refine Wx.actLast rfl rfl rfl rfl (by kernel_rfl) (acts_store_all rfl rfl rfl (hBa10.ext (X := []) (by (repeat first | exact .refl _ _ | assumption | refine .trans ?_ (by assumption)); first | done | fail) (by simp)) rfl rfl rfl ho10) ?_
      rintro vs10 ws10 ⟨rfl, qs10, hBs10⟩
      have es10 : Ext [] w7f ws10 := Ext.renew (by (repeat first | exact .refl _ _ | assumption | refine .trans ?_ (by assumption)); first | done | fail) qs10 (by omega)
      have hz10 := slv_store (hs10.ext0 (by (repeat first | exact .refl _ _ | assumption | refine .trans ?_ (by assumption)); first | done | fail)) (hBa10.ext (X := []) (by (repeat first | exact .refl _ _ | assumption | refine .trans ?_ (by assumption)); first | done | fail) (by simp)) nil11 qs10
      refine Wx.pure hq rfl rfl rfl rfl (rp_assign rfl rfl) ?_
      refine Wx.nil ?_
      (repeat first | refine thenE_normal ?_ | refine blockE_normal ?_ | refine scopeE_normal ?_)
      exact ⟨t10, p10, A10, c10, ba10, sub_cons rfl (sub_cons rfl (sub_cons rfl (sub_cons rfl sub_nil))), hz10, hBs10.cellsL, by (repeat first | exact .refl _ _ | assumption | refine .trans ?_ (by assumption)); first | done | fail⟩
  rintro E' w10f ⟨t10, p10, A10, c10, b10, hsub2, hs10, hC10, e10f⟩
  refine thenE_normal (Sx.weaken ?_ hsub2)
  have hz10f := e10f.size
  by_cases h0 : (applyL l cs at_).2 = 0
  · have h1 := hiff.1 h0
    (repeat refine Sx.seq ?_)
    refine Sx.textR ?_
    refine Ox.pure rfl rfl (rp_move rfl rfl) ?_
    refine Ox.pure rfl rfl (by first | exact rp_bin rfl rfl rfl (binI_t (by omega)) | exact rp_bin rfl rfl rfl (binI_f (by omega)) | exact rp_bin rfl rfl rfl rfl) ?_
    refine Ox.pure rfl rfl (rp_move rfl rfl) ?_
    refine Ox.pure rfl rfl (by first | exact rp_bin rfl rfl rfl (binI_t (by omega)) | exact rp_bin rfl rfl rfl (binI_f (by omega)) | exact rp_bin rfl rfl rfl rfl) ?_
    refine Ox.pure rfl rfl (rp_eqb rfl rfl rfl rfl) ?_
    refine Ox.pure rfl rfl (rp_move rfl rfl) ?_
    first | (refine Ox.skip rfl rfl ?_) | (refine Ox.pure rfl rfl (by first | exact rp_fieldAddr2 rfl rfl rfl rfl | exact rp_fieldAddr rfl rfl rfl rfl) ?_)
    first | (refine Ox.skip rfl rfl ?_) | (refine Ox.val rfl rfl (rv_load rfl rfl (by (intro u hu; first | exact Cells.l1 (by assumption) (by (repeat first | exact .refl _ _ | assumption | refine .trans ?_ (by assumption)); first | done | fail) _ rfl rfl | exact Cells.l0 (by assumption) (by (repeat first | exact .refl _ _ | assumption | refine .trans ?_ (by assumption)); first | done | fail) rfl rfl))) ?_)
    first | (refine Ox.skip rfl rfl ?_) | (refine Ox.pure rfl rfl (by first | exact rp_fieldAddr2 rfl rfl rfl rfl | exact rp_fieldAddr rfl rfl rfl rfl) ?_)
    first | (refine Ox.skip rfl rfl ?_) | (refine Ox.val rfl rfl (rv_load rfl rfl (by (intro u hu; first | exact Cells.l1 (by assumption) (by (repeat first | exact .refl _ _ | assumption | refine .trans ?_ (by assumption)); first | done | fail) _ rfl rfl | exact Cells.l0 (by assumption) (by (repeat first | exact .refl _ _ | assumption | refine .trans ?_ (by assumption)); first | done | fail) rfl rfl))) ?_)
    first | (refine Ox.skip rfl rfl ?_) | (refine Ox.act rfl rfl (acts_call rfl rfl rfl (ref_Same (applyL l cs at_).1 (applyL (applyL l (cs.take kk) at_).1 (cs.drop kk) at_).1 p6 p10 A6 A10 c6 c10 _ (hs6.ext0 (by (repeat first | exact .refl _ _ | assumption | refine .trans ?_ (by assumption)); first | done | fail)) (hs10.ext0 (by (repeat first | exact .refl _ _ | assumption | refine .trans ?_ (by assumption)); first | done | fail)))) ?_; rintro v12 w12 ⟨e12, rfl⟩; have hz12 := e12.size; rw [decide_eq_true hsame])
    refine Ox.pure rfl rfl (by first | exact rp_pick_t rfl rfl rfl | exact rp_pick_f rfl rfl rfl) ?_
    refine Ox.pure rfl rfl (rp_assign rfl rfl) ?_
    refine Ox.nil ?_
    (repeat first | refine thenE_normal ?_ | refine blockE_normal ?_ | refine scopeE_normal ?_)
    (repeat refine Sx.seq ?_); refine Sx.ret ?_
    (repeat first | refine thenE_ret ?_ | refine blockE_ret ?_ | refine scopeE_ret ?_)
    exact endE_ret [_] ⟨rfl, trivial⟩ ⟨by (repeat first | exact .refl _ _ | assumption | refine .trans ?_ (by assumption)); first | done | fail, rfl⟩
  · have h1 : (applyL (applyL l (cs.take kk) at_).1 (cs.drop kk) at_).2 ≠ 0 := fun h => h0 (hiff.2 h)
    (repeat refine Sx.seq ?_)
    refine Sx.textR ?_
    refine Ox.pure rfl rfl (rp_move rfl rfl) ?_
    refine Ox.pure rfl rfl (by first | exact rp_bin rfl rfl rfl (binI_t (by omega)) | exact rp_bin rfl rfl rfl (binI_f (by omega)) | exact rp_bin rfl rfl rfl rfl) ?_
    refine Ox.pure rfl rfl (rp_move rfl rfl) ?_
    refine Ox.pure rfl rfl (by first | exact rp_bin rfl rfl rfl (binI_t (by omega)) | exact rp_bin rfl rfl rfl (binI_f (by omega)) | exact rp_bin rfl rfl rfl rfl) ?_
    refine Ox.pure rfl rfl (rp_eqb rfl rfl rfl rfl) ?_
    refine Ox.pure rfl rfl (rp_move rfl rfl) ?_
    first | (refine Ox.skip rfl rfl ?_) | (refine Ox.pure rfl rfl (by first | exact rp_fieldAddr2 rfl rfl rfl rfl | exact rp_fieldAddr rfl rfl rfl rfl) ?_)
    first | (refine Ox.skip rfl rfl ?_) | (refine Ox.val rfl rfl (rv_load rfl rfl (by (intro u hu; first | exact Cells.l1 (by assumption) (by (repeat first | exact .refl _ _ | assumption | refine .trans ?_ (by assumption)); first | done | fail) _ rfl rfl | exact Cells.l0 (by assumption) (by (repeat first | exact .refl _ _ | assumption | refine .trans ?_ (by assumption)); first | done | fail) rfl rfl))) ?_)
    first | (refine Ox.skip rfl rfl ?_) | (refine Ox.pure rfl rfl (by first | exact rp_fieldAddr2 rfl rfl rfl rfl | exact rp_fieldAddr rfl rfl rfl rfl) ?_)
    first | (refine Ox.skip rfl rfl ?_) | (refine Ox.val rfl rfl (rv_load rfl rfl (by (intro u hu; first | exact Cells.l1 (by assumption) (by (repeat first | exact .refl _ _ | assumption | refine .trans ?_ (by assumption)); first | done | fail) _ rfl rfl | exact Cells.l0 (by assumption) (by (repeat first | exact .refl _ _ | assumption | refine .trans ?_ (by assumption)); first | done | fail) rfl rfl))) ?_)
    first | (refine Ox.skip rfl rfl ?_) | (refine Ox.act rfl rfl (acts_call rfl rfl rfl (ref_Same (applyL l cs at_).1 (applyL (applyL l (cs.take kk) at_).1 (cs.drop kk) at_).1 p6 p10 A6 A10 c6 c10 _ (hs6.ext0 (by (repeat first | exact .refl _ _ | assumption | refine .trans ?_ (by assumption)); first | done | fail)) (hs10.ext0 (by (repeat first | exact .refl _ _ | assumption | refine .trans ?_ (by assumption)); first | done | fail)))) ?_; rintro v13 w13 ⟨e13, rfl⟩; have hz13 := e13.size; rw [decide_eq_true hsame])
    refine Ox.pure rfl rfl (by first | exact rp_pick_t rfl rfl rfl | exact rp_pick_f rfl rfl rfl) ?_
    refine Ox.pure rfl rfl (rp_assign rfl rfl) ?_
    refine Ox.nil ?_
    (repeat first | refine thenE_normal ?_ | refine blockE_normal ?_ | refine scopeE_normal ?_)
    (repeat refine Sx.seq ?_); refine Sx.ret ?_
    (repeat first | refine thenE_ret ?_ | refine blockE_ret ?_ | refine scopeE_ret ?_)
    exact endE_ret [_] ⟨rfl, trivial⟩ ⟨by (repeat first | exact .refl _ _ | assumption | refine .trans ?_ (by assumption)); first | done | fail, rfl⟩

open Go.ChangeShapes Go.WideShapes Go.ChangeAt Go.RowKit in
theorem lawContract (H : Type) (enc : TypeId × Value → H) (W : World) (base : Nat) (args : Array Value) (ds gs : List (DataW H)) (before : List MemPlace)
    (hval : ∀ (j : Nat) t v, Try.f5.params[j]? = some t → args[j]? = some v → Value.okWide Try.prog W .any base t v)
    (hW : DataW.Whole enc Try.prog Try.f5.params.toList Rows.correctionsPartsSpec.vars false W args.toList ds gs before)
    (hw : (DataW.weightsEach Try.prog (Try.f5.params.toList ++ Rows.correctionsPartsSpec.plain.varTypes Try.prog) (ds ++ gs)).all (· ≤ reachBytes) = true) :
    Calls Try.prog 5 args W fun e W' => ∃ v, e = .returned v ∧ Rows.correctionsPartsSpec.post enc Try.prog Try.f5 false true false false W args v W' := by
  obtain ⟨p, q, hA, hV, rfl, hz, hn⟩ := id hW
  obtain ⟨rfl, rfl⟩ := trodVars_none hV
  have hA' : DataW.TrodAll enc Try.prog W 0 (fun _ => true) true [38, 39, 3, 5] args.toList ds p := hA
  obtain ⟨v0, vs0, d0, ds0, p0, q0, hargs, rfl, rfl, h0, r0⟩ := trodAll_cons hA'
  obtain ⟨v1, vs1, d1, ds1, p1, q1, rfl, rfl, rfl, h1, r1⟩ := trodAll_cons r0
  obtain ⟨v2, vs2, d2, ds2, p2, q2, rfl, rfl, rfl, h2, r2⟩ := trodAll_cons r1
  obtain ⟨v3, vs3, d3, ds3, p3, q3, rfl, rfl, rfl, h3, r3⟩ := trodAll_cons r2
  obtain ⟨rfl, rfl, rfl⟩ := trodAll_nil r3
  obtain rfl : args = #[v0, v1, v2, v3] := by cases args; simp_all
  have hw' : ∀ x ∈ DataW.weightsEach Try.prog [38, 39, 3, 5] [d0, d1, d2, d3], x ≤ reachBytes := by
    have hw2 : (DataW.weightsEach Try.prog [38, 39, 3, 5] [d0, d1, d2, d3]).all (· ≤ reachBytes) = true := hw
    simpa [List.all_eq_true] using hw2
  simp only [DataW.weightsEach, List.mem_append] at hw'
  obtain ⟨t0, l, pb0, A0, cap0, hto0, rfl, hsl0⟩ := arg_world h0 (fun x hx => hw' x (.inl hx))
  obtain ⟨cs, pb1, A1, cap1, rfl, hsl1, hok1⟩ := arg_corrs (not_agg (P := Try.prog) (t := 39) rfl (hval 1 39 v1 rfl rfl)) h1 (fun x hx => hw' x (.inr (.inl hx)))
  obtain ⟨at_, rfl, _, _, hb2⟩ := open_int undI (hval 2 3 v2 rfl rfl) h2
  obtain ⟨part, rfl, _, _, hb3⟩ := open_int (show Try.prog.underlying 5 = some (.int .u8) from rfl) (hval 3 5 v3 rfl rfl) h3
  have hw3 := (Lit.wf_int_iff _ _).1 hb3
  obtain ⟨partn, rfl⟩ : ∃ m : Nat, part = (m : Int) := ⟨part.toNat, by simp [IntKind.min, IntKind.max, IntKind.signed, IntKind.bits] at hw3; omega⟩
  refine (partsLaw t0 l cs at_ partn pb0 pb1 A0 A1 cap0 cap1 W (by simp [IntKind.min, IntKind.max, IntKind.signed, IntKind.bits] at hw3; omega) hto0 hsl0 hsl1).mono fun e W' he => ?_
  cases e with
  | returned r =>
    obtain ⟨hx, rfl⟩ := he
    exact ⟨_, rfl, post_true (by kernel_rfl) (by kernel_rfl) rfl hW rfl rfl rfl rfl rfl hx⟩
  | panicked c => exact he.elim
  | outgrown => exact he.elim

open Go.ChangeShapes Go.WideShapes Go.ChangeAt Go.RowKit in
set_option maxRecDepth 100000 in
theorem lifted (os : Os) (started : os.Started) (H : Type) (enc : TypeId × Value → H) :
    ReturnsInHanded {} Try.checked os 5 .any (Rows.correctionsPartsSpec.pre6 enc Try.prog Try.f5 [] false) (Rows.correctionsPartsSpec.post enc Try.prog Try.f5 false true false false) := by
  refine returnsInHanded_of_change_sized (C := Try.checked) (by kernel_rfl) started (by kernel_rfl) Try.func5
    (ChangeSpec.witness6 (enc := enc) (C := Try.checked) (s := Rows.correctionsPartsSpec) false ⟨#[], #[.agg #[.slice none 0 0, .slice none 0 0, .slice none 0 0, .slice none 0 0, .slice none 0 0, .slice none 0 0, .slice none 0 0, .slice none 0 0, .slice none 0 0, .slice none 0 0, .slice none 0 0], .slice none 0 0, .int .i64 0, .int .u8 0], []⟩ 8 (by kernel_rfl) (by kernel_rfl) (by kernel_rfl) (by kernel_rfl)) ?_
  intro W base args ds gs before hval hW _ hw _
  exact lawContract H enc W base args ds gs before hval hW hw

theorem over : Rows.correctionsPartsRow.holds Try.pinned (OpenSpec.ofChange Rows.correctionsPartsSpec) :=
  OpenClaim.holds_of_wide 5 Try.f5 rfl rfl rfl rfl rfl rfl rfl ⟨rfl, rfl, rfl, rfl, rfl⟩ rfl rfl rfl rfl rfl (by kernel_rfl) Try.func5 (by kernel_rfl)
    (of_decide_eq_true (by kernel_rfl)) (by unfold Func.isWrapper; first | (rw [if_pos (by decide +kernel)]; kernel_rfl) | (rw [if_neg (by decide +kernel)]; exact ⟨rfl, rfl⟩))
    (fun os started H enc _ => lifted os started H enc)

theorem proved : Rows.CorrectionsPartsSaid := over

end Go.Proofs.Ytfnekbnlokigcaa
