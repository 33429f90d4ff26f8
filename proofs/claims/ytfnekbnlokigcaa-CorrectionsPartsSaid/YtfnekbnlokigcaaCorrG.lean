/- Corrections: the chapter's examples hold. -/
import Derived.Test.YtfnekbnlokigcaaRows
import Derived.Test.YtfnekbnlokigcaaCorrB
import Derived.Test.YtfnekbnlokigcaaCorrD
import Derived.Test.YtfnekbnlokigcaaCorrF
set_option linter.unusedVariables false
set_option maxRecDepth 100000
set_option maxHeartbeats 4000000
set_option linter.unusedSimpArgs false
namespace Go.Proofs.Ytfnekbnlokigcaa
open Go Go.Eng

abbrev kA : Ky := ⟨1, 3, 2⟩
abbrev kP : Ky := ⟨5, 1, 2⟩
abbrev f1 : Fct := ⟨kA, 9, 2, 6, 5, 7⟩
abbrev f2 : Fct := ⟨kP, 4, 0, 3, 5, 8⟩
abbrev f3 : Fct := ⟨kA, 8, 1, 4, 5, 9⟩
abbrev f4 : Fct := ⟨kP, -1, 0, 3, 6, 0⟩
abbrev f5 : Fct := ⟨kA, -1, 1, 2, 6, 1⟩
abbrev f6 : Fct := ⟨kA, 9, 2, 4, 6, 2⟩
abbrev cP : Cr := ⟨kP, 4, 0, 3⟩
abbrev cA : Cr := ⟨kA, 8, 1, 4⟩
abbrev b1 : Cr := ⟨kP, -1, 0, 3⟩
abbrev b2 : Cr := ⟨kA, -1, 1, 2⟩
abbrev b3 : Cr := ⟨kA, 9, 2, 4⟩
abbrev c0 : Cr := ⟨⟨0, 0, 0⟩, 0, 3, 3⟩
theorem m1 : applyL [f1] [cP, cA] 5 = ([f1, f2, f3], 0) := by decide +kernel
theorem m2 : backL [f1] [cP, cA] = [b1, b2, b3] := by decide +kernel
theorem m3 : applyL [f1, f2, f3] [b1, b2, b3] 6 = ([f1, f2, f3, f4, f5, f6], 0) := by decide +kernel
theorem m4 : (effL [f1, f2, f3] 4 5).map Prod.fst = [kA, kP] := by decide +kernel
theorem m5 : effL [f1, f2, f3, f4, f5, f6] 5 5 = [] := by decide +kernel
theorem m6 : applyL [f1] [cP, cA] 4 = ([], 410) := by decide +kernel
theorem m7 : applyL [] [] 0 = ([], 410) := by decide +kernel
theorem m8 : applyL [] [] 1 = ([], 0) := by decide +kernel
theorem m9 : applyL [] [c0] 1 = ([], 410) := by decide +kernel
theorem m10 : atL [f1, f2, f3] kA 3 5 = (8, true) := by decide +kernel
theorem m11 : atL [f1, f2, f3, f4, f5, f6] kA 3 6 = (9, true) := by decide +kernel
theorem m12 : backL [f1] [] = [] := rfl
theorem map_two {α β : Type} {f : α → β} {ds : List α} {a b : β} (h : ds.map f = [a, b]) : ∃ x y, ds = [x, y] ∧ f x = a ∧ f y = b := by
  cases ds with
  | nil => cases h
  | cons x t =>
    cases t with
    | nil => cases h
    | cons y t =>
      cases t with
      | nil => injection h with h1 h2; injection h2 with h3 _; exact ⟨x, y, rfl, h1, h3⟩
      | cons z t => injection h with h1 h2; injection h2 with h3 h4; cases h4

theorem sane_at (w : World) : Calls Try.prog 6 #[] w (Ret fun r w' => Ext [] w w' ∧ r = .bool true) := by
  refine calls_of_Sx (args := []) Try.func6 rfl rfl ?_
  (repeat refine Sx.seq ?_)
  refine Sx.textR ?_
  refine Ox.pure rfl rfl (rp_assign rfl rfl) ?_
  refine Ox.nil ?_
  (repeat first | refine thenE_normal ?_ | refine blockE_normal ?_ | refine scopeE_normal ?_)
  (repeat refine Sx.seq ?_)
  refine Sx.textR ?_
  refine Ox.pure rfl rfl (rp_buildS (ps := [(0, .const _), (1, .const _), (2, .const _)]) rfl rfl rfl rfl rfl) ?_
  refine Ox.act rfl rfl (acts_alloc rfl rfl) ?_
  rintro va1 wa1 ⟨ea1, ba1, rfl, hba1, hBa1⟩
  first | (have hCa1 : Cells wa1 ⟨ba1, 0, none⟩ [_, _, _] := hBa1.cells) | have hCa1 := Blk.cellsL hBa1
  have hla1 := hBa1.lt
  have hza1 := ea1.size
  refine Ox.act rfl rfl (acts_store_all rfl rfl rfl hBa1 rfl (by first | rfl | assumption) (by first | rfl | assumption) (by (first | assumption | exact List.all_eq_true.mp rfl | simp [Value.cells, Value.oneCell']))) ?_
  rintro vk1 wk1 ⟨rfl, qk1, hBk1⟩
  have ek1 := Ext.renew ea1 qk1 hba1
  have hzk1 := ek1.size
  have hlk1 := hBk1.lt
  first | (have hCk1 : Cells wk1 ⟨ba1, 0, none⟩ [_, _, _] := hBk1.cells) | have hCk1 := Blk.cellsL hBk1
  refine Ox.nil ?_
  (repeat first | refine thenE_normal ?_ | refine blockE_normal ?_ | refine scopeE_normal ?_)
  (repeat refine Sx.seq ?_)
  refine Sx.textR ?_
  refine Ox.pure rfl rfl (rp_buildS (ps := [(0, .const _), (1, .const _), (2, .const _)]) rfl rfl rfl rfl rfl) ?_
  refine Ox.act rfl rfl (acts_alloc rfl rfl) ?_
  rintro va2 wa2 ⟨ea2, ba2, rfl, hba2, hBa2⟩
  first | (have hCa2 : Cells wa2 ⟨ba2, 0, none⟩ [_, _, _] := hBa2.cells) | have hCa2 := Blk.cellsL hBa2
  have hla2 := hBa2.lt
  have hza2 := ea2.size
  refine Ox.act rfl rfl (acts_store_all rfl rfl rfl hBa2 rfl (by first | rfl | assumption) (by first | rfl | assumption) (by (first | assumption | exact List.all_eq_true.mp rfl | simp [Value.cells, Value.oneCell']))) ?_
  rintro vk2 wk2 ⟨rfl, qk2, hBk2⟩
  have ek2 := Ext.renew ea2 qk2 hba2
  have hzk2 := ek2.size
  have hlk2 := hBk2.lt
  first | (have hCk2 : Cells wk2 ⟨ba2, 0, none⟩ [_, _, _] := hBk2.cells) | have hCk2 := Blk.cellsL hBk2
  refine Ox.nil ?_
  (repeat first | refine thenE_normal ?_ | refine blockE_normal ?_ | refine scopeE_normal ?_)
  (repeat refine Sx.seq ?_)
  refine Sx.textR ?_
  refine Ox.val rfl rfl (rv_load rfl rfl (by (intro u hu; first | exact Cells.lA (by assumption) (by (repeat first | exact .refl _ _ | assumption | refine .trans ?_ (by assumption)); first | done | fail) rfl rfl | exact Cells.lL (by assumption) (by (repeat first | exact .refl _ _ | assumption | refine .trans ?_ (by assumption)); first | done | fail) rfl rfl (by assumption) | exact Cells.lP (by assumption) (by (repeat first | exact .refl _ _ | assumption | refine .trans ?_ (by assumption)); first | done | fail) _ rfl rfl rfl rfl | exact Cells.lP (by assumption) (by (repeat first | exact .refl _ _ | assumption | refine .trans ?_ (by assumption)); first | done | fail) _ rfl rfl (by assumption) (by assumption)))) ?_
  refine Ox.pure rfl rfl (rp_buildS (ps := [(0, .const _), (1, .const _)]) rfl rfl rfl rfl rfl) ?_
  refine Ox.pure rfl rfl (rp_buildS (ps := [(0, .tmp 26), (1, .const _), (2, .tmp 27), (3, .const _), (4, .const _)]) rfl rfl rfl rfl rfl) ?_
  refine Ox.act rfl rfl (acts_buildSlice (ps := [(0, .tmp 28)]) rfl rfl rfl rfl rfl rfl rfl rfl) ?_
  rintro vlw wlw ⟨elw, blw, rfl, hblw, hBlw⟩
  first | (have hClw : Cells wlw ⟨blw, 0, none⟩ [_, _, _, _, _, _, _, _] := hBlw.cells) | have hClw := Blk.cellsL hBlw
  have hllw := hBlw.lt
  have hzlw := elw.size
  refine Ox.pure rfl rfl (rp_buildS (ps := [(1, .tmp 29)]) rfl rfl rfl rfl rfl) ?_
  refine Ox.act rfl rfl (acts_alloc rfl rfl) ?_
  rintro va3 wa3 ⟨ea3, ba3, rfl, hba3, hBa3⟩
  first | (have hCa3 : Cells wa3 ⟨ba3, 0, none⟩ [_, _, _, _, _, _, _, _, _, _, _] := hBa3.cells) | have hCa3 := Blk.cellsL hBa3
  have hla3 := hBa3.lt
  have hza3 := ea3.size
  refine Ox.act rfl rfl (acts_store_all rfl rfl rfl hBa3 rfl (by first | rfl | assumption) (by first | rfl | assumption) (by (first | assumption | exact List.all_eq_true.mp rfl | simp [Value.cells, Value.oneCell']))) ?_
  rintro vs3 ws3 ⟨rfl, qs3, hBs3⟩
  have es3 := Ext.renew ea3 qs3 hba3
  have hzs3 := es3.size
  have hls3 := hBs3.lt
  first | (have hCs3 : Cells ws3 ⟨ba3, 0, none⟩ [_, _, _, _, _, _, _, _, _, _, _] := hBs3.cells) | have hCs3 := Blk.cellsL hBs3
  refine Ox.nil ?_
  (repeat first | refine thenE_normal ?_ | refine blockE_normal ?_ | refine scopeE_normal ?_)
  (repeat refine Sx.seq ?_)
  refine Sx.textR ?_
  refine Ox.val rfl rfl (rv_load rfl rfl (by (intro u hu; first | exact Cells.lA (by assumption) (by (repeat first | exact .refl _ _ | assumption | refine .trans ?_ (by assumption)); first | done | fail) rfl rfl | exact Cells.lL (by assumption) (by (repeat first | exact .refl _ _ | assumption | refine .trans ?_ (by assumption)); first | done | fail) rfl rfl (by assumption) | exact Cells.lP (by assumption) (by (repeat first | exact .refl _ _ | assumption | refine .trans ?_ (by assumption)); first | done | fail) _ rfl rfl rfl rfl | exact Cells.lP (by assumption) (by (repeat first | exact .refl _ _ | assumption | refine .trans ?_ (by assumption)); first | done | fail) _ rfl rfl (by assumption) (by assumption)))) ?_
  refine Ox.pure rfl rfl (rp_buildS (ps := [(1, .const _)]) rfl rfl rfl rfl rfl) ?_
  refine Ox.pure rfl rfl (rp_buildS (ps := [(0, .tmp 31), (1, .const _), (2, .tmp 32)]) rfl rfl rfl rfl rfl) ?_
  refine Ox.val rfl rfl (rv_load rfl rfl (by (intro u hu; first | exact Cells.lA (by assumption) (by (repeat first | exact .refl _ _ | assumption | refine .trans ?_ (by assumption)); first | done | fail) rfl rfl | exact Cells.lL (by assumption) (by (repeat first | exact .refl _ _ | assumption | refine .trans ?_ (by assumption)); first | done | fail) rfl rfl (by assumption) | exact Cells.lP (by assumption) (by (repeat first | exact .refl _ _ | assumption | refine .trans ?_ (by assumption)); first | done | fail) _ rfl rfl rfl rfl | exact Cells.lP (by assumption) (by (repeat first | exact .refl _ _ | assumption | refine .trans ?_ (by assumption)); first | done | fail) _ rfl rfl (by assumption) (by assumption)))) ?_
  refine Ox.pure rfl rfl (rp_buildS (ps := [(0, .const _), (1, .const _)]) rfl rfl rfl rfl rfl) ?_
  refine Ox.pure rfl rfl (rp_buildS (ps := [(0, .tmp 34), (1, .const _), (2, .tmp 35)]) rfl rfl rfl rfl rfl) ?_
  refine Ox.act rfl rfl (acts_buildSlice (ps := [(0, .tmp 33), (1, .tmp 36)]) rfl rfl rfl rfl rfl rfl rfl rfl) ?_
  rintro vlc wlc ⟨elc, blc, rfl, hblc, hBlc⟩
  first | (have hClc : Cells wlc ⟨blc, 0, none⟩ [_, _, _, _, _, _, _, _, _, _, _, _] := hBlc.cells) | have hClc := Blk.cellsL hBlc
  have hllc := hBlc.lt
  have hzlc := elc.size
  refine Ox.pure rfl rfl (rp_assign rfl rfl) ?_
  refine Ox.nil ?_
  (repeat first | refine thenE_normal ?_ | refine blockE_normal ?_ | refine scopeE_normal ?_)
  have hs : SlV fc wlw (some ⟨blw, 0, none⟩) ⟨blw, 0, none⟩ [f1] 1 := ⟨fun _ => rfl, hClw, by simp, by simp, by simp⟩
  have hc : SlV cc wlc (some ⟨blc, 0, none⟩) ⟨blc, 0, none⟩ [cP, cA] 2 := ⟨fun _ => rfl, hClc, by simp, by simp, by simp⟩
  (repeat refine Sx.seq ?_)
  refine Sx.textR ?_
  refine Ox.val rfl rfl (rv_load rfl rfl (by (intro u hu; first | exact Cells.lA (by assumption) (by (repeat first | exact .refl _ _ | assumption | refine .trans ?_ (by assumption)); first | done | fail) rfl rfl | exact Cells.lL (by assumption) (by (repeat first | exact .refl _ _ | assumption | refine .trans ?_ (by assumption)); first | done | fail) rfl rfl (by assumption) | exact Cells.lP (by assumption) (by (repeat first | exact .refl _ _ | assumption | refine .trans ?_ (by assumption)); first | done | fail) _ rfl rfl rfl rfl | exact Cells.lP (by assumption) (by (repeat first | exact .refl _ _ | assumption | refine .trans ?_ (by assumption)); first | done | fail) _ rfl rfl (by assumption) (by assumption)))) ?_
  refine Ox.pure rfl rfl (rp_move rfl rfl) ?_
  refine Ox.act rfl rfl (acts_call rfl rfl rfl (apply_at Tb0 [f1] [cP, cA] 5 _ _ 1 _ _ 2 _ Tb0_ok (hs.ext0 (by (repeat first | exact .refl _ _ | assumption | refine .trans ?_ (by assumption)); first | done | fail)) (hc.ext0 (by (repeat first | exact .refl _ _ | assumption | refine .trans ?_ (by assumption)); first | done | fail)) (by decide) (by decide))) ?_
  rintro v1 w1 ⟨e1, t5, p5, A5, c5, ht5, rfl, hs5⟩
  have hz1 := e1.size
  rw [m1] at hs5 ⊢
  have ho5 := wvc_one (v := .slice p5 [f1, f2, f3].length c5) ht5 rfl
  refine Ox.pure rfl rfl (rp_move rfl rfl) ?_
  refine Ox.pure rfl rfl (rp_extract rfl rfl rfl) ?_
  refine Ox.pure rfl rfl (rp_extract rfl rfl rfl) ?_
  refine Ox.act rfl rfl (acts_alloc rfl rfl) ?_
  rintro va5 wa5 ⟨ea5, ba5, rfl, hba5, hBa5⟩
  first | (have hCa5 : Cells wa5 ⟨ba5, 0, none⟩ [_, _, _, _, _, _, _, _, _, _, _] := hBa5.cells) | have hCa5 := Blk.cellsL hBa5
  have hla5 := hBa5.lt
  have hza5 := ea5.size
  refine Ox.act rfl rfl (acts_store_all rfl rfl rfl hBa5 rfl (by first | rfl | assumption) (by first | rfl | assumption) (by (first | assumption | exact List.all_eq_true.mp rfl | simp [Value.cells, Value.oneCell']))) ?_
  rintro vs5 ws5 ⟨rfl, qs5, hBs5⟩
  have es5 := Ext.renew ea5 qs5 hba5
  have hzs5 := es5.size
  have hls5 := hBs5.lt
  first | (have hCs5 : Cells ws5 ⟨ba5, 0, none⟩ [_, _, _, _, _, _, _, _, _, _, _] := hBs5.cells) | have hCs5 := Blk.cellsL hBs5
  refine Ox.pure rfl rfl (rp_assign rfl rfl) ?_
  refine Ox.nil ?_
  (repeat first | refine thenE_normal ?_ | refine blockE_normal ?_ | refine scopeE_normal ?_)
  (repeat refine Sx.seq ?_)
  refine Sx.textR ?_
  refine Ox.val rfl rfl (rv_load rfl rfl (by (intro u hu; first | exact Cells.lA (by assumption) (by (repeat first | exact .refl _ _ | assumption | refine .trans ?_ (by assumption)); first | done | fail) rfl rfl | exact Cells.lL (by assumption) (by (repeat first | exact .refl _ _ | assumption | refine .trans ?_ (by assumption)); first | done | fail) rfl rfl (by assumption) | exact Cells.lP (by assumption) (by (repeat first | exact .refl _ _ | assumption | refine .trans ?_ (by assumption)); first | done | fail) _ rfl rfl rfl rfl | exact Cells.lP (by assumption) (by (repeat first | exact .refl _ _ | assumption | refine .trans ?_ (by assumption)); first | done | fail) _ rfl rfl (by assumption) (by assumption)))) ?_
  refine Ox.pure rfl rfl (rp_move rfl rfl) ?_
  refine Ox.act rfl rfl (acts_call rfl rfl rfl (back_at Tb0 [f1] [cP, cA] _ _ _ _ 1 2 _ (hs.ext0 (by (repeat first | exact .refl _ _ | assumption | refine .trans ?_ (by assumption)); first | done | fail)) (hc.ext0 (by (repeat first | exact .refl _ _ | assumption | refine .trans ?_ (by assumption)); first | done | fail)) (by decide))) ?_
  rintro v2 w2 ⟨e2, hv6⟩
  have hz2 := e2.size
  rw [m2] at hv6
  obtain ⟨p6, c6, A6, rfl, hs6, _⟩ := SlV.of_own (l := [b1, b2, b3]) hv6 (by decide)
  refine Ox.pure rfl rfl (rp_assign rfl rfl) ?_
  refine Ox.nil ?_
  (repeat first | refine thenE_normal ?_ | refine blockE_normal ?_ | refine scopeE_normal ?_)
  (repeat refine Sx.seq ?_)
  refine Sx.textR ?_
  refine Ox.val rfl rfl (rv_load rfl rfl (by (intro u hu; first | exact Cells.lA (by assumption) (by (repeat first | exact .refl _ _ | assumption | refine .trans ?_ (by assumption)); first | done | fail) rfl rfl | exact Cells.lL (by assumption) (by (repeat first | exact .refl _ _ | assumption | refine .trans ?_ (by assumption)); first | done | fail) rfl rfl (by assumption) | exact Cells.lP (by assumption) (by (repeat first | exact .refl _ _ | assumption | refine .trans ?_ (by assumption)); first | done | fail) _ rfl rfl rfl rfl | exact Cells.lP (by assumption) (by (repeat first | exact .refl _ _ | assumption | refine .trans ?_ (by assumption)); first | done | fail) _ rfl rfl (by assumption) (by assumption)))) ?_
  refine Ox.pure rfl rfl (rp_move rfl rfl) ?_
  refine Ox.act rfl rfl (acts_call rfl rfl rfl (apply_at t5 [f1, f2, f3] [b1, b2, b3] 6 p5 A5 c5 p6 A6 c6 _ ht5 (hs5.ext0 (by (repeat first | exact .refl _ _ | assumption | refine .trans ?_ (by assumption)); first | done | fail)) (hs6.ext0 (by (repeat first | exact .refl _ _ | assumption | refine .trans ?_ (by assumption)); first | done | fail)) (by decide) (by decide))) ?_
  rintro v3 w3 ⟨e3, t7, p7, A7, c7, ht7, rfl, hs7⟩
  have hz3 := e3.size
  rw [m3] at hs7 ⊢
  have ho7 := wvc_one (v := .slice p7 [f1, f2, f3, f4, f5, f6].length c7) ht7 rfl
  refine Ox.pure rfl rfl (rp_move rfl rfl) ?_
  refine Ox.pure rfl rfl (rp_extract rfl rfl rfl) ?_
  refine Ox.pure rfl rfl (rp_extract rfl rfl rfl) ?_
  refine Ox.act rfl rfl (acts_alloc rfl rfl) ?_
  rintro va7 wa7 ⟨ea7, ba7, rfl, hba7, hBa7⟩
  first | (have hCa7 : Cells wa7 ⟨ba7, 0, none⟩ [_, _, _, _, _, _, _, _, _, _, _] := hBa7.cells) | have hCa7 := Blk.cellsL hBa7
  have hla7 := hBa7.lt
  have hza7 := ea7.size
  refine Ox.act rfl rfl (acts_store_all rfl rfl rfl hBa7 rfl (by first | rfl | assumption) (by first | rfl | assumption) (by (first | assumption | exact List.all_eq_true.mp rfl | simp [Value.cells, Value.oneCell']))) ?_
  rintro vs7 ws7 ⟨rfl, qs7, hBs7⟩
  have es7 := Ext.renew ea7 qs7 hba7
  have hzs7 := es7.size
  have hls7 := hBs7.lt
  first | (have hCs7 : Cells ws7 ⟨ba7, 0, none⟩ [_, _, _, _, _, _, _, _, _, _, _] := hBs7.cells) | have hCs7 := Blk.cellsL hBs7
  refine Ox.pure rfl rfl (rp_assign rfl rfl) ?_
  refine Ox.nil ?_
  (repeat first | refine thenE_normal ?_ | refine blockE_normal ?_ | refine scopeE_normal ?_)
  (repeat refine Sx.seq ?_)
  refine Sx.textR ?_
  refine Ox.val rfl rfl (rv_load rfl rfl (by (intro u hu; first | exact Cells.lA (by assumption) (by (repeat first | exact .refl _ _ | assumption | refine .trans ?_ (by assumption)); first | done | fail) rfl rfl | exact Cells.lL (by assumption) (by (repeat first | exact .refl _ _ | assumption | refine .trans ?_ (by assumption)); first | done | fail) rfl rfl (by assumption) | exact Cells.lP (by assumption) (by (repeat first | exact .refl _ _ | assumption | refine .trans ?_ (by assumption)); first | done | fail) _ rfl rfl rfl rfl | exact Cells.lP (by assumption) (by (repeat first | exact .refl _ _ | assumption | refine .trans ?_ (by assumption)); first | done | fail) _ rfl rfl (by assumption) (by assumption)))) ?_
  refine Ox.act rfl rfl (acts_call rfl rfl rfl (effect_at t5 [f1, f2, f3] 4 5 p5 A5 c5 _ (hs5.ext0 (by (repeat first | exact .refl _ _ | assumption | refine .trans ?_ (by assumption)); first | done | fail)) (by decide))) ?_
  rintro vu8 wu8 ⟨eu8, ds, hds, hv8⟩
  have hzu8 := eu8.size
  refine Ox.pure rfl rfl (rp_assign rfl rfl) ?_
  refine Ox.nil ?_
  (repeat first | refine thenE_normal ?_ | refine blockE_normal ?_ | refine scopeE_normal ?_)
  have hdk : ds.map Df.key = [kA, kP] := by
    rw [← m4, ← hds, List.map_map]; rfl
  obtain ⟨d0, d1, rfl, hk0, hk1⟩ := map_two hdk
  obtain ⟨p8, c8, A8, rfl, hs8, _⟩ := SlV.of_own (l := [d0, d1]) hv8 (by simp)
  have hp8 := hs8.ptr
  have hp5 := hs5.ptr
  (repeat refine Sx.seq ?_)
  refine Sx.textR ?_
  refine Ox.pure rfl rfl (by first | exact rp_fieldAddr2 rfl rfl rfl rfl | exact rp_fieldAddr rfl rfl rfl rfl) ?_
  refine Ox.val rfl rfl (rv_load rfl rfl (by (intro u hu; first | exact Cells.l1 (by assumption) (by (repeat first | exact .refl _ _ | assumption | refine .trans ?_ (by assumption)); first | done | fail) _ rfl rfl | exact Cells.l0 (by assumption) (by (repeat first | exact .refl _ _ | assumption | refine .trans ?_ (by assumption)); first | done | fail) rfl rfl))) ?_
  refine Ox.val rfl rfl (rv_load rfl rfl (by (intro u hu; first | exact Cells.lA (by assumption) (by (repeat first | exact .refl _ _ | assumption | refine .trans ?_ (by assumption)); first | done | fail) rfl rfl | exact Cells.lL (by assumption) (by (repeat first | exact .refl _ _ | assumption | refine .trans ?_ (by assumption)); first | done | fail) rfl rfl (by assumption) | exact Cells.lP (by assumption) (by (repeat first | exact .refl _ _ | assumption | refine .trans ?_ (by assumption)); first | done | fail) _ rfl rfl rfl rfl | exact Cells.lP (by assumption) (by (repeat first | exact .refl _ _ | assumption | refine .trans ?_ (by assumption)); first | done | fail) _ rfl rfl (by assumption) (by assumption)))) ?_
  refine Ox.act rfl rfl (acts_call rfl rfl rfl (at_at [f1, f2, f3] kA 3 5 p5 A5 c5 _ (hs5.ext0 (by (repeat first | exact .refl _ _ | assumption | refine .trans ?_ (by assumption)); first | done | fail)))) ?_
  rintro v4 w4 ⟨e4, rfl⟩
  have hz4 := e4.size
  rw [m10]
  refine Ox.pure rfl rfl (rp_move rfl rfl) ?_
  refine Ox.pure rfl rfl (rp_extract rfl rfl rfl) ?_
  refine Ox.pure rfl rfl (rp_extract rfl rfl rfl) ?_
  refine Ox.pure rfl rfl (rp_assign rfl rfl) ?_
  refine Ox.pure rfl rfl (rp_assign rfl rfl) ?_
  refine Ox.nil ?_
  (repeat first | refine thenE_normal ?_ | refine blockE_normal ?_ | refine scopeE_normal ?_)
  (repeat refine Sx.seq ?_)
  refine Sx.textR ?_
  refine Ox.pure rfl rfl (by first | exact rp_fieldAddr2 rfl rfl rfl rfl | exact rp_fieldAddr rfl rfl rfl rfl) ?_
  refine Ox.val rfl rfl (rv_load rfl rfl (by (intro u hu; first | exact Cells.l1 (by assumption) (by (repeat first | exact .refl _ _ | assumption | refine .trans ?_ (by assumption)); first | done | fail) _ rfl rfl | exact Cells.l0 (by assumption) (by (repeat first | exact .refl _ _ | assumption | refine .trans ?_ (by assumption)); first | done | fail) rfl rfl))) ?_
  refine Ox.val rfl rfl (rv_load rfl rfl (by (intro u hu; first | exact Cells.lA (by assumption) (by (repeat first | exact .refl _ _ | assumption | refine .trans ?_ (by assumption)); first | done | fail) rfl rfl | exact Cells.lL (by assumption) (by (repeat first | exact .refl _ _ | assumption | refine .trans ?_ (by assumption)); first | done | fail) rfl rfl (by assumption) | exact Cells.lP (by assumption) (by (repeat first | exact .refl _ _ | assumption | refine .trans ?_ (by assumption)); first | done | fail) _ rfl rfl rfl rfl | exact Cells.lP (by assumption) (by (repeat first | exact .refl _ _ | assumption | refine .trans ?_ (by assumption)); first | done | fail) _ rfl rfl (by assumption) (by assumption)))) ?_
  refine Ox.act rfl rfl (acts_call rfl rfl rfl (at_at [f1, f2, f3, f4, f5, f6] kA 3 6 p7 A7 c7 _ (hs7.ext0 (by (repeat first | exact .refl _ _ | assumption | refine .trans ?_ (by assumption)); first | done | fail)))) ?_
  rintro v5 w5 ⟨e5, rfl⟩
  have hz5 := e5.size
  rw [m11]
  refine Ox.pure rfl rfl (rp_move rfl rfl) ?_
  refine Ox.pure rfl rfl (rp_extract rfl rfl rfl) ?_
  refine Ox.pure rfl rfl (rp_extract rfl rfl rfl) ?_
  refine Ox.pure rfl rfl (rp_assign rfl rfl) ?_
  refine Ox.pure rfl rfl (rp_assign rfl rfl) ?_
  refine Ox.nil ?_
  (repeat first | refine thenE_normal ?_ | refine blockE_normal ?_ | refine scopeE_normal ?_)
  (repeat refine Sx.seq ?_)
  refine Sx.textR ?_
  refine Ox.val rfl rfl (rv_load rfl rfl (by (intro u hu; first | exact Cells.lA (by assumption) (by (repeat first | exact .refl _ _ | assumption | refine .trans ?_ (by assumption)); first | done | fail) rfl rfl | exact Cells.lL (by assumption) (by (repeat first | exact .refl _ _ | assumption | refine .trans ?_ (by assumption)); first | done | fail) rfl rfl (by assumption) | exact Cells.lP (by assumption) (by (repeat first | exact .refl _ _ | assumption | refine .trans ?_ (by assumption)); first | done | fail) _ rfl rfl rfl rfl | exact Cells.lP (by assumption) (by (repeat first | exact .refl _ _ | assumption | refine .trans ?_ (by assumption)); first | done | fail) _ rfl rfl (by assumption) (by assumption)))) ?_
  refine Ox.pure rfl rfl (rp_move rfl rfl) ?_
  refine Ox.act rfl rfl (acts_call rfl rfl rfl (apply_at Tb0 [f1] [cP, cA] 4 _ _ 1 _ _ 2 _ Tb0_ok (hs.ext0 (by (repeat first | exact .refl _ _ | assumption | refine .trans ?_ (by assumption)); first | done | fail)) (hc.ext0 (by (repeat first | exact .refl _ _ | assumption | refine .trans ?_ (by assumption)); first | done | fail)) (by decide) (by decide))) ?_
  rintro v6 w6 ⟨e6, t11, p11, A11, c11, ht11, rfl, hs11⟩
  have hz6 := e6.size
  rw [m6] at hs11 ⊢
  have ho11 := wvc_one (v := .slice p11 ([] : List Fct).length c11) ht11 rfl
  refine Ox.pure rfl rfl (rp_move rfl rfl) ?_
  refine Ox.pure rfl rfl (rp_extract rfl rfl rfl) ?_
  refine Ox.pure rfl rfl (rp_extract rfl rfl rfl) ?_
  refine Ox.act rfl rfl (acts_alloc rfl rfl) ?_
  rintro va11 wa11 ⟨ea11, ba11, rfl, hba11, hBa11⟩
  first | (have hCa11 : Cells wa11 ⟨ba11, 0, none⟩ [_, _, _, _, _, _, _, _, _, _, _] := hBa11.cells) | have hCa11 := Blk.cellsL hBa11
  have hla11 := hBa11.lt
  have hza11 := ea11.size
  refine Ox.act rfl rfl (acts_store_all rfl rfl rfl hBa11 rfl (by first | rfl | assumption) (by first | rfl | assumption) (by (first | assumption | exact List.all_eq_true.mp rfl | simp [Value.cells, Value.oneCell']))) ?_
  rintro vs11 ws11 ⟨rfl, qs11, hBs11⟩
  have es11 := Ext.renew ea11 qs11 hba11
  have hzs11 := es11.size
  have hls11 := hBs11.lt
  first | (have hCs11 : Cells ws11 ⟨ba11, 0, none⟩ [_, _, _, _, _, _, _, _, _, _, _] := hBs11.cells) | have hCs11 := Blk.cellsL hBs11
  refine Ox.pure rfl rfl (rp_assign rfl rfl) ?_
  refine Ox.nil ?_
  (repeat first | refine thenE_normal ?_ | refine blockE_normal ?_ | refine scopeE_normal ?_)
  (repeat refine Sx.seq ?_)
  refine Sx.textR ?_
  refine Ox.pure rfl rfl (rp_buildS (ps := []) rfl rfl rfl rfl rfl) ?_
  refine Ox.act rfl rfl (acts_call rfl rfl rfl (apply_at Tb0 [] [] 0 none ⟨0, 0, none⟩ 0 none ⟨0, 0, none⟩ 0 _ Tb0_ok (SlV.nil fc _) (SlV.nil cc _) (by decide) (by decide))) ?_
  rintro v7 w7 ⟨e7, t12, p12, A12, c12, ht12, rfl, hs12⟩
  have hz7 := e7.size
  rw [m7] at hs12 ⊢
  have ho12 := wvc_one (v := .slice p12 ([] : List Fct).length c12) ht12 rfl
  refine Ox.pure rfl rfl (rp_move rfl rfl) ?_
  refine Ox.pure rfl rfl (rp_extract rfl rfl rfl) ?_
  refine Ox.pure rfl rfl (rp_extract rfl rfl rfl) ?_
  refine Ox.act rfl rfl (acts_alloc rfl rfl) ?_
  rintro va12 wa12 ⟨ea12, ba12, rfl, hba12, hBa12⟩
  first | (have hCa12 : Cells wa12 ⟨ba12, 0, none⟩ [_, _, _, _, _, _, _, _, _, _, _] := hBa12.cells) | have hCa12 := Blk.cellsL hBa12
  have hla12 := hBa12.lt
  have hza12 := ea12.size
  refine Ox.act rfl rfl (acts_store_all rfl rfl rfl hBa12 rfl (by first | rfl | assumption) (by first | rfl | assumption) (by (first | assumption | exact List.all_eq_true.mp rfl | simp [Value.cells, Value.oneCell']))) ?_
  rintro vs12 ws12 ⟨rfl, qs12, hBs12⟩
  have es12 := Ext.renew ea12 qs12 hba12
  have hzs12 := es12.size
  have hls12 := hBs12.lt
  first | (have hCs12 : Cells ws12 ⟨ba12, 0, none⟩ [_, _, _, _, _, _, _, _, _, _, _] := hBs12.cells) | have hCs12 := Blk.cellsL hBs12
  refine Ox.pure rfl rfl (rp_assign rfl rfl) ?_
  refine Ox.nil ?_
  (repeat first | refine thenE_normal ?_ | refine blockE_normal ?_ | refine scopeE_normal ?_)
  (repeat refine Sx.seq ?_)
  refine Sx.textR ?_
  refine Ox.pure rfl rfl (rp_buildS (ps := []) rfl rfl rfl rfl rfl) ?_
  refine Ox.act rfl rfl (acts_call rfl rfl rfl (apply_at Tb0 [] [] 1 none ⟨0, 0, none⟩ 0 none ⟨0, 0, none⟩ 0 _ Tb0_ok (SlV.nil fc _) (SlV.nil cc _) (by decide) (by decide))) ?_
  rintro v8 w8 ⟨e8, t13, p13, A13, c13, ht13, rfl, hs13⟩
  have hz8 := e8.size
  rw [m8] at hs13 ⊢
  have ho13 := wvc_one (v := .slice p13 ([] : List Fct).length c13) ht13 rfl
  refine Ox.pure rfl rfl (rp_move rfl rfl) ?_
  refine Ox.pure rfl rfl (rp_extract rfl rfl rfl) ?_
  refine Ox.pure rfl rfl (rp_extract rfl rfl rfl) ?_
  refine Ox.act rfl rfl (acts_alloc rfl rfl) ?_
  rintro va13 wa13 ⟨ea13, ba13, rfl, hba13, hBa13⟩
  first | (have hCa13 : Cells wa13 ⟨ba13, 0, none⟩ [_, _, _, _, _, _, _, _, _, _, _] := hBa13.cells) | have hCa13 := Blk.cellsL hBa13
  have hla13 := hBa13.lt
  have hza13 := ea13.size
  refine Ox.act rfl rfl (acts_store_all rfl rfl rfl hBa13 rfl (by first | rfl | assumption) (by first | rfl | assumption) (by (first | assumption | exact List.all_eq_true.mp rfl | simp [Value.cells, Value.oneCell']))) ?_
  rintro vs13 ws13 ⟨rfl, qs13, hBs13⟩
  have es13 := Ext.renew ea13 qs13 hba13
  have hzs13 := es13.size
  have hls13 := hBs13.lt
  first | (have hCs13 : Cells ws13 ⟨ba13, 0, none⟩ [_, _, _, _, _, _, _, _, _, _, _] := hBs13.cells) | have hCs13 := Blk.cellsL hBs13
  refine Ox.pure rfl rfl (rp_assign rfl rfl) ?_
  refine Ox.nil ?_
  (repeat first | refine thenE_normal ?_ | refine blockE_normal ?_ | refine scopeE_normal ?_)
  (repeat refine Sx.seq ?_)
  refine Sx.textR ?_
  refine Ox.pure rfl rfl (rp_buildS (ps := []) rfl rfl rfl rfl rfl) ?_
  refine Ox.pure rfl rfl (rp_buildS (ps := [(0, .const _), (1, .const _)]) rfl rfl rfl rfl rfl) ?_
  refine Ox.pure rfl rfl (rp_buildS (ps := [(2, .tmp 87)]) rfl rfl rfl rfl rfl) ?_
  refine Ox.act rfl rfl (acts_buildSlice (ps := [(0, .tmp 88)]) rfl rfl rfl rfl rfl rfl rfl rfl) ?_
  rintro vl14 wl14 ⟨el14, bl14, rfl, hbl14, hBl14⟩
  first | (have hCl14 : Cells wl14 ⟨bl14, 0, none⟩ [_, _, _, _, _, _] := hBl14.cells) | have hCl14 := Blk.cellsL hBl14
  have hll14 := hBl14.lt
  have hzl14 := el14.size
  refine Ox.act rfl rfl (acts_call rfl rfl rfl (apply_at Tb0 [] [c0] 1 none ⟨0, 0, none⟩ 0 (some ⟨bl14, 0, none⟩) ⟨bl14, 0, none⟩ 1 _ Tb0_ok (SlV.nil fc _) ⟨fun _ => rfl, hCl14, by simp, by simp, by simp⟩ (by decide) (by decide))) ?_
  rintro v9 w9 ⟨e9, t14, p14, A14, c14, ht14, rfl, hs14⟩
  have hz9 := e9.size
  rw [m9] at hs14 ⊢
  have ho14 := wvc_one (v := .slice p14 ([] : List Fct).length c14) ht14 rfl
  refine Ox.pure rfl rfl (rp_move rfl rfl) ?_
  refine Ox.pure rfl rfl (rp_extract rfl rfl rfl) ?_
  refine Ox.pure rfl rfl (rp_extract rfl rfl rfl) ?_
  refine Ox.act rfl rfl (acts_alloc rfl rfl) ?_
  rintro va14 wa14 ⟨ea14, ba14, rfl, hba14, hBa14⟩
  first | (have hCa14 : Cells wa14 ⟨ba14, 0, none⟩ [_, _, _, _, _, _, _, _, _, _, _] := hBa14.cells) | have hCa14 := Blk.cellsL hBa14
  have hla14 := hBa14.lt
  have hza14 := ea14.size
  refine Ox.act rfl rfl (acts_store_all rfl rfl rfl hBa14 rfl (by first | rfl | assumption) (by first | rfl | assumption) (by (first | assumption | exact List.all_eq_true.mp rfl | simp [Value.cells, Value.oneCell']))) ?_
  rintro vs14 ws14 ⟨rfl, qs14, hBs14⟩
  have es14 := Ext.renew ea14 qs14 hba14
  have hzs14 := es14.size
  have hls14 := hBs14.lt
  first | (have hCs14 : Cells ws14 ⟨ba14, 0, none⟩ [_, _, _, _, _, _, _, _, _, _, _] := hBs14.cells) | have hCs14 := Blk.cellsL hBs14
  refine Ox.pure rfl rfl (rp_assign rfl rfl) ?_
  refine Ox.nil ?_
  (repeat first | refine thenE_normal ?_ | refine blockE_normal ?_ | refine scopeE_normal ?_)
  (repeat refine Sx.seq ?_)
  refine Sx.textR ?_
  refine Ox.pure rfl rfl (rp_move rfl rfl) ?_
  refine Ox.pure rfl rfl (by first | exact rp_bin rfl rfl rfl (binI_t (by omega)) | exact rp_bin rfl rfl rfl (binI_f (by omega)) | exact rp_bin rfl rfl rfl rfl) ?_
  refine Ox.pure rfl rfl (rp_move rfl rfl) ?_
  first | (refine Ox.skip rfl rfl ?_) | (refine Ox.pure rfl rfl (rp_move rfl rfl) ?_)
  first | (refine Ox.skip rfl rfl ?_) | (refine Ox.pure rfl rfl (by first | exact rp_bin rfl rfl rfl (binI_t (by omega)) | exact rp_bin rfl rfl rfl (binI_f (by omega)) | exact rp_bin rfl rfl rfl rfl) ?_)
  refine Ox.pure rfl rfl (by first | exact rp_pick_t rfl rfl rfl | exact rp_pick_f rfl rfl rfl) ?_
  refine Ox.pure rfl rfl (rp_move rfl rfl) ?_
  first | (refine Ox.skip rfl rfl ?_) | (refine Ox.pure rfl rfl (rp_move rfl rfl) ?_)
  first | (refine Ox.skip rfl rfl ?_) | (refine Ox.pure rfl rfl (by first | exact rp_bin rfl rfl rfl (binI_t (by omega)) | exact rp_bin rfl rfl rfl (binI_f (by omega)) | exact rp_bin rfl rfl rfl rfl) ?_)
  refine Ox.pure rfl rfl (by first | exact rp_pick_t rfl rfl rfl | exact rp_pick_f rfl rfl rfl) ?_
  refine Ox.pure rfl rfl (rp_move rfl rfl) ?_
  first | (refine Ox.skip rfl rfl ?_) | (refine Ox.pure rfl rfl (rp_move rfl rfl) ?_)
  first | (refine Ox.skip rfl rfl ?_) | (refine Ox.pure rfl rfl (by first | exact rp_bin rfl rfl rfl (binI_t (by omega)) | exact rp_bin rfl rfl rfl (binI_f (by omega)) | exact rp_bin rfl rfl rfl rfl) ?_)
  refine Ox.pure rfl rfl (by first | exact rp_pick_t rfl rfl rfl | exact rp_pick_f rfl rfl rfl) ?_
  refine Ox.pure rfl rfl (rp_move rfl rfl) ?_
  first | (refine Ox.skip rfl rfl ?_) | (refine Ox.pure rfl rfl (rp_move rfl rfl) ?_)
  first | (refine Ox.skip rfl rfl ?_) | (refine Ox.pure rfl rfl (by first | exact rp_bin rfl rfl rfl (binI_t (by omega)) | exact rp_bin rfl rfl rfl (binI_f (by omega)) | exact rp_bin rfl rfl rfl rfl) ?_)
  refine Ox.pure rfl rfl (by first | exact rp_pick_t rfl rfl rfl | exact rp_pick_f rfl rfl rfl) ?_
  refine Ox.pure rfl rfl (rp_move rfl rfl) ?_
  first | (refine Ox.skip rfl rfl ?_) | (refine Ox.pure rfl rfl (rp_move rfl rfl) ?_)
  first | (refine Ox.skip rfl rfl ?_) | (refine Ox.pure rfl rfl (by first | exact rp_bin rfl rfl rfl (binI_t (by omega)) | exact rp_bin rfl rfl rfl (binI_f (by omega)) | exact rp_bin rfl rfl rfl rfl) ?_)
  refine Ox.pure rfl rfl (by first | exact rp_pick_t rfl rfl rfl | exact rp_pick_f rfl rfl rfl) ?_
  refine Ox.pure rfl rfl (rp_move rfl rfl) ?_
  first | (refine Ox.skip rfl rfl ?_) | (refine Ox.pure rfl rfl (by first | exact rp_fieldAddr2 rfl rfl rfl rfl | exact rp_fieldAddr rfl rfl rfl rfl) ?_)
  first | (refine Ox.skip rfl rfl ?_) | (refine Ox.val rfl rfl (rv_load rfl rfl (by (intro u hu; first | exact Cells.l1 (by assumption) (by (repeat first | exact .refl _ _ | assumption | refine .trans ?_ (by assumption)); first | done | fail) _ rfl rfl | exact Cells.l0 (by assumption) (by (repeat first | exact .refl _ _ | assumption | refine .trans ?_ (by assumption)); first | done | fail) rfl rfl))) ?_)
  first | (refine Ox.skip rfl rfl ?_) | (refine Ox.pure rfl rfl (rp_lenS rfl rfl rfl) ?_)
  first | (refine Ox.skip rfl rfl ?_) | (refine Ox.pure rfl rfl (by first | exact rp_bin rfl rfl rfl (binI_t (by omega)) | exact rp_bin rfl rfl rfl (binI_f (by omega)) | exact rp_bin rfl rfl rfl rfl) ?_)
  refine Ox.pure rfl rfl (by first | exact rp_pick_t rfl rfl rfl | exact rp_pick_f rfl rfl rfl) ?_
  refine Ox.pure rfl rfl (rp_move rfl rfl) ?_
  first | (refine Ox.skip rfl rfl ?_) | (refine Ox.pure rfl rfl (rp_move rfl rfl) ?_)
  first | (refine Ox.skip rfl rfl ?_) | (refine Ox.pure rfl rfl (rp_lenS rfl rfl rfl) ?_)
  first | (refine Ox.skip rfl rfl ?_) | (refine Ox.pure rfl rfl (by first | exact rp_bin rfl rfl rfl (binI_t (by omega)) | exact rp_bin rfl rfl rfl (binI_f (by omega)) | exact rp_bin rfl rfl rfl rfl) ?_)
  refine Ox.pure rfl rfl (by first | exact rp_pick_t rfl rfl rfl | exact rp_pick_f rfl rfl rfl) ?_
  refine Ox.nil ?_
  (repeat first | refine thenE_normal ?_ | refine blockE_normal ?_ | refine scopeE_normal ?_)
  (repeat refine Sx.seq ?_); first | refine Sx.cond_false rfl ?_ | refine Sx.cond rfl (fun h => absurd h (by simp [*])) (fun _ => ?_)
  (repeat refine Sx.seq ?_); refine Sx.skip ?_
  (repeat first | refine thenE_normal ?_ | refine blockE_normal ?_ | refine scopeE_normal ?_)
  (repeat refine Sx.seq ?_)
  refine Sx.textR ?_
  refine Ox.val rfl rfl (rv_load rfl rfl (by (intro u hu; first | exact Cells.lA (by assumption) (by (repeat first | exact .refl _ _ | assumption | refine .trans ?_ (by assumption)); first | done | fail) rfl rfl | exact Cells.lL (by assumption) (by (repeat first | exact .refl _ _ | assumption | refine .trans ?_ (by assumption)); first | done | fail) rfl rfl (by assumption) | exact Cells.lP (by assumption) (by (repeat first | exact .refl _ _ | assumption | refine .trans ?_ (by assumption)); first | done | fail) _ rfl rfl rfl rfl | exact Cells.lP (by assumption) (by (repeat first | exact .refl _ _ | assumption | refine .trans ?_ (by assumption)); first | done | fail) _ rfl rfl (by assumption) (by assumption)))) ?_
  refine Ox.pure rfl rfl (rp_buildS (ps := [(1, .const _)]) rfl rfl rfl rfl rfl) ?_
  refine Ox.pure rfl rfl (rp_buildS (ps := [(0, .tmp 126), (1, .const _), (2, .tmp 127)]) rfl rfl rfl rfl rfl) ?_
  refine Ox.val rfl rfl (rv_load rfl rfl (by (intro u hu; first | exact Cells.lA (by assumption) (by (repeat first | exact .refl _ _ | assumption | refine .trans ?_ (by assumption)); first | done | fail) rfl rfl | exact Cells.lL (by assumption) (by (repeat first | exact .refl _ _ | assumption | refine .trans ?_ (by assumption)); first | done | fail) rfl rfl (by assumption) | exact Cells.lP (by assumption) (by (repeat first | exact .refl _ _ | assumption | refine .trans ?_ (by assumption)); first | done | fail) _ rfl rfl rfl rfl | exact Cells.lP (by assumption) (by (repeat first | exact .refl _ _ | assumption | refine .trans ?_ (by assumption)); first | done | fail) _ rfl rfl (by assumption) (by assumption)))) ?_
  refine Ox.pure rfl rfl (rp_buildS (ps := [(0, .const _), (1, .const _)]) rfl rfl rfl rfl rfl) ?_
  refine Ox.pure rfl rfl (rp_buildS (ps := [(0, .tmp 129), (1, .const _), (2, .tmp 130)]) rfl rfl rfl rfl rfl) ?_
  refine Ox.val rfl rfl (rv_load rfl rfl (by (intro u hu; first | exact Cells.lA (by assumption) (by (repeat first | exact .refl _ _ | assumption | refine .trans ?_ (by assumption)); first | done | fail) rfl rfl | exact Cells.lL (by assumption) (by (repeat first | exact .refl _ _ | assumption | refine .trans ?_ (by assumption)); first | done | fail) rfl rfl (by assumption) | exact Cells.lP (by assumption) (by (repeat first | exact .refl _ _ | assumption | refine .trans ?_ (by assumption)); first | done | fail) _ rfl rfl rfl rfl | exact Cells.lP (by assumption) (by (repeat first | exact .refl _ _ | assumption | refine .trans ?_ (by assumption)); first | done | fail) _ rfl rfl (by assumption) (by assumption)))) ?_
  refine Ox.pure rfl rfl (rp_buildS (ps := [(0, .const _), (1, .const _)]) rfl rfl rfl rfl rfl) ?_
  refine Ox.pure rfl rfl (rp_buildS (ps := [(0, .tmp 132), (1, .const _), (2, .tmp 133)]) rfl rfl rfl rfl rfl) ?_
  refine Ox.act rfl rfl (acts_buildSlice (ps := [(0, .tmp 128), (1, .tmp 131), (2, .tmp 134)]) rfl rfl rfl rfl rfl rfl rfl rfl) ?_
  rintro vlb wlb ⟨elb, blb, rfl, hblb, hBlb⟩
  first | (have hClb : Cells wlb ⟨blb, 0, none⟩ [_, _, _, _, _, _, _, _, _, _, _, _, _, _, _, _, _, _] := hBlb.cells) | have hClb := Blk.cellsL hBlb
  have hllb := hBlb.lt
  have hzlb := elb.size
  refine Ox.pure rfl rfl (rp_assign rfl rfl) ?_
  refine Ox.nil ?_
  (repeat first | refine thenE_normal ?_ | refine blockE_normal ?_ | refine scopeE_normal ?_)
  have hb : SlV cc wlb (some ⟨blb, 0, none⟩) ⟨blb, 0, none⟩ [b1, b2, b3] 3 := ⟨fun _ => rfl, hClb, by simp, by simp, by simp⟩
  (repeat refine Sx.seq ?_)
  refine Sx.walkR rfl (fun _ _ _ _ h => h) [0, 1, 2, 3, 4, 5, 6, 7, 8, 9, 10, 11, 12, 13, 14, 15, 16, 17, 18, 19, 20, 21, 22, 23, 24, 25, 26, 27, 28, 29, 30, 31, 32, 33, 34, 35, 36, 37, 38, 39, 40, 41, 42, 43, 44, 45, 46, 47, 48, 49, 50, 51, 52, 53, 54, 55, 56, 57, 58, 59, 60, 61, 62, 63, 64, 65, 66, 67, 68, 69, 70, 71, 72, 73, 74, 75, 76] [0, 1, 3, 4, 5, 6, 7, 8, 9, 10, 11, 12, 13, 14, 15, 16, 17, 18, 19, 20, 21, 22, 23, 24, 25, 26, 27, 28, 29, 30, 31, 32, 33, 34, 35, 36, 37, 38, 39, 40, 41, 42, 43, 44, 45, 46, 47, 48, 49, 50, 51, 52, 53, 54, 55, 56, 58, 59, 60, 62, 63, 64, 65, 67, 68, 69, 70, 71, 73, 74, 75, 76] (0) (by kernel_rfl) ?_
  intro hq w10 e10; have hz10 := e10.size
  refine Wx.pure hq rfl rfl rfl rfl (rp_move rfl rfl) ?_
  refine Wx.pure hq rfl rfl rfl rfl (rp_move rfl rfl) ?_
  refine Wx.actNew rfl rfl rfl rfl (acts_call rfl rfl rfl (ref_SameC [b1, b2, b3] [b1, b2, b3] p6 _ A6 _ c6 3 _ (hs6.ext0 (by (repeat first | exact .refl _ _ | assumption | refine .trans ?_ (by assumption)); first | done | fail)) (hb.ext0 (by (repeat first | exact .refl _ _ | assumption | refine .trans ?_ (by assumption)); first | done | fail)))) ?_
  rintro v11 w11 e11 rfl
  have hz11 := e11.size
  rw [decide_eq_true (show [b1, b2, b3] = [b1, b2, b3] from rfl)]
  refine Wx.pure hq rfl rfl rfl rfl (rp_move rfl rfl) ?_
  first | (refine Wx.skip hq rfl rfl rfl rfl ?_) | (refine Wx.pure hq rfl rfl rfl rfl (by first | exact rp_fieldAddr2 rfl rfl rfl rfl | exact rp_fieldAddr rfl rfl rfl rfl) ?_)
  first | (refine Wx.skip hq rfl rfl rfl rfl ?_) | (refine Wx.val hq rfl rfl rfl rfl ([]) (rv_load rfl rfl (by (intro u hu; first | exact Cells.l1 (by assumption) (by (repeat first | exact .refl _ _ | assumption | refine .trans ?_ (by assumption)); first | done | fail) _ rfl rfl | exact Cells.l0 (by assumption) (by (repeat first | exact .refl _ _ | assumption | refine .trans ?_ (by assumption)); first | done | fail) rfl rfl))) ?_)
  first | (refine Wx.skip hq rfl rfl rfl rfl ?_) | (refine Wx.pure hq rfl rfl rfl rfl (rp_indexAddr 1 rfl rfl rfl rfl rfl hp5 rfl (by decide)) ?_)
  first | (refine Wx.skip hq rfl rfl rfl rfl ?_) | (refine Wx.pure hq rfl rfl rfl rfl (by first | exact rp_fieldAddr2 rfl rfl rfl rfl | exact rp_fieldAddr rfl rfl rfl rfl) ?_)
  first | (refine Wx.skip hq rfl rfl rfl rfl ?_) | (refine Wx.val hq rfl rfl rfl rfl ([]) (rv_load rfl rfl (fun u hu => ld_field (enc := fc) (l := [f1, f2, f3]) (i := 1) fc_len (hs5.row.ext0 (by (repeat first | exact .refl _ _ | assumption | refine .trans ?_ (by assumption)); first | done | fail)) (by decide) 7 rfl (by decide) rfl)) ?_)
  first | (refine Wx.skip hq rfl rfl rfl rfl ?_) | (refine Wx.pure hq rfl rfl rfl rfl (by first | exact rp_bin rfl rfl rfl (binI_t (by omega)) | exact rp_bin rfl rfl rfl (binI_f (by omega)) | exact rp_bin rfl rfl rfl rfl) ?_)
  refine Wx.pure hq rfl rfl rfl rfl (by first | exact rp_pick_t rfl rfl rfl | exact rp_pick_f rfl rfl rfl) ?_
  refine Wx.pure hq rfl rfl rfl rfl (rp_move rfl rfl) ?_
  first | (refine Wx.skip hq rfl rfl rfl rfl ?_) | (refine Wx.pure hq rfl rfl rfl rfl (by first | exact rp_fieldAddr2 rfl rfl rfl rfl | exact rp_fieldAddr rfl rfl rfl rfl) ?_)
  first | (refine Wx.skip hq rfl rfl rfl rfl ?_) | (refine Wx.val hq rfl rfl rfl rfl ([]) (rv_load rfl rfl (by (intro u hu; first | exact Cells.l1 (by assumption) (by (repeat first | exact .refl _ _ | assumption | refine .trans ?_ (by assumption)); first | done | fail) _ rfl rfl | exact Cells.l0 (by assumption) (by (repeat first | exact .refl _ _ | assumption | refine .trans ?_ (by assumption)); first | done | fail) rfl rfl))) ?_)
  first | (refine Wx.skip hq rfl rfl rfl rfl ?_) | (refine Wx.pure hq rfl rfl rfl rfl (rp_indexAddr 2 rfl rfl rfl rfl rfl hp5 rfl (by decide)) ?_)
  first | (refine Wx.skip hq rfl rfl rfl rfl ?_) | (refine Wx.pure hq rfl rfl rfl rfl (by first | exact rp_fieldAddr2 rfl rfl rfl rfl | exact rp_fieldAddr rfl rfl rfl rfl) ?_)
  first | (refine Wx.skip hq rfl rfl rfl rfl ?_) | (refine Wx.val hq rfl rfl rfl rfl ([]) (rv_load rfl rfl (fun u hu => ld_field (enc := fc) (l := [f1, f2, f3]) (i := 2) fc_len (hs5.row.ext0 (by (repeat first | exact .refl _ _ | assumption | refine .trans ?_ (by assumption)); first | done | fail)) (by decide) 7 rfl (by decide) rfl)) ?_)
  first | (refine Wx.skip hq rfl rfl rfl rfl ?_) | (refine Wx.pure hq rfl rfl rfl rfl (by first | exact rp_bin rfl rfl rfl (binI_t (by omega)) | exact rp_bin rfl rfl rfl (binI_f (by omega)) | exact rp_bin rfl rfl rfl rfl) ?_)
  refine Wx.pure hq rfl rfl rfl rfl (by first | exact rp_pick_t rfl rfl rfl | exact rp_pick_f rfl rfl rfl) ?_
  refine Wx.pure hq rfl rfl rfl rfl (rp_move rfl rfl) ?_
  first | (refine Wx.skip hq rfl rfl rfl rfl ?_) | (refine Wx.pure hq rfl rfl rfl rfl (rp_move rfl rfl) ?_)
  first | (refine Wx.skip hq rfl rfl rfl rfl ?_) | (refine Wx.pure hq rfl rfl rfl rfl (by first | exact rp_bin rfl rfl rfl (binI_t (by omega)) | exact rp_bin rfl rfl rfl (binI_f (by omega)) | exact rp_bin rfl rfl rfl rfl) ?_)
  refine Wx.pure hq rfl rfl rfl rfl (by first | exact rp_pick_t rfl rfl rfl | exact rp_pick_f rfl rfl rfl) ?_
  refine Wx.pure hq rfl rfl rfl rfl (rp_move rfl rfl) ?_
  first | (refine Wx.skip hq rfl rfl rfl rfl ?_) | (refine Wx.pure hq rfl rfl rfl rfl (rp_move rfl rfl) ?_)
  refine Wx.pure hq rfl rfl rfl rfl (by first | exact rp_pick_t rfl rfl rfl | exact rp_pick_f rfl rfl rfl) ?_
  refine Wx.pure hq rfl rfl rfl rfl (rp_move rfl rfl) ?_
  first | (refine Wx.skip hq rfl rfl rfl rfl ?_) | (refine Wx.pure hq rfl rfl rfl rfl (rp_move rfl rfl) ?_)
  first | (refine Wx.skip hq rfl rfl rfl rfl ?_) | (refine Wx.pure hq rfl rfl rfl rfl (by first | exact rp_bin rfl rfl rfl (binI_t (by omega)) | exact rp_bin rfl rfl rfl (binI_f (by omega)) | exact rp_bin rfl rfl rfl rfl) ?_)
  refine Wx.pure hq rfl rfl rfl rfl (by first | exact rp_pick_t rfl rfl rfl | exact rp_pick_f rfl rfl rfl) ?_
  refine Wx.pure hq rfl rfl rfl rfl (rp_move rfl rfl) ?_
  first | (refine Wx.skip hq rfl rfl rfl rfl ?_) | (refine Wx.pure hq rfl rfl rfl rfl (rp_move rfl rfl) ?_)
  refine Wx.pure hq rfl rfl rfl rfl (by first | exact rp_pick_t rfl rfl rfl | exact rp_pick_f rfl rfl rfl) ?_
  refine Wx.pure hq rfl rfl rfl rfl (rp_move rfl rfl) ?_
  first | (refine Wx.skip hq rfl rfl rfl rfl ?_) | (refine Wx.pure hq rfl rfl rfl rfl (rp_move rfl rfl) ?_)
  first | (refine Wx.skip hq rfl rfl rfl rfl ?_) | (refine Wx.pure hq rfl rfl rfl rfl (rp_indexAddr 0 rfl rfl rfl rfl rfl hp8 rfl (by simp)) ?_)
  first | (refine Wx.skip hq rfl rfl rfl rfl ?_) | (refine Wx.pure hq rfl rfl rfl rfl (by first | exact rp_fieldAddr2 rfl rfl rfl rfl | exact rp_fieldAddr rfl rfl rfl rfl) ?_)
  first | (refine Wx.skip hq rfl rfl rfl rfl ?_) | (refine Wx.val hq rfl rfl rfl rfl ([]) (rv_load rfl rfl (fun u hu => ld_sub (enc := dfc) (sub := kc d0.key) (i := 0) (l := [d0, d1]) dfc_len (hs8.row.ext0 (by (repeat first | exact .refl _ _ | assumption | refine .trans ?_ (by assumption)); first | done | fail)) (by simp) 0 rfl rfl (Nat.le_of_ble_eq_true rfl) rfl)) ?_)
  first | (refine Wx.skip hq rfl rfl rfl rfl ?_) | (refine Wx.val hq rfl rfl rfl rfl ([]) (rv_load rfl rfl (by (intro u hu; first | exact Cells.lA (by assumption) (by (repeat first | exact .refl _ _ | assumption | refine .trans ?_ (by assumption)); first | done | fail) rfl rfl | exact Cells.lL (by assumption) (by (repeat first | exact .refl _ _ | assumption | refine .trans ?_ (by assumption)); first | done | fail) rfl rfl (by assumption) | exact Cells.lP (by assumption) (by (repeat first | exact .refl _ _ | assumption | refine .trans ?_ (by assumption)); first | done | fail) _ rfl rfl rfl rfl | exact Cells.lP (by assumption) (by (repeat first | exact .refl _ _ | assumption | refine .trans ?_ (by assumption)); first | done | fail) _ rfl rfl (by assumption) (by assumption)))) ?_)
  first | (refine Wx.skip hq rfl rfl rfl rfl ?_) | (refine Wx.pure hq rfl rfl rfl rfl (rp_eqA_t rfl egKy rfl rfl (eqKy d0.key kA) hk0) ?_)
  refine Wx.pure hq rfl rfl rfl rfl (by first | exact rp_pick_t rfl rfl rfl | exact rp_pick_f rfl rfl rfl) ?_
  refine Wx.pure hq rfl rfl rfl rfl (rp_move rfl rfl) ?_
  first | (refine Wx.skip hq rfl rfl rfl rfl ?_) | (refine Wx.pure hq rfl rfl rfl rfl (rp_move rfl rfl) ?_)
  first | (refine Wx.skip hq rfl rfl rfl rfl ?_) | (refine Wx.pure hq rfl rfl rfl rfl (rp_indexAddr 1 rfl rfl rfl rfl rfl hp8 rfl (by simp)) ?_)
  first | (refine Wx.skip hq rfl rfl rfl rfl ?_) | (refine Wx.pure hq rfl rfl rfl rfl (by first | exact rp_fieldAddr2 rfl rfl rfl rfl | exact rp_fieldAddr rfl rfl rfl rfl) ?_)
  first | (refine Wx.skip hq rfl rfl rfl rfl ?_) | (refine Wx.val hq rfl rfl rfl rfl ([]) (rv_load rfl rfl (fun u hu => ld_sub (enc := dfc) (sub := kc d1.key) (i := 1) (l := [d0, d1]) dfc_len (hs8.row.ext0 (by (repeat first | exact .refl _ _ | assumption | refine .trans ?_ (by assumption)); first | done | fail)) (by simp) 0 rfl rfl (Nat.le_of_ble_eq_true rfl) rfl)) ?_)
  first | (refine Wx.skip hq rfl rfl rfl rfl ?_) | (refine Wx.val hq rfl rfl rfl rfl ([]) (rv_load rfl rfl (by (intro u hu; first | exact Cells.lA (by assumption) (by (repeat first | exact .refl _ _ | assumption | refine .trans ?_ (by assumption)); first | done | fail) rfl rfl | exact Cells.lL (by assumption) (by (repeat first | exact .refl _ _ | assumption | refine .trans ?_ (by assumption)); first | done | fail) rfl rfl (by assumption) | exact Cells.lP (by assumption) (by (repeat first | exact .refl _ _ | assumption | refine .trans ?_ (by assumption)); first | done | fail) _ rfl rfl rfl rfl | exact Cells.lP (by assumption) (by (repeat first | exact .refl _ _ | assumption | refine .trans ?_ (by assumption)); first | done | fail) _ rfl rfl (by assumption) (by assumption)))) ?_)
  first | (refine Wx.skip hq rfl rfl rfl rfl ?_) | (refine Wx.pure hq rfl rfl rfl rfl (rp_eqA_t rfl egKy rfl rfl (eqKy d1.key kP) hk1) ?_)
  refine Wx.pure hq rfl rfl rfl rfl (by first | exact rp_pick_t rfl rfl rfl | exact rp_pick_f rfl rfl rfl) ?_
  refine Wx.pure hq rfl rfl rfl rfl (rp_move rfl rfl) ?_
  first | (refine Wx.skip hq rfl rfl rfl rfl ?_) | (refine Wx.pure hq rfl rfl rfl rfl (by first | exact rp_fieldAddr2 rfl rfl rfl rfl | exact rp_fieldAddr rfl rfl rfl rfl) ?_)
  first | (refine Wx.skip hq rfl rfl rfl rfl ?_) | (refine Wx.val hq rfl rfl rfl rfl ([]) (rv_load rfl rfl (by (intro u hu; first | exact Cells.l1 (by assumption) (by (repeat first | exact .refl _ _ | assumption | refine .trans ?_ (by assumption)); first | done | fail) _ rfl rfl | exact Cells.l0 (by assumption) (by (repeat first | exact .refl _ _ | assumption | refine .trans ?_ (by assumption)); first | done | fail) rfl rfl))) ?_)
  first | (refine Wx.skip hq rfl rfl rfl rfl ?_) | (refine Wx.pure hq rfl rfl rfl rfl (rp_lenS rfl rfl rfl) ?_)
  first | (refine Wx.skip hq rfl rfl rfl rfl ?_) | (refine Wx.pure hq rfl rfl rfl rfl (by first | exact rp_bin rfl rfl rfl (binI_t (by omega)) | exact rp_bin rfl rfl rfl (binI_f (by omega)) | exact rp_bin rfl rfl rfl rfl) ?_)
  refine Wx.pure hq rfl rfl rfl rfl (by first | exact rp_pick_t rfl rfl rfl | exact rp_pick_f rfl rfl rfl) ?_
  refine Wx.pure hq rfl rfl rfl rfl (rp_move rfl rfl) ?_
  first | (refine Wx.skip hq rfl rfl rfl rfl ?_) | (refine Wx.val hq rfl rfl rfl rfl ([]) (rv_load rfl rfl (by (intro u hu; first | exact Cells.lA (by assumption) (by (repeat first | exact .refl _ _ | assumption | refine .trans ?_ (by assumption)); first | done | fail) rfl rfl | exact Cells.lL (by assumption) (by (repeat first | exact .refl _ _ | assumption | refine .trans ?_ (by assumption)); first | done | fail) rfl rfl (by assumption) | exact Cells.lP (by assumption) (by (repeat first | exact .refl _ _ | assumption | refine .trans ?_ (by assumption)); first | done | fail) _ rfl rfl rfl rfl | exact Cells.lP (by assumption) (by (repeat first | exact .refl _ _ | assumption | refine .trans ?_ (by assumption)); first | done | fail) _ rfl rfl (by assumption) (by assumption)))) ?_)
  first | (refine Wx.actSkip rfl rfl rfl rfl ?_) | (refine Wx.actNew rfl rfl rfl rfl (acts_call rfl rfl rfl (physical_at kA _)) ?_; rintro v12 w12 e12 rfl; have hz12 := e12.size; rw [decide_eq_true (show Phys kA from .inl ⟨rfl, rfl⟩)])
  refine Wx.pure hq rfl rfl rfl rfl (by first | exact rp_pick_t rfl rfl rfl | exact rp_pick_f rfl rfl rfl) ?_
  refine Wx.pure hq rfl rfl rfl rfl (rp_move rfl rfl) ?_
  first | (refine Wx.skip hq rfl rfl rfl rfl ?_) | (refine Wx.val hq rfl rfl rfl rfl ([]) (rv_load rfl rfl (by (intro u hu; first | exact Cells.lA (by assumption) (by (repeat first | exact .refl _ _ | assumption | refine .trans ?_ (by assumption)); first | done | fail) rfl rfl | exact Cells.lL (by assumption) (by (repeat first | exact .refl _ _ | assumption | refine .trans ?_ (by assumption)); first | done | fail) rfl rfl (by assumption) | exact Cells.lP (by assumption) (by (repeat first | exact .refl _ _ | assumption | refine .trans ?_ (by assumption)); first | done | fail) _ rfl rfl rfl rfl | exact Cells.lP (by assumption) (by (repeat first | exact .refl _ _ | assumption | refine .trans ?_ (by assumption)); first | done | fail) _ rfl rfl (by assumption) (by assumption)))) ?_)
  first | (refine Wx.actSkip rfl rfl rfl rfl ?_) | (refine Wx.actNew rfl rfl rfl rfl (acts_call rfl rfl rfl (physical_at kP _)) ?_; rintro v13 w13 e13 rfl; have hz13 := e13.size; rw [decide_eq_false (show ¬ Phys kP by decide)])
  first | (refine Wx.skip hq rfl rfl rfl rfl ?_) | (refine Wx.pure hq rfl rfl rfl rfl (rp_not rfl rfl) ?_)
  refine Wx.pure hq rfl rfl rfl rfl (by first | exact rp_pick_t rfl rfl rfl | exact rp_pick_f rfl rfl rfl) ?_
  refine Wx.pure hq rfl rfl rfl rfl (rp_move rfl rfl) ?_
  first | (refine Wx.skip hq rfl rfl rfl rfl ?_) | (refine Wx.val hq rfl rfl rfl rfl ([]) (rv_load rfl rfl (by (intro u hu; first | exact Cells.lA (by assumption) (by (repeat first | exact .refl _ _ | assumption | refine .trans ?_ (by assumption)); first | done | fail) rfl rfl | exact Cells.lL (by assumption) (by (repeat first | exact .refl _ _ | assumption | refine .trans ?_ (by assumption)); first | done | fail) rfl rfl (by assumption) | exact Cells.lP (by assumption) (by (repeat first | exact .refl _ _ | assumption | refine .trans ?_ (by assumption)); first | done | fail) _ rfl rfl rfl rfl | exact Cells.lP (by assumption) (by (repeat first | exact .refl _ _ | assumption | refine .trans ?_ (by assumption)); first | done | fail) _ rfl rfl (by assumption) (by assumption)))) ?_)
  first | (refine Wx.actSkip rfl rfl rfl rfl ?_) | (refine Wx.actNew rfl rfl rfl rfl (acts_call rfl rfl rfl (effect_at t7 [f1, f2, f3, f4, f5, f6] 5 5 p7 A7 c7 _ (hs7.ext0 (by (repeat first | exact .refl _ _ | assumption | refine .trans ?_ (by assumption)); first | done | fail)) (by decide))) ?_; rintro v14 w14 e14 ⟨dz, hdz, hv66⟩; have hz14 := e14.size; rw [m5] at hdz; obtain rfl : dz = [] := List.map_eq_nil_iff.1 hdz; obtain ⟨p66, c66, A66, rfl, hs66, _⟩ := SlV.of_own (l := ([] : List Df)) hv66 (by decide))
  first | (refine Wx.skip hq rfl rfl rfl rfl ?_) | (refine Wx.pure hq rfl rfl rfl rfl (rp_lenS rfl rfl rfl) ?_)
  first | (refine Wx.skip hq rfl rfl rfl rfl ?_) | (refine Wx.pure hq rfl rfl rfl rfl (by first | exact rp_bin rfl rfl rfl (binI_t (by omega)) | exact rp_bin rfl rfl rfl (binI_f (by omega)) | exact rp_bin rfl rfl rfl rfl) ?_)
  refine Wx.pure hq rfl rfl rfl rfl (by first | exact rp_pick_t rfl rfl rfl | exact rp_pick_f rfl rfl rfl) ?_
  refine Wx.pure hq rfl rfl rfl rfl (rp_move rfl rfl) ?_
  first | (refine Wx.skip hq rfl rfl rfl rfl ?_) | (refine Wx.val hq rfl rfl rfl rfl ([]) (rv_load rfl rfl (by (intro u hu; first | exact Cells.lA (by assumption) (by (repeat first | exact .refl _ _ | assumption | refine .trans ?_ (by assumption)); first | done | fail) rfl rfl | exact Cells.lL (by assumption) (by (repeat first | exact .refl _ _ | assumption | refine .trans ?_ (by assumption)); first | done | fail) rfl rfl (by assumption) | exact Cells.lP (by assumption) (by (repeat first | exact .refl _ _ | assumption | refine .trans ?_ (by assumption)); first | done | fail) _ rfl rfl rfl rfl | exact Cells.lP (by assumption) (by (repeat first | exact .refl _ _ | assumption | refine .trans ?_ (by assumption)); first | done | fail) _ rfl rfl (by assumption) (by assumption)))) ?_)
  first | (refine Wx.actSkip rfl rfl rfl rfl ?_) | (refine Wx.actNew rfl rfl rfl rfl (acts_call rfl rfl rfl (back_at Tb0 [f1] [] _ none _ ⟨0, 0, none⟩ 1 0 _ (hs.ext0 (by (repeat first | exact .refl _ _ | assumption | refine .trans ?_ (by assumption)); first | done | fail)) (SlV.nil cc _) (by decide))) ?_; rintro v15 w15 e15 hv72; have hz15 := e15.size; rw [m12] at hv72; obtain ⟨p72, c72, A72, rfl, hs72, _⟩ := SlV.of_own (l := ([] : List Cr)) hv72 (by decide))
  first | (refine Wx.skip hq rfl rfl rfl rfl ?_) | (refine Wx.pure hq rfl rfl rfl rfl (rp_lenS rfl rfl rfl) ?_)
  first | (refine Wx.skip hq rfl rfl rfl rfl ?_) | (refine Wx.pure hq rfl rfl rfl rfl (by first | exact rp_bin rfl rfl rfl (binI_t (by omega)) | exact rp_bin rfl rfl rfl (binI_f (by omega)) | exact rp_bin rfl rfl rfl rfl) ?_)
  refine Wx.pure hq rfl rfl rfl rfl (by first | exact rp_pick_t rfl rfl rfl | exact rp_pick_f rfl rfl rfl) ?_
  refine Wx.pure hq rfl rfl rfl rfl (rp_assign rfl rfl) ?_
  refine Wx.nil ?_
  (repeat first | refine thenE_normal ?_ | refine blockE_normal ?_ | refine scopeE_normal ?_)
  (repeat refine Sx.seq ?_); refine Sx.ret ?_
  (repeat first | refine thenE_ret ?_ | refine blockE_ret ?_ | refine scopeE_ret ?_)
  exact endE_ret [_] ⟨rfl, trivial⟩ ⟨by (repeat first | exact .refl _ _ | assumption | refine .trans ?_ (by assumption)); first | done | fail, rfl⟩

end Go.Proofs.Ytfnekbnlokigcaa
