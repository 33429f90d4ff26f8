/- The facts' law: the examples. -/
import Derived.Test.YtjneaeghloffnaaRows
import Derived.Test.YtjneaeghloffnaaFactS
set_option linter.unusedVariables false
set_option maxRecDepth 100000
set_option maxHeartbeats 4000000
set_option linter.unusedSimpArgs false
namespace Go.Proofs.Ytjneaeghloffnaa
open Go Go.Eng

theorem grade_at (v a b kn no : Int) (w : World) : Calls Try.prog 31 #[.int .i64 v, .int .i64 a, .int .i64 b, .int .i64 kn, .int .i64 no] w (Ret fun r w' => Ext [] w w' ∧ r = .agg (fc ⟨⟨3, 4, 9⟩, v, a, b, kn, no⟩).toArray) := by
  refine calls_of_Sx (args := [.int .i64 v, .int .i64 a, .int .i64 b, .int .i64 kn, .int .i64 no]) Try.func31 rfl rfl ?_
  (repeat refine Sx.seq ?_)
  refine Sx.textR ?_
  refine Ox.act rfl rfl (acts_alloc rfl rfl) ?_
  rintro val wal ⟨eal, bal, rfl, hbal, hBal⟩
  first | (have hCal : Cells wal ⟨bal, 0, none⟩ [_, _, _, _, _, _, _, _] := hBal.cells) | have hCal := Blk.cellsL hBal
  have hlal := hBal.lt
  have hzal := eal.size
  refine Ox.nil ?_
  (repeat first | refine thenE_normal ?_ | refine blockE_normal ?_ | refine scopeE_normal ?_)
  (repeat refine Sx.seq ?_)
  refine Sx.textR ?_
  refine Ox.pure rfl rfl (rp_buildS (ps := [(0, .const _), (1, .const _), (2, .const _)]) rfl rfl rfl rfl rfl) ?_
  refine Ox.pure rfl rfl (rp_move rfl rfl) ?_
  refine Ox.pure rfl rfl (rp_move rfl rfl) ?_
  refine Ox.pure rfl rfl (rp_move rfl rfl) ?_
  refine Ox.pure rfl rfl (rp_buildS (ps := [(0, .tmp 13), (1, .tmp 14)]) rfl rfl rfl rfl rfl) ?_
  refine Ox.pure rfl rfl (rp_move rfl rfl) ?_
  refine Ox.pure rfl rfl (rp_move rfl rfl) ?_
  refine Ox.pure rfl rfl (rp_buildS (ps := [(0, .tmp 11), (1, .tmp 12), (2, .tmp 15), (3, .tmp 16), (4, .tmp 17)]) rfl rfl rfl rfl rfl) ?_
  refine Ox.act rfl rfl (acts_store_all rfl rfl rfl (hBal.ext (X := []) (by (repeat first | exact .refl _ _ | assumption | refine .trans ?_ (by assumption)); first | done | fail) (by simp)) rfl rfl rfl (by (first | assumption | exact List.all_eq_true.mp rfl | simp [Value.cells, Value.oneCell']))) ?_
  rintro vst wst ⟨rfl, qst, hBst⟩
  refine Ox.nil ?_
  (repeat first | refine thenE_normal ?_ | refine blockE_normal ?_ | refine scopeE_normal ?_)
  (repeat refine Sx.seq ?_); refine Sx.ret ?_
  (repeat first | refine thenE_ret ?_ | refine blockE_ret ?_ | refine scopeE_ret ?_)
  have hC : Cells wst ⟨bal, 0, none⟩ (fc ⟨⟨3, 4, 9⟩, v, a, b, kn, no⟩) := hBst.cells
  exact endE_ret [.agg (fc ⟨⟨3, 4, 9⟩, v, a, b, kn, no⟩).toArray] ⟨⟨⟨bal, 0, none⟩, rfl, hC.ldA rfl rfl⟩, trivial⟩ ⟨Ext.join (X := []) (by (repeat first | exact .refl _ _ | assumption | refine .trans ?_ (by assumption)); first | done | fail) qst (fun y hy => .inr (by simp only [List.mem_singleton] at hy; omega)), rfl⟩

abbrev k0 : Ky := ⟨3, 4, 9⟩
abbrev g1 : Fct := ⟨⟨3, 4, 9⟩, 7, 2, 6, 10, 0⟩
abbrev g2 : Fct := ⟨⟨3, 4, 9⟩, -1, 3, 4, 20, 0⟩
abbrev g3 : Fct := ⟨⟨3, 4, 9⟩, 7, 2, 6, 20, 0⟩
theorem n1 : atL [g1, g2] k0 3 15 = (7, true) := by decide +kernel
theorem n2 : atL [g1, g2] k0 3 20 = (0, false) := by decide +kernel
theorem n3 : atL [g1, g2] k0 2 20 = (7, true) := by decide +kernel
theorem n4 : atL [] k0 0 0 = (0, false) := by decide +kernel
theorem n5 : addL [g1] g2 = ([g1, g2], 0) := by decide +kernel
theorem n6 : (addL [g1, g2] g3).2 = 41 := by decide +kernel
theorem n7 : changedL [g1, g2] 15 20 = [(k0, [(3, 4)])] := by decide +kernel
theorem n8 : checkL [zF] = 40 := by decide +kernel
theorem n9 : checkL [g1, g2] = 0 := by decide +kernel
theorem n10 : (pointsL [g1, g2] k0 5 5 20).length = 0 := by decide +kernel
theorem n11 : alikeL [g1, g2] [] 1 2 = true := by decide +kernel
theorem n12 : alikeL [g1, g2] [⟨k0, 0, 9⟩] 15 20 = false := by decide +kernel
theorem n13 : (pointsL [g1, g2] k0 0 9 20).length = 3 := by decide +kernel
theorem n14 : uptoL [g1, g2] 19 = [g1] := by decide +kernel

theorem sane_at (w : World) : Calls Try.prog 11 #[] w (Ret fun r w' => Ext [] w w' ∧ r = .bool true) := by
  refine calls_of_Sx (args := []) Try.func11 rfl rfl ?_
  (repeat refine Sx.seq ?_)
  refine Sx.textR ?_
  refine Ox.pure rfl rfl (rp_assign rfl rfl) ?_
  refine Ox.nil ?_
  (repeat first | refine thenE_normal ?_ | refine blockE_normal ?_ | refine scopeE_normal ?_)
  (repeat refine Sx.seq ?_)
  refine Sx.textR ?_
  refine Ox.act rfl rfl (acts_call rfl rfl rfl (grade_at 7 2 6 10 0 _)) ?_
  rintro v1 w1 ⟨e1, rfl⟩
  have hz1 := e1.size
  refine Ox.act rfl rfl (acts_call rfl rfl rfl (grade_at (-1) 3 4 20 0 _)) ?_
  rintro v2 w2 ⟨e2, rfl⟩
  have hz2 := e2.size
  refine Ox.act rfl rfl (acts_buildSlice (ps := [(0, .tmp 16), (1, .tmp 17)]) rfl rfl rfl rfl rfl rfl rfl rfl) ?_
  rintro vls wls ⟨els, bls, rfl, hbls, hBls⟩
  first | (have hCls : Cells wls ⟨bls, 0, none⟩ [_, _, _, _, _, _, _, _, _, _, _, _, _, _, _, _] := hBls.cells) | have hCls := Blk.cellsL hBls
  have hlls := hBls.lt
  have hzls := els.size
  refine Ox.pure rfl rfl (rp_assign rfl rfl) ?_
  refine Ox.nil ?_
  (repeat first | refine thenE_normal ?_ | refine blockE_normal ?_ | refine scopeE_normal ?_)
  have hs : SlV fc wls (some ⟨bls, 0, none⟩) ⟨bls, 0, none⟩ [g1, g2] 2 := ⟨fun _ => rfl, hCls, by simp, by simp, by simp⟩
  have hs1 : SlV fc wls (some ((⟨bls, 0, none⟩ : Addr).add (0 * 8))) ((⟨bls, 0, none⟩ : Addr).add (0 * 8)) [g1] 2 := ⟨fun _ => rfl, hs.row.part (off := 0 * 8) (m := 8) (cs' := rowsV fc [g1]) rfl, by simp, by simp, by simp⟩
  have hL7 : ∀ u, Ext [] wls u → Ld Try.prog u 28 ((⟨bls, 0, none⟩ : Addr).add (1 * 8)) (.agg (fc g2).toArray) := fun u hu => ld_elem (l := [g1, g2]) (i := 1) fc_len (hs.row.ext0 hu) (by decide) rfl rfl
  have hp0 : 0 < 2 → (some (⟨bls, 0, none⟩ : Addr)) = some ⟨bls, 0, none⟩ := fun _ => rfl
  (repeat refine Sx.seq ?_)
  refine Sx.textR ?_
  refine Ox.pure rfl rfl (rp_move rfl rfl) ?_
  refine Ox.pure rfl rfl (rp_indexAddr 0 rfl rfl rfl rfl rfl hp0 rfl (by decide)) ?_
  refine Ox.pure rfl rfl (by first | exact rp_fieldAddr2 rfl rfl rfl rfl | exact rp_fieldAddr rfl rfl rfl rfl) ?_
  refine Ox.val rfl rfl (rv_load rfl rfl (fun u hu => ld_sub (enc := fc) (sub := kc k0) (i := 0) (l := [g1, g2]) fc_len (hs.row.ext0 (by (repeat first | exact .refl _ _ | assumption | refine .trans ?_ (by assumption)); first | done | fail)) (by decide) 0 rfl rfl (by decide) rfl)) ?_
  refine Ox.act rfl rfl (acts_alloc rfl rfl) ?_
  rintro val wal ⟨eal, bal, rfl, hbal, hBal⟩
  first | (have hCal : Cells wal ⟨bal, 0, none⟩ [_, _, _] := hBal.cells) | have hCal := Blk.cellsL hBal
  have hlal := hBal.lt
  have hzal := eal.size
  refine Ox.act rfl rfl (acts_store_all rfl rfl rfl hBal rfl (by first | rfl | assumption) (by first | rfl | assumption) (by (first | assumption | exact List.all_eq_true.mp rfl | simp [Value.cells, Value.oneCell']))) ?_
  rintro vst wst ⟨rfl, qst, hBst⟩
  have est := Ext.renew eal qst hbal
  have hzst := est.size
  have hlst := hBst.lt
  first | (have hCst : Cells wst ⟨bal, 0, none⟩ [_, _, _] := hBst.cells) | have hCst := Blk.cellsL hBst
  refine Ox.nil ?_
  (repeat first | refine thenE_normal ?_ | refine blockE_normal ?_ | refine scopeE_normal ?_)
  (repeat refine Sx.seq ?_)
  refine Sx.textR ?_
  refine Ox.pure rfl rfl (rp_move rfl rfl) ?_
  refine Ox.val rfl rfl (rv_load rfl rfl (by (intro u hu; first | exact Cells.lA (by assumption) (by (repeat first | exact .refl _ _ | assumption | refine .trans ?_ (by assumption)); first | done | fail) rfl rfl | exact Cells.lL (by assumption) (by (repeat first | exact .refl _ _ | assumption | refine .trans ?_ (by assumption)); first | done | fail) rfl rfl (by assumption) | exact Cells.lP (by assumption) (by (repeat first | exact .refl _ _ | assumption | refine .trans ?_ (by assumption)); first | done | fail) _ rfl rfl rfl rfl | exact Cells.lP (by assumption) (by (repeat first | exact .refl _ _ | assumption | refine .trans ?_ (by assumption)); first | done | fail) _ rfl rfl (by assumption) (by assumption)))) ?_
  refine Ox.act rfl rfl (acts_call rfl rfl rfl (at_at [g1, g2] k0 3 15 _ _ 2 _ (hs.ext0 (by (repeat first | exact .refl _ _ | assumption | refine .trans ?_ (by assumption)); first | done | fail)))) ?_
  rintro v3 w3 ⟨e3, rfl⟩
  have hz3 := e3.size
  rw [n1]
  refine Ox.pure rfl rfl (rp_move rfl rfl) ?_
  refine Ox.pure rfl rfl (rp_extract rfl rfl rfl) ?_
  refine Ox.pure rfl rfl (rp_extract rfl rfl rfl) ?_
  refine Ox.pure rfl rfl (rp_assign rfl rfl) ?_
  refine Ox.pure rfl rfl (rp_assign rfl rfl) ?_
  refine Ox.nil ?_
  (repeat first | refine thenE_normal ?_ | refine blockE_normal ?_ | refine scopeE_normal ?_)
  (repeat refine Sx.seq ?_)
  refine Sx.textR ?_
  refine Ox.pure rfl rfl (rp_move rfl rfl) ?_
  refine Ox.val rfl rfl (rv_load rfl rfl (by (intro u hu; first | exact Cells.lA (by assumption) (by (repeat first | exact .refl _ _ | assumption | refine .trans ?_ (by assumption)); first | done | fail) rfl rfl | exact Cells.lL (by assumption) (by (repeat first | exact .refl _ _ | assumption | refine .trans ?_ (by assumption)); first | done | fail) rfl rfl (by assumption) | exact Cells.lP (by assumption) (by (repeat first | exact .refl _ _ | assumption | refine .trans ?_ (by assumption)); first | done | fail) _ rfl rfl rfl rfl | exact Cells.lP (by assumption) (by (repeat first | exact .refl _ _ | assumption | refine .trans ?_ (by assumption)); first | done | fail) _ rfl rfl (by assumption) (by assumption)))) ?_
  refine Ox.act rfl rfl (acts_call rfl rfl rfl (at_at [g1, g2] k0 3 20 _ _ 2 _ (hs.ext0 (by (repeat first | exact .refl _ _ | assumption | refine .trans ?_ (by assumption)); first | done | fail)))) ?_
  rintro v4 w4 ⟨e4, rfl⟩
  have hz4 := e4.size
  rw [n2]
  refine Ox.pure rfl rfl (rp_move rfl rfl) ?_
  refine Ox.pure rfl rfl (rp_extract rfl rfl rfl) ?_
  refine Ox.pure rfl rfl (rp_extract rfl rfl rfl) ?_
  refine Ox.pure rfl rfl (rp_assign rfl rfl) ?_
  refine Ox.pure rfl rfl (rp_assign rfl rfl) ?_
  refine Ox.nil ?_
  (repeat first | refine thenE_normal ?_ | refine blockE_normal ?_ | refine scopeE_normal ?_)
  (repeat refine Sx.seq ?_)
  refine Sx.textR ?_
  refine Ox.pure rfl rfl (rp_move rfl rfl) ?_
  refine Ox.val rfl rfl (rv_load rfl rfl (by (intro u hu; first | exact Cells.lA (by assumption) (by (repeat first | exact .refl _ _ | assumption | refine .trans ?_ (by assumption)); first | done | fail) rfl rfl | exact Cells.lL (by assumption) (by (repeat first | exact .refl _ _ | assumption | refine .trans ?_ (by assumption)); first | done | fail) rfl rfl (by assumption) | exact Cells.lP (by assumption) (by (repeat first | exact .refl _ _ | assumption | refine .trans ?_ (by assumption)); first | done | fail) _ rfl rfl rfl rfl | exact Cells.lP (by assumption) (by (repeat first | exact .refl _ _ | assumption | refine .trans ?_ (by assumption)); first | done | fail) _ rfl rfl (by assumption) (by assumption)))) ?_
  refine Ox.act rfl rfl (acts_call rfl rfl rfl (at_at [g1, g2] k0 2 20 _ _ 2 _ (hs.ext0 (by (repeat first | exact .refl _ _ | assumption | refine .trans ?_ (by assumption)); first | done | fail)))) ?_
  rintro v5 w5 ⟨e5, rfl⟩
  have hz5 := e5.size
  rw [n3]
  refine Ox.pure rfl rfl (rp_move rfl rfl) ?_
  refine Ox.pure rfl rfl (rp_extract rfl rfl rfl) ?_
  refine Ox.pure rfl rfl (rp_extract rfl rfl rfl) ?_
  refine Ox.pure rfl rfl (rp_assign rfl rfl) ?_
  refine Ox.pure rfl rfl (rp_assign rfl rfl) ?_
  refine Ox.nil ?_
  (repeat first | refine thenE_normal ?_ | refine blockE_normal ?_ | refine scopeE_normal ?_)
  (repeat refine Sx.seq ?_)
  refine Sx.textR ?_
  refine Ox.val rfl rfl (rv_load rfl rfl (by (intro u hu; first | exact Cells.lA (by assumption) (by (repeat first | exact .refl _ _ | assumption | refine .trans ?_ (by assumption)); first | done | fail) rfl rfl | exact Cells.lL (by assumption) (by (repeat first | exact .refl _ _ | assumption | refine .trans ?_ (by assumption)); first | done | fail) rfl rfl (by assumption) | exact Cells.lP (by assumption) (by (repeat first | exact .refl _ _ | assumption | refine .trans ?_ (by assumption)); first | done | fail) _ rfl rfl rfl rfl | exact Cells.lP (by assumption) (by (repeat first | exact .refl _ _ | assumption | refine .trans ?_ (by assumption)); first | done | fail) _ rfl rfl (by assumption) (by assumption)))) ?_
  refine Ox.act rfl rfl (acts_call rfl rfl rfl (at_at [] k0 0 0 none ⟨0, 0, none⟩ 0 _ (SlV.nil fc _))) ?_
  rintro v6 w6 ⟨e6, rfl⟩
  have hz6 := e6.size
  rw [n4]
  refine Ox.pure rfl rfl (rp_move rfl rfl) ?_
  refine Ox.pure rfl rfl (rp_extract rfl rfl rfl) ?_
  refine Ox.pure rfl rfl (rp_extract rfl rfl rfl) ?_
  refine Ox.pure rfl rfl (rp_assign rfl rfl) ?_
  refine Ox.pure rfl rfl (rp_assign rfl rfl) ?_
  refine Ox.nil ?_
  (repeat first | refine thenE_normal ?_ | refine blockE_normal ?_ | refine scopeE_normal ?_)
  (repeat refine Sx.seq ?_)
  refine Sx.walkR rfl (fun _ _ _ _ h => h) [0, 1, 2, 3, 4, 5, 6, 7, 8, 9, 10] [0, 1, 2, 3, 4, 6, 7, 8, 9, 10] (0) (by kernel_rfl) ?_
  intro hq w7 e7; have hz7 := e7.size
  refine Wx.pure hq rfl rfl rfl rfl (rp_move rfl rfl) ?_
  refine Wx.pure hq rfl rfl rfl rfl (rp_sliceS 0 1 rfl rfl rfl rfl rfl rfl (.inl ⟨rfl, rfl⟩) (.inr ⟨_, rfl⟩) (by decide) (by decide)) ?_
  refine Wx.pure hq rfl rfl rfl rfl (rp_move rfl rfl) ?_
  refine Wx.pure hq rfl rfl rfl rfl (rp_indexAddr 1 rfl rfl rfl rfl rfl hp0 rfl (by decide)) ?_
  refine Wx.val hq rfl rfl rfl rfl ([]) (rv_load rfl rfl (fun u hu => hL7 u (by (repeat first | exact .refl _ _ | assumption | refine .trans ?_ (by assumption)); first | done | fail))) ?_
  refine Wx.actNew rfl rfl rfl rfl (acts_call rfl rfl rfl (add_at [g1] g2 _ _ 2 _ (hs1.ext0 (by (repeat first | exact .refl _ _ | assumption | refine .trans ?_ (by assumption)); first | done | fail)) (by decide))) ?_
  rintro v8 w8 e8 ⟨v11, rfl, hv11⟩
  have hz8 := e8.size
  rw [n5] at hv11 ⊢
  obtain ⟨p11, c11, A11, rfl, hs11, _⟩ := OwnF.sl (l := [g1, g2]) hv11 (by decide)
  refine Wx.pure hq rfl rfl rfl rfl (rp_move rfl rfl) ?_
  refine Wx.pure hq rfl rfl rfl rfl (rp_extract rfl rfl rfl) ?_
  refine Wx.pure hq rfl rfl rfl rfl (rp_extract rfl rfl rfl) ?_
  refine Wx.pure hq rfl rfl rfl rfl (rp_assign rfl rfl) ?_
  refine Wx.pure hq rfl rfl rfl rfl (rp_assign rfl rfl) ?_
  refine Wx.nil ?_
  (repeat first | refine thenE_normal ?_ | refine blockE_normal ?_ | refine scopeE_normal ?_)
  (repeat refine Sx.seq ?_)
  refine Sx.textR ?_
  refine Ox.pure rfl rfl (rp_move rfl rfl) ?_
  refine Ox.act rfl rfl (acts_call rfl rfl rfl (grade_at 7 2 6 20 0 _)) ?_
  rintro v9 w9 ⟨e9, rfl⟩
  have hz9 := e9.size
  refine Ox.act rfl rfl (acts_call rfl rfl rfl (add_at [g1, g2] g3 _ _ 2 _ (hs.ext0 (by (repeat first | exact .refl _ _ | assumption | refine .trans ?_ (by assumption)); first | done | fail)) (by decide))) ?_
  rintro v10 w10 ⟨e10, v13, rfl, hv13⟩
  have hz10 := e10.size
  rw [n6]
  refine Ox.pure rfl rfl (rp_move rfl rfl) ?_
  refine Ox.pure rfl rfl (rp_extract rfl rfl rfl) ?_
  refine Ox.pure rfl rfl (rp_extract rfl rfl rfl) ?_
  refine Ox.pure rfl rfl (rp_assign rfl rfl) ?_
  refine Ox.pure rfl rfl (rp_assign rfl rfl) ?_
  refine Ox.nil ?_
  (repeat first | refine thenE_normal ?_ | refine blockE_normal ?_ | refine scopeE_normal ?_)
  (repeat refine Sx.seq ?_)
  refine Sx.textR ?_
  refine Ox.pure rfl rfl (rp_move rfl rfl) ?_
  refine Ox.act rfl rfl (acts_call rfl rfl rfl (changed_at [g1, g2] 15 20 _ _ 2 _ (hs.ext0 (by (repeat first | exact .refl _ _ | assumption | refine .trans ?_ (by assumption)); first | done | fail)) (by decide))) ?_
  rintro v11 w11 ⟨e11, ds, hds, hdl, hO⟩
  have hz11 := e11.size
  rw [n7] at hds
  obtain ⟨pd, cd, Ad, rfl, hsd, hdi⟩ := OwnD.sl hO (by simp at hdl; omega) (fun d hd => by have h9 : d.val ∈ ds.map Df.val := List.mem_map.2 ⟨d, hd, rfl⟩; rw [hds] at h9; simp only [List.mem_singleton] at h9; have := congrArg (fun x : Dv => x.2.length) h9; simp only [Df.val, List.length_cons, List.length_nil] at this; omega)
  refine Ox.pure rfl rfl (rp_assign rfl rfl) ?_
  refine Ox.nil ?_
  (repeat first | refine thenE_normal ?_ | refine blockE_normal ?_ | refine scopeE_normal ?_)
  (repeat refine Sx.seq ?_)
  refine Sx.textR ?_
  refine Ox.pure rfl rfl (rp_move rfl rfl) ?_
  refine Ox.pure rfl rfl (by first | exact rp_bin rfl rfl rfl (binI_t (by omega)) | exact rp_bin rfl rfl rfl (binI_f (by omega)) | exact rp_bin rfl rfl rfl rfl) ?_
  refine Ox.pure rfl rfl (rp_move rfl rfl) ?_
  first | (refine Ox.skip rfl rfl ?_) | (refine Ox.pure rfl rfl (rp_move rfl rfl) ?_)
  first | (refine Ox.skip rfl rfl ?_) | (refine Ox.pure rfl rfl (by first | exact rp_bin rfl rfl rfl (binI_t (by omega)) | exact rp_bin rfl rfl rfl (binI_f (by omega)) | exact rp_bin rfl rfl rfl rfl) ?_)
  refine Ox.pure rfl rfl (by first | exact rp_pick_t rfl rfl rfl | exact rp_pick_f rfl rfl rfl) ?_
  refine Ox.pure rfl rfl (rp_move rfl rfl) ?_
  first | (refine Ox.skip rfl rfl ?_) | (refine Ox.pure rfl rfl (rp_buildS (ps := []) rfl rfl rfl rfl rfl) ?_)
  first | (refine Ox.skip rfl rfl ?_) | (refine Ox.act rfl rfl (acts_buildSlice (ps := [(0, .tmp 70)]) rfl rfl rfl rfl rfl rfl rfl rfl) ?_; rintro vzs wzs ⟨ezs, bzs, rfl, hbzs, hBzs⟩; first | (have hCzs : Cells wzs ⟨bzs, 0, none⟩ [_, _, _, _, _, _, _, _] := hBzs.cells) | have hCzs := Blk.cellsL hBzs; have hlzs := hBzs.lt; have hzzs := ezs.size)
  first | (refine Ox.skip rfl rfl ?_) | (refine Ox.act rfl rfl (acts_call rfl rfl rfl (check_at [zF] (some ⟨bzs, 0, none⟩) ⟨bzs, 0, none⟩ 1 _ ⟨fun _ => rfl, hCzs, by simp, by simp, by simp⟩)) ?_; rintro v12 w12 ⟨e12, rfl⟩; have hz12 := e12.size; rw [n8])
  first | (refine Ox.skip rfl rfl ?_) | (refine Ox.pure rfl rfl (by first | exact rp_bin rfl rfl rfl (binI_t (by omega)) | exact rp_bin rfl rfl rfl (binI_f (by omega)) | exact rp_bin rfl rfl rfl rfl) ?_)
  refine Ox.pure rfl rfl (by first | exact rp_pick_t rfl rfl rfl | exact rp_pick_f rfl rfl rfl) ?_
  refine Ox.pure rfl rfl (rp_move rfl rfl) ?_
  first | (refine Ox.skip rfl rfl ?_) | (refine Ox.pure rfl rfl (rp_move rfl rfl) ?_)
  first | (refine Ox.skip rfl rfl ?_) | (refine Ox.act rfl rfl (acts_call rfl rfl rfl (check_at [g1, g2] _ _ 2 _ (hs.ext0 (by (repeat first | exact .refl _ _ | assumption | refine .trans ?_ (by assumption)); first | done | fail)))) ?_; rintro v13 w13 ⟨e13, rfl⟩; have hz13 := e13.size; rw [n9])
  first | (refine Ox.skip rfl rfl ?_) | (refine Ox.pure rfl rfl (by first | exact rp_bin rfl rfl rfl (binI_t (by omega)) | exact rp_bin rfl rfl rfl (binI_f (by omega)) | exact rp_bin rfl rfl rfl rfl) ?_)
  refine Ox.pure rfl rfl (by first | exact rp_pick_t rfl rfl rfl | exact rp_pick_f rfl rfl rfl) ?_
  refine Ox.pure rfl rfl (rp_move rfl rfl) ?_
  first | (refine Ox.skip rfl rfl ?_) | (refine Ox.pure rfl rfl (rp_move rfl rfl) ?_)
  first | (refine Ox.skip rfl rfl ?_) | (refine Ox.val rfl rfl (rv_load rfl rfl (by (intro u hu; first | exact Cells.lA (by assumption) (by (repeat first | exact .refl _ _ | assumption | refine .trans ?_ (by assumption)); first | done | fail) rfl rfl | exact Cells.lL (by assumption) (by (repeat first | exact .refl _ _ | assumption | refine .trans ?_ (by assumption)); first | done | fail) rfl rfl (by assumption) | exact Cells.lP (by assumption) (by (repeat first | exact .refl _ _ | assumption | refine .trans ?_ (by assumption)); first | done | fail) _ rfl rfl rfl rfl | exact Cells.lP (by assumption) (by (repeat first | exact .refl _ _ | assumption | refine .trans ?_ (by assumption)); first | done | fail) _ rfl rfl (by assumption) (by assumption)))) ?_)
  first | (refine Ox.skip rfl rfl ?_) | (refine Ox.act rfl rfl (acts_call rfl rfl rfl (points_at [g1, g2] k0 5 5 20 _ _ 2 _ (hs.ext0 (by (repeat first | exact .refl _ _ | assumption | refine .trans ?_ (by assumption)); first | done | fail)))) ?_; rintro v14 w14 ⟨e14, hp20⟩; have hz14 := e14.size; obtain ⟨p20, c20, A20, rfl, hs20, _⟩ := OwnP.sl hp20 (by rw [n10]; omega); rw [n10])
  first | (refine Ox.skip rfl rfl ?_) | (refine Ox.pure rfl rfl (rp_lenS rfl rfl rfl) ?_)
  first | (refine Ox.skip rfl rfl ?_) | (refine Ox.pure rfl rfl (by first | exact rp_bin rfl rfl rfl (binI_t (by omega)) | exact rp_bin rfl rfl rfl (binI_f (by omega)) | exact rp_bin rfl rfl rfl rfl) ?_)
  refine Ox.pure rfl rfl (by first | exact rp_pick_t rfl rfl rfl | exact rp_pick_f rfl rfl rfl) ?_
  refine Ox.nil ?_
  (repeat first | refine thenE_normal ?_ | refine blockE_normal ?_ | refine scopeE_normal ?_)
  (repeat refine Sx.seq ?_); first | refine Sx.cond_false rfl ?_ | refine Sx.cond rfl (fun h => absurd h (by simp [*])) (fun _ => ?_)
  (repeat refine Sx.seq ?_); refine Sx.skip ?_
  (repeat first | refine thenE_normal ?_ | refine blockE_normal ?_ | refine scopeE_normal ?_)
  (repeat refine Sx.seq ?_)
  refine Sx.walkR rfl (fun _ _ _ _ h => h) [0, 1, 2, 3, 4, 5, 6, 7, 8, 9, 10, 11, 12, 13, 14, 15, 16, 17, 18, 19, 20, 21, 22, 23, 24, 25, 26, 27, 28, 29, 30, 31, 32, 33, 34, 35, 36, 37, 38, 39, 40, 41, 42, 43, 44, 45, 46, 47, 48, 49, 50, 51, 52, 53, 54, 56, 57, 55, 58, 59, 60] [0, 1, 2, 3, 4, 5, 6, 7, 8, 9, 10, 11, 12, 13, 14, 15, 16, 17, 18, 19, 20, 21, 22, 24, 25, 26, 27, 28, 30, 33, 34, 35, 37, 38, 39, 40, 41, 44, 45, 46, 47, 48, 50, 51, 52, 53, 54, 56, 57, 59, 60] (0) (by kernel_rfl) ?_
  intro hq w15 e15; have hz15 := e15.size
  refine Wx.pure hq rfl rfl rfl rfl (rp_move rfl rfl) ?_
  refine Wx.pure hq rfl rfl rfl rfl (by first | exact rp_bin rfl rfl rfl (binI_t (by omega)) | exact rp_bin rfl rfl rfl (binI_f (by omega)) | exact rp_bin rfl rfl rfl rfl) ?_
  refine Wx.pure hq rfl rfl rfl rfl (rp_move rfl rfl) ?_
  first | (refine Wx.skip hq rfl rfl rfl rfl ?_) | (refine Wx.pure hq rfl rfl rfl rfl (rp_move rfl rfl) ?_)
  refine Wx.pure hq rfl rfl rfl rfl (by first | exact rp_pick_t rfl rfl rfl | exact rp_pick_f rfl rfl rfl) ?_
  refine Wx.pure hq rfl rfl rfl rfl (rp_move rfl rfl) ?_
  first | (refine Wx.skip hq rfl rfl rfl rfl ?_) | (refine Wx.pure hq rfl rfl rfl rfl (rp_move rfl rfl) ?_)
  first | (refine Wx.skip hq rfl rfl rfl rfl ?_) | (refine Wx.pure hq rfl rfl rfl rfl (rp_not rfl rfl) ?_)
  refine Wx.pure hq rfl rfl rfl rfl (by first | exact rp_pick_t rfl rfl rfl | exact rp_pick_f rfl rfl rfl) ?_
  refine Wx.pure hq rfl rfl rfl rfl (rp_move rfl rfl) ?_
  first | (refine Wx.skip hq rfl rfl rfl rfl ?_) | (refine Wx.pure hq rfl rfl rfl rfl (rp_move rfl rfl) ?_)
  first | (refine Wx.skip hq rfl rfl rfl rfl ?_) | (refine Wx.pure hq rfl rfl rfl rfl (by first | exact rp_bin rfl rfl rfl (binI_t (by omega)) | exact rp_bin rfl rfl rfl (binI_f (by omega)) | exact rp_bin rfl rfl rfl rfl) ?_)
  refine Wx.pure hq rfl rfl rfl rfl (by first | exact rp_pick_t rfl rfl rfl | exact rp_pick_f rfl rfl rfl) ?_
  refine Wx.pure hq rfl rfl rfl rfl (rp_move rfl rfl) ?_
  first | (refine Wx.skip hq rfl rfl rfl rfl ?_) | (refine Wx.pure hq rfl rfl rfl rfl (rp_move rfl rfl) ?_)
  refine Wx.pure hq rfl rfl rfl rfl (by first | exact rp_pick_t rfl rfl rfl | exact rp_pick_f rfl rfl rfl) ?_
  refine Wx.pure hq rfl rfl rfl rfl (rp_move rfl rfl) ?_
  first | (refine Wx.skip hq rfl rfl rfl rfl ?_) | (refine Wx.pure hq rfl rfl rfl rfl (rp_move rfl rfl) ?_)
  first | (refine Wx.skip hq rfl rfl rfl rfl ?_) | (refine Wx.pure hq rfl rfl rfl rfl (rp_not rfl rfl) ?_)
  refine Wx.pure hq rfl rfl rfl rfl (by first | exact rp_pick_t rfl rfl rfl | exact rp_pick_f rfl rfl rfl) ?_
  refine Wx.pure hq rfl rfl rfl rfl (rp_move rfl rfl) ?_
  first | (refine Wx.skip hq rfl rfl rfl rfl ?_) | (refine Wx.pure hq rfl rfl rfl rfl (rp_move rfl rfl) ?_)
  first | (refine Wx.skip hq rfl rfl rfl rfl ?_) | (refine Wx.pure hq rfl rfl rfl rfl (rp_move rfl rfl) ?_)
  first | (refine Wx.actSkip rfl rfl rfl rfl ?_) | (refine Wx.actNew rfl rfl rfl rfl (acts_call rfl rfl rfl (ref_Same [g1, g2] [g1, g2] p11 _ A11 _ c11 2 _ (hs11.ext0 (by (repeat first | exact .refl _ _ | assumption | refine .trans ?_ (by assumption)); first | done | fail)) (hs.ext0 (by (repeat first | exact .refl _ _ | assumption | refine .trans ?_ (by assumption)); first | done | fail)))) ?_; rintro v16 w16 e16 rfl; have hz16 := e16.size; rw [decide_eq_true (show [g1, g2] = [g1, g2] from rfl)])
  refine Wx.pure hq rfl rfl rfl rfl (by first | exact rp_pick_t rfl rfl rfl | exact rp_pick_f rfl rfl rfl) ?_
  refine Wx.pure hq rfl rfl rfl rfl (rp_move rfl rfl) ?_
  first | (refine Wx.skip hq rfl rfl rfl rfl ?_) | (refine Wx.pure hq rfl rfl rfl rfl (rp_move rfl rfl) ?_)
  first | (refine Wx.skip hq rfl rfl rfl rfl ?_) | (refine Wx.val hq rfl rfl rfl rfl ([]) (rv_load rfl rfl (by (intro u hu; first | exact Cells.lA (by assumption) (by (repeat first | exact .refl _ _ | assumption | refine .trans ?_ (by assumption)); first | done | fail) rfl rfl | exact Cells.lL (by assumption) (by (repeat first | exact .refl _ _ | assumption | refine .trans ?_ (by assumption)); first | done | fail) rfl rfl (by assumption) | exact Cells.lP (by assumption) (by (repeat first | exact .refl _ _ | assumption | refine .trans ?_ (by assumption)); first | done | fail) _ rfl rfl rfl rfl | exact Cells.lP (by assumption) (by (repeat first | exact .refl _ _ | assumption | refine .trans ?_ (by assumption)); first | done | fail) _ rfl rfl (by assumption) (by assumption)))) ?_)
  first | (refine Wx.skip hq rfl rfl rfl rfl ?_) | (refine Wx.pure hq rfl rfl rfl rfl (rp_buildS (ps := [(0, .const _), (1, .const _)]) rfl rfl rfl rfl rfl) ?_)
  first | (refine Wx.actSkip rfl rfl rfl rfl ?_) | (refine Wx.actNew rfl rfl rfl rfl (acts_buildSlice (ps := [(0, .tmp 115)]) rfl rfl rfl rfl rfl rfl rfl rfl) ?_; rintro vsp wsp esp ⟨bsp, rfl, hbsp, hBsp⟩; first | (have hCsp : Cells wsp ⟨bsp, 0, none⟩ [_, _] := hBsp.cells) | have hCsp := Blk.cellsL hBsp; have hlsp := hBsp.lt; have hzsp := esp.size)
  first | (refine Wx.skip hq rfl rfl rfl rfl ?_) | (refine Wx.pure hq rfl rfl rfl rfl (rp_buildS (ps := [(0, .tmp 114), (1, .tmp 116)]) rfl rfl rfl rfl rfl) ?_)
  first | (refine Wx.actSkip rfl rfl rfl rfl ?_) | (refine Wx.actNew rfl rfl rfl rfl (acts_buildSlice (ps := [(0, .tmp 117)]) rfl rfl rfl rfl rfl rfl rfl rfl) ?_; rintro vsd wsd esd ⟨bsd, rfl, hbsd, hBsd⟩; first | (have hCsd : Cells wsd ⟨bsd, 0, none⟩ [_, _, _, _] := hBsd.cells) | have hCsd := Blk.cellsL hBsd; have hlsd := hBsd.lt; have hzsd := esd.size)
  first | (refine Wx.actSkip rfl rfl rfl rfl ?_) | (refine Wx.actNew rfl rfl rfl rfl (acts_call rfl rfl rfl (ref_SameDiffers ds [⟨k0, [(3, 4)], some ⟨bsp, 0, none⟩, 1⟩] pd (some ⟨bsd, 0, none⟩) Ad ⟨bsd, 0, none⟩ cd 1 _ (hsd.ext0 (by (repeat first | exact .refl _ _ | assumption | refine .trans ?_ (by assumption)); first | done | fail)) ⟨fun _ => rfl, hCsd.ext0 (by (repeat first | exact .refl _ _ | assumption | refine .trans ?_ (by assumption)); first | done | fail), by simp, by simp, by simp⟩ (hdi.ext0 (by (repeat first | exact .refl _ _ | assumption | refine .trans ?_ (by assumption)); first | done | fail)) (fun d hd => by simp only [List.mem_singleton] at hd; subst hd; exact ⟨⟨bsp, 0, none⟩, fun _ => rfl, hCsp.ext0 (by (repeat first | exact .refl _ _ | assumption | refine .trans ?_ (by assumption)); first | done | fail), by simp, by simp, by simp⟩))) ?_; rintro v17 w17 e17 rfl; have hz17 := e17.size; rw [decide_eq_true (show ds.map Df.val = [(⟨k0, [(3, 4)], some ⟨bsp, 0, none⟩, 1⟩ : Df)].map Df.val from hds)])
  refine Wx.pure hq rfl rfl rfl rfl (by first | exact rp_pick_t rfl rfl rfl | exact rp_pick_f rfl rfl rfl) ?_
  refine Wx.pure hq rfl rfl rfl rfl (rp_move rfl rfl) ?_
  first | (refine Wx.skip hq rfl rfl rfl rfl ?_) | (refine Wx.pure hq rfl rfl rfl rfl (rp_move rfl rfl) ?_)
  first | (refine Wx.actSkip rfl rfl rfl rfl ?_) | (refine Wx.actNew rfl rfl rfl rfl (acts_call rfl rfl rfl (alike_at [g1, g2] [] 1 2 _ none _ ⟨0, 0, none⟩ 2 0 _ (hs.ext0 (by (repeat first | exact .refl _ _ | assumption | refine .trans ?_ (by assumption)); first | done | fail)) (SlV.nil rc _))) ?_; rintro v18 w18 e18 rfl; have hz18 := e18.size; rw [n11])
  refine Wx.pure hq rfl rfl rfl rfl (by first | exact rp_pick_t rfl rfl rfl | exact rp_pick_f rfl rfl rfl) ?_
  refine Wx.pure hq rfl rfl rfl rfl (rp_move rfl rfl) ?_
  first | (refine Wx.skip hq rfl rfl rfl rfl ?_) | (refine Wx.pure hq rfl rfl rfl rfl (rp_move rfl rfl) ?_)
  first | (refine Wx.skip hq rfl rfl rfl rfl ?_) | (refine Wx.val hq rfl rfl rfl rfl ([]) (rv_load rfl rfl (by (intro u hu; first | exact Cells.lA (by assumption) (by (repeat first | exact .refl _ _ | assumption | refine .trans ?_ (by assumption)); first | done | fail) rfl rfl | exact Cells.lL (by assumption) (by (repeat first | exact .refl _ _ | assumption | refine .trans ?_ (by assumption)); first | done | fail) rfl rfl (by assumption) | exact Cells.lP (by assumption) (by (repeat first | exact .refl _ _ | assumption | refine .trans ?_ (by assumption)); first | done | fail) _ rfl rfl rfl rfl | exact Cells.lP (by assumption) (by (repeat first | exact .refl _ _ | assumption | refine .trans ?_ (by assumption)); first | done | fail) _ rfl rfl (by assumption) (by assumption)))) ?_)
  first | (refine Wx.skip hq rfl rfl rfl rfl ?_) | (refine Wx.pure hq rfl rfl rfl rfl (rp_buildS (ps := [(0, .tmp 127), (2, .const _)]) rfl rfl rfl rfl rfl) ?_)
  first | (refine Wx.actSkip rfl rfl rfl rfl ?_) | (refine Wx.actNew rfl rfl rfl rfl (acts_buildSlice (ps := [(0, .tmp 128)]) rfl rfl rfl rfl rfl rfl rfl rfl) ?_; rintro vsr wsr esr ⟨bsr, rfl, hbsr, hBsr⟩; first | (have hCsr : Cells wsr ⟨bsr, 0, none⟩ [_, _, _, _, _] := hBsr.cells) | have hCsr := Blk.cellsL hBsr; have hlsr := hBsr.lt; have hzsr := esr.size)
  first | (refine Wx.actSkip rfl rfl rfl rfl ?_) | (refine Wx.actNew rfl rfl rfl rfl (acts_call rfl rfl rfl (alike_at [g1, g2] [⟨k0, 0, 9⟩] 15 20 _ (some ⟨bsr, 0, none⟩) _ ⟨bsr, 0, none⟩ 2 1 _ (hs.ext0 (by (repeat first | exact .refl _ _ | assumption | refine .trans ?_ (by assumption)); first | done | fail)) ⟨fun _ => rfl, hCsr.ext0 (by (repeat first | exact .refl _ _ | assumption | refine .trans ?_ (by assumption)); first | done | fail), by simp, by simp, by simp⟩)) ?_; rintro v19 w19 e19 rfl; have hz19 := e19.size; rw [n12])
  first | (refine Wx.skip hq rfl rfl rfl rfl ?_) | (refine Wx.pure hq rfl rfl rfl rfl (rp_not rfl rfl) ?_)
  refine Wx.pure hq rfl rfl rfl rfl (by first | exact rp_pick_t rfl rfl rfl | exact rp_pick_f rfl rfl rfl) ?_
  refine Wx.pure hq rfl rfl rfl rfl (rp_move rfl rfl) ?_
  first | (refine Wx.skip hq rfl rfl rfl rfl ?_) | (refine Wx.pure hq rfl rfl rfl rfl (rp_move rfl rfl) ?_)
  first | (refine Wx.skip hq rfl rfl rfl rfl ?_) | (refine Wx.val hq rfl rfl rfl rfl ([]) (rv_load rfl rfl (by (intro u hu; first | exact Cells.lA (by assumption) (by (repeat first | exact .refl _ _ | assumption | refine .trans ?_ (by assumption)); first | done | fail) rfl rfl | exact Cells.lL (by assumption) (by (repeat first | exact .refl _ _ | assumption | refine .trans ?_ (by assumption)); first | done | fail) rfl rfl (by assumption) | exact Cells.lP (by assumption) (by (repeat first | exact .refl _ _ | assumption | refine .trans ?_ (by assumption)); first | done | fail) _ rfl rfl rfl rfl | exact Cells.lP (by assumption) (by (repeat first | exact .refl _ _ | assumption | refine .trans ?_ (by assumption)); first | done | fail) _ rfl rfl (by assumption) (by assumption)))) ?_)
  first | (refine Wx.actSkip rfl rfl rfl rfl ?_) | (refine Wx.actNew rfl rfl rfl rfl (acts_call rfl rfl rfl (points_at [g1, g2] k0 0 9 20 _ _ 2 _ (hs.ext0 (by (repeat first | exact .refl _ _ | assumption | refine .trans ?_ (by assumption)); first | done | fail)))) ?_; rintro v20 w20 e20 hp49; have hz20 := e20.size; obtain ⟨p49, c49, A49, rfl, hs49, _⟩ := OwnP.sl hp49 (by rw [n13]; omega); rw [n13])
  first | (refine Wx.skip hq rfl rfl rfl rfl ?_) | (refine Wx.pure hq rfl rfl rfl rfl (rp_lenS rfl rfl rfl) ?_)
  first | (refine Wx.skip hq rfl rfl rfl rfl ?_) | (refine Wx.pure hq rfl rfl rfl rfl (by first | exact rp_bin rfl rfl rfl (binI_t (by omega)) | exact rp_bin rfl rfl rfl (binI_f (by omega)) | exact rp_bin rfl rfl rfl rfl) ?_)
  refine Wx.pure hq rfl rfl rfl rfl (by first | exact rp_pick_t rfl rfl rfl | exact rp_pick_f rfl rfl rfl) ?_
  refine Wx.pure hq rfl rfl rfl rfl (rp_move rfl rfl) ?_
  first | (refine Wx.skip hq rfl rfl rfl rfl ?_) | (refine Wx.pure hq rfl rfl rfl rfl (rp_move rfl rfl) ?_)
  first | (refine Wx.skip hq rfl rfl rfl rfl ?_) | (refine Wx.pure hq rfl rfl rfl rfl (rp_move rfl rfl) ?_)
  first | (refine Wx.skip hq rfl rfl rfl rfl ?_) | (refine Wx.pure hq rfl rfl rfl rfl (rp_sliceS 0 1 rfl rfl rfl rfl rfl rfl (.inl ⟨rfl, rfl⟩) (.inr ⟨_, rfl⟩) (by decide) (by decide)) ?_)
  first | (refine Wx.actSkip rfl rfl rfl rfl ?_) | (refine Wx.actNew rfl rfl rfl rfl (acts_call rfl rfl rfl (upto_at_facts [g1, g2] 19 _ _ 2 _ (hs.ext0 (by (repeat first | exact .refl _ _ | assumption | refine .trans ?_ (by assumption)); first | done | fail)) (by decide))) ?_; rintro v21 w21 e21 ⟨p55, A55, c55, rfl, hs55⟩; have hz21 := e21.size; rw [n14] at hs55 ⊢)
  first | (refine Wx.actSkip rfl rfl rfl rfl ?_) | (refine Wx.actNew rfl rfl rfl rfl (acts_call rfl rfl rfl (ref_Same [g1] [g1] p55 _ A55 _ c55 2 _ (hs55.ext0 (by (repeat first | exact .refl _ _ | assumption | refine .trans ?_ (by assumption)); first | done | fail)) (hs1.ext0 (by (repeat first | exact .refl _ _ | assumption | refine .trans ?_ (by assumption)); first | done | fail)))) ?_; rintro v22 w22 e22 rfl; have hz22 := e22.size; rw [decide_eq_true (show [g1] = [g1] from rfl)])
  refine Wx.pure hq rfl rfl rfl rfl (by first | exact rp_pick_t rfl rfl rfl | exact rp_pick_f rfl rfl rfl) ?_
  refine Wx.pure hq rfl rfl rfl rfl (rp_assign rfl rfl) ?_
  refine Wx.nil ?_
  (repeat first | refine thenE_normal ?_ | refine blockE_normal ?_ | refine scopeE_normal ?_)
  (repeat refine Sx.seq ?_); refine Sx.ret ?_
  (repeat first | refine thenE_ret ?_ | refine blockE_ret ?_ | refine scopeE_ret ?_)
  exact endE_ret [_] ⟨rfl, trivial⟩ ⟨by (repeat first | exact .refl _ _ | assumption | refine .trans ?_ (by assumption)); first | done | fail, rfl⟩

end Go.Proofs.Ytjneaeghloffnaa
