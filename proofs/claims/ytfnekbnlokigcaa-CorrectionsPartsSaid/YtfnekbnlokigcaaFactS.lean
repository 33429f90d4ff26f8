/- The facts' walks: what has changed. -/
import Derived.Test.YtfnekbnlokigcaaRows
import Derived.Test.YtfnekbnlokigcaaFactQ
import Derived.Test.YtfnekbnlokigcaaFactR
set_option linter.unusedVariables false
set_option maxRecDepth 100000
set_option maxHeartbeats 4000000
set_option linter.unusedSimpArgs false
namespace Go.Proofs.Ytfnekbnlokigcaa
open Go Go.Eng

theorem rowO_eq (a b : Option Fct) : rowO a = rowO b ↔ valO a = valO b := by
  obtain ⟨a1, a2, a3⟩ := rowO_val a
  obtain ⟨b1, b2, b3⟩ := rowO_val b
  by_cases ha : 0 ≤ rowO a
  · by_cases hb : 0 ≤ rowO b
    · constructor
      · intro h
        exact Prod.ext (by rw [a2 ha, b2 hb, h]) (by rw [a1.1 ha, b1.1 hb])
      · intro h; rw [← a2 ha, ← b2 hb, h]
    · obtain ⟨b4, b5⟩ := b3 hb
      constructor
      · intro h; omega
      · intro h
        have := a1.1 ha
        rw [h, b5] at this; cases this
  · obtain ⟨a4, a5⟩ := a3 ha
    by_cases hb : 0 ≤ rowO b
    · constructor
      · intro h; omega
      · intro h
        have := b1.1 hb
        rw [← h, a5] at this; cases this
    · obtain ⟨b4, b5⟩ := b3 hb
      rw [a4, b4, a5, b5]; simp
theorem diff_row (l : List Fct) (k : Ky) (bef aft : Int) (day : Int) : diffL l k bef aft day ↔ rowO (bestL l k day bef) ≠ rowO (bestL l k day aft) := by
  unfold diffL atL
  rw [ne_eq, ne_eq, rowO_eq]
theorem valuesL_at (l : List Fct) (k : Ky) (known : Int) {j : Nat} (hj : j < 1024) : (rowsV ic (valuesL l k known))[j * 1]? = some (.int .i64 (rowO (bestL l k (j : Int) known))) := by
  have hlt : j < (valuesL l k known).length := by rw [valuesL_length]; exact hj
  have := congrArg (fun c => c[0]?) (rowsV_at ic_len hlt)
  have h2 : (valuesL l k known)[j] = rowO (bestL l k (j : Int) known) := tab_get _ hlt
  rw [h2] at this
  simpa using this

theorem changed_at (l : List Fct) (bef aft : Int) (p : Option Addr) (A : Addr) (c : Nat) (w : World) (hs : SlV fc w p A l c) (hl : l.length ≤ 1000000) :
    Calls Try.prog 32 #[.slice p l.length c, .int .i64 bef, .int .i64 aft] w (Ret fun r w' => Ext [] w w' ∧ ∃ ds : List Df, ds.map Df.val = changedL l bef aft ∧ ds.length ≤ l.length ∧ OwnD w.heap.size w' r ds) := by
  have hp := hs.ptr
  have hrow := hs.row
  refine calls_of_Sx (args := [.slice p l.length c, .int .i64 bef, .int .i64 aft]) Try.func32 rfl rfl ?_
  (repeat refine Sx.seq ?_)
  refine Sx.textR ?_
  refine Ox.pure rfl rfl (rp_assign rfl rfl) ?_
  refine Ox.nil ?_
  (repeat first | refine thenE_normal ?_ | refine blockE_normal ?_ | refine scopeE_normal ?_)
  (repeat refine Sx.seq ?_)
  refine Sx.textR ?_
  refine Ox.act rfl rfl (acts_makeMap kvK evT rfl) ?_
  rintro vmk wmk ⟨emk, b, rfl, hb, hM0⟩
  have hzmk := emk.size
  refine Ox.pure rfl rfl (rp_assign rfl rfl) ?_
  refine Ox.nil ?_
  (repeat first | refine thenE_normal ?_ | refine blockE_normal ?_ | refine scopeE_normal ?_)
  refine Sx.seq (Sx.upto (fun E' w' => (∀ t u, get [(0, .slice p l.length c), (1, .int .i64 bef), (2, .int .i64 aft), (6, nilS), (7, .map (some b))] t = some u → get E' t = some u) ∧ Ext [] w w' ∧ MapL kvK evT w' b (keyM l)) ?_ ?_)
  · (repeat refine Sx.seq ?_)
    refine Sx.textR ?_
    refine Ox.pure rfl rfl (rp_move rfl rfl) ?_
    refine Ox.pure rfl rfl (rp_lenS rfl rfl rfl) ?_
    refine Ox.pure rfl rfl (rp_move rfl rfl) ?_
    refine Ox.nil ?_
    (repeat first | refine thenE_normal ?_ | refine blockE_normal ?_ | refine scopeE_normal ?_)
    (repeat refine Sx.seq ?_); refine Sx.block ?_
    refine Sx.loop (ι := Nat) (fun i E wr => E = [(0, .slice p l.length c), (1, .int .i64 bef), (2, .int .i64 aft), (6, nilS), (7, .map (some b)), (18, .slice p l.length c), (19, .int .i64 (l.length : Int)), (20, .int .i64 (i : Int))] ∧ i ≤ l.length ∧ Ext [] w wr ∧ MapL kvK evT wr b (keyM (l.take i))) (fun i => l.length - i) 0
      (sub_cons rfl (sub_cons rfl (sub_cons rfl (sub_cons rfl (sub_cons rfl (sub_cons rfl (sub_cons rfl (sub_cons rfl sub_nil)))))))) ⟨rfl, Nat.zero_le _, by (repeat first | exact .refl _ _ | assumption | refine .trans ?_ (by assumption)); first | done | fail, hM0.ext0 (by (repeat first | exact .refl _ _ | assumption | refine .trans ?_ (by assumption)); first | done | fail)⟩ ?_
    rintro i E wr ⟨rfl, hi, er, hM⟩
    have hz := er.size
    by_cases hlt : i < l.length
    · have hat := rowsV_at fc_len hlt
      have hl8 := fc_len l[i]
      have hkt := keyM_take hlt
      (repeat refine Sx.seq ?_)
      refine Sx.textR ?_
      refine Ox.pure rfl rfl (by first | exact rp_bin rfl rfl rfl (binI_t (by omega)) | exact rp_bin rfl rfl rfl (binI_f (by omega)) | exact rp_bin rfl rfl rfl rfl) ?_
      refine Ox.nil ?_
      (repeat first | refine thenE_normal ?_ | refine blockE_normal ?_ | refine scopeE_normal ?_)
      (repeat refine Sx.seq ?_); first | refine Sx.cond_true rfl ?_ | refine Sx.cond rfl (fun _ => ?_) (fun h => absurd h (by simp [*]))
      (repeat refine Sx.seq ?_); refine Sx.skip ?_
      (repeat first | refine thenE_normal ?_ | refine blockE_normal ?_ | refine scopeE_normal ?_)
      (repeat refine Sx.seq ?_); refine Sx.block ?_
      (repeat refine Sx.seq ?_)
      refine Sx.textR ?_
      refine Ox.pure rfl rfl (rp_indexAddr _ rfl rfl rfl rfl rfl (by assumption) rfl (by first | omega | decide)) ?_
      refine Ox.val rfl rfl (rv_load rfl rfl (by (intro u hu; first | exact Cells.lA (by assumption) (by (repeat first | exact .refl _ _ | assumption | refine .trans ?_ (by assumption)); first | done | fail) rfl rfl | exact Cells.lL (by assumption) (by (repeat first | exact .refl _ _ | assumption | refine .trans ?_ (by assumption)); first | done | fail) rfl rfl (by assumption) | exact Cells.lP (by assumption) (by (repeat first | exact .refl _ _ | assumption | refine .trans ?_ (by assumption)); first | done | fail) _ rfl rfl rfl rfl | exact Cells.lP (by assumption) (by (repeat first | exact .refl _ _ | assumption | refine .trans ?_ (by assumption)); first | done | fail) _ rfl rfl (by assumption) (by assumption)))) ?_
      refine Ox.act rfl rfl (acts_alloc rfl rfl) ?_
      rintro val wal ⟨eal, bal, rfl, hbal, hBal⟩
      first | (have hCal : Cells wal ⟨bal, 0, none⟩ [_, _, _, _, _, _, _, _] := hBal.cells) | have hCal := Blk.cellsL hBal
      have hlal := hBal.lt
      have hzal := eal.size
      refine Ox.act rfl rfl (acts_store_all rfl rfl rfl hBal rfl (by first | rfl | assumption) (by first | rfl | assumption) (by (first | assumption | exact List.all_eq_true.mp rfl | simp [Value.cells, Value.oneCell']))) ?_
      rintro vst wst ⟨rfl, qst, hBst⟩
      have est := Ext.renew eal qst hbal
      have hzst := est.size
      have hlst := hBst.lt
      first | (have hCst : Cells wst ⟨bal, 0, none⟩ [_, _, _, _, _, _, _, _] := hBst.cells) | have hCst := Blk.cellsL hBst
      refine Ox.nil ?_
      (repeat first | refine thenE_normal ?_ | refine blockE_normal ?_ | refine scopeE_normal ?_)
      (repeat refine Sx.seq ?_)
      refine Sx.textR ?_
      refine Ox.pure rfl rfl (rp_move rfl rfl) ?_
      refine Ox.pure rfl rfl (by first | exact rp_fieldAddr2 rfl rfl rfl rfl | exact rp_fieldAddr rfl rfl rfl rfl) ?_
      refine Ox.val rfl rfl (rv_load rfl rfl (fun u hu => (hCst.ext0 (by (repeat first | exact .refl _ _ | assumption | refine .trans ?_ (by assumption)); first | done | fail)).ldP 0 rfl rfl rfl rfl)) ?_
      refine Ox.act rfl rfl (acts_mapUpdate l[i].key () rfl rfl keyKy rfl rfl rfl (hM.ext0 (by (repeat first | exact .refl _ _ | assumption | refine .trans ?_ (by assumption)); first | done | fail))) ?_
      rintro vmu wmu ⟨rfl, qmu, hM2⟩
      refine Ox.nil ?_
      (repeat first | refine thenE_normal ?_ | refine blockE_normal ?_ | refine scopeE_normal ?_)
      (repeat refine Sx.seq ?_)
      refine Sx.textR ?_
      refine Ox.pure rfl rfl (by first | exact rp_bin rfl rfl rfl (binI_fit_add (wrap64 (by omega))) | exact rp_bin rfl rfl rfl rfl) ?_
      refine Ox.pure rfl rfl (rp_move rfl rfl) ?_
      refine Ox.nil ?_
      (repeat first | refine thenE_normal ?_ | refine blockE_normal ?_ | refine scopeE_normal ?_)
      exact ⟨i + 1, _, sub_cons rfl (sub_cons rfl (sub_cons rfl (sub_cons rfl (sub_cons rfl (sub_cons rfl (sub_cons rfl (sub_cons rfl sub_nil))))))), ⟨rfl, hlt, Ext.join (X := []) (by (repeat first | exact .refl _ _ | assumption | refine .trans ?_ (by assumption)); first | done | fail) qmu (fun y hy => .inr (by simp only [List.mem_singleton] at hy; omega)), by rw [hkt]; exact hM2⟩, by omega⟩
    · rw [List.take_of_length_le (by omega)] at hM
      (repeat refine Sx.seq ?_)
      refine Sx.textR ?_
      refine Ox.pure rfl rfl (by first | exact rp_bin rfl rfl rfl (binI_t (by omega)) | exact rp_bin rfl rfl rfl (binI_f (by omega)) | exact rp_bin rfl rfl rfl rfl) ?_
      refine Ox.nil ?_
      (repeat first | refine thenE_normal ?_ | refine blockE_normal ?_ | refine scopeE_normal ?_)
      (repeat refine Sx.seq ?_); first | refine Sx.cond_false rfl ?_ | refine Sx.cond rfl (fun h => absurd h (by simp [*])) (fun _ => ?_)
      (repeat refine Sx.seq ?_); refine Sx.exit ?_
      (repeat first | refine thenE_exit ?_ | refine blockE_same ?_ | refine blockE_other rfl ?_ | refine scopeE_exit ?_ | refine thenE_normal ?_ | refine blockE_normal ?_ | refine scopeE_normal ?_)
      exact ⟨sub_cons rfl (sub_cons rfl (sub_cons rfl (sub_cons rfl (sub_cons rfl sub_nil)))), by (repeat first | exact .refl _ _ | assumption | refine .trans ?_ (by assumption)); first | done | fail, hM.ext0 (by (repeat first | exact .refl _ _ | assumption | refine .trans ?_ (by assumption)); first | done | fail)⟩
  · rintro E' wm ⟨hsub, em, hM⟩
    refine thenE_normal (Sx.weaken ?_ hsub)
    have hzm := em.size
    have hkn := (keyM_spec l).1
    have hkl := keyM_length l
    have hkk := keysL_length l
    rw [keyM_set l] at hM
    (repeat refine Sx.seq ?_)
    refine Sx.textR ?_
    refine Ox.pure rfl rfl (rp_move rfl rfl) ?_
    refine Ox.act rfl rfl (acts_call rfl rfl rfl (keys_at b _)) ?_
    rintro v1 w1 ⟨e1, b1, rfl, hb1, hC1⟩
    have hz1 := e1.size
    refine Ox.act rfl rfl (acts_call rfl rfl rfl (sortedFunc_at ((keyM l).map Prod.fst) b1 b _ hkn (by omega) (hC1.ext0 (by (repeat first | exact .refl _ _ | assumption | refine .trans ?_ (by assumption)); first | done | fail)) (hM.ext0 (by (repeat first | exact .refl _ _ | assumption | refine .trans ?_ (by assumption)); first | done | fail)))) ?_
    rintro v2 w2 ⟨e2, ks, hperm, hsort, hO⟩
    have hz2 := e2.size
    obtain rfl := keys_sorted hperm hsort
    obtain ⟨q, kcap, B, rfl, hsK, hlK⟩ := SlV.of_own hO (by omega)
    refine Ox.pure rfl rfl (rp_lenS rfl rfl rfl) ?_
    refine Ox.pure rfl rfl (rp_move rfl rfl) ?_
    refine Ox.nil ?_
    (repeat first | refine thenE_normal ?_ | refine blockE_normal ?_ | refine scopeE_normal ?_)
    (repeat refine Sx.seq ?_); refine Sx.block ?_
    generalize hK : keysL l = K at *
    refine Sx.loop (ι := Nat × Value × List Df) (fun i E wr => E = [(0, .slice p l.length c), (1, .int .i64 bef), (2, .int .i64 aft), (6, i.2.1), (30, .slice q K.length kcap), (31, .int .i64 (K.length : Int)), (32, .int .i64 (i.1 : Int))] ∧ i.1 ≤ K.length ∧ Ext [] w wr ∧ OwnK w.heap.size wr (.slice q K.length kcap) K ∧ OwnD w.heap.size wr i.2.1 i.2.2 ∧ i.2.2.length ≤ i.1 ∧ i.2.2.map Df.val = (K.take i.1).flatMap (entryL l bef aft)) (fun i => K.length - i.1) (0, nilS, [])
      (sub_cons rfl (sub_cons rfl (sub_cons rfl (sub_cons rfl (sub_cons rfl (sub_cons rfl (sub_cons rfl sub_nil))))))) ⟨rfl, Nat.zero_le _, by (repeat first | exact .refl _ _ | assumption | refine .trans ?_ (by assumption)); first | done | fail, own_base (own_keep0 hO (by (repeat first | exact .refl _ _ | assumption | refine .trans ?_ (by assumption)); first | done | fail)) (by omega), ⟨World.ownsRow_nil _ _ _ _, fun d hd => by cases hd⟩, Nat.le_refl _, rfl⟩ ?_
    rintro ⟨i, v, ds⟩ E wr ⟨rfl, hi, er, hokr, hown, hdl, hmap⟩
    dsimp only at hi hown hdl hmap ⊢
    have hz := er.size
    by_cases hlt : i < K.length
    · have hatK := rowsV_at kc_len hlt
      have hl3 := kc_len K[i]
      obtain ⟨q', c', B', hqe, hsKr, _⟩ := SlV.of_own hokr (by omega)
      simp only [Value.slice.injEq, true_and] at hqe
      obtain ⟨rfl, rfl⟩ := hqe
      have hqp := hsKr.ptr
      have hrowK := hsKr.row
      have hv1 : (rowsV ic (valuesL l K[i] bef)).length = 1024 := by rw [rowsV_length ic_len, valuesL_length]
      have hv2 : (rowsV ic (valuesL l K[i] aft)).length = 1024 := by rw [rowsV_length ic_len, valuesL_length]
      (repeat refine Sx.seq ?_)
      refine Sx.textR ?_
      refine Ox.pure rfl rfl (by first | exact rp_bin rfl rfl rfl (binI_t (by omega)) | exact rp_bin rfl rfl rfl (binI_f (by omega)) | exact rp_bin rfl rfl rfl rfl) ?_
      refine Ox.nil ?_
      (repeat first | refine thenE_normal ?_ | refine blockE_normal ?_ | refine scopeE_normal ?_)
      (repeat refine Sx.seq ?_); first | refine Sx.cond_true rfl ?_ | refine Sx.cond rfl (fun _ => ?_) (fun h => absurd h (by simp [*]))
      (repeat refine Sx.seq ?_); refine Sx.skip ?_
      (repeat first | refine thenE_normal ?_ | refine blockE_normal ?_ | refine scopeE_normal ?_)
      (repeat refine Sx.seq ?_); refine Sx.block ?_
      (repeat refine Sx.seq ?_)
      refine Sx.textR ?_
      refine Ox.pure rfl rfl (rp_indexAddr _ rfl rfl rfl rfl rfl (by assumption) rfl (by first | omega | decide)) ?_
      refine Ox.val rfl rfl (rv_load rfl rfl (by (intro u hu; first | exact Cells.lA (by assumption) (by (repeat first | exact .refl _ _ | assumption | refine .trans ?_ (by assumption)); first | done | fail) rfl rfl | exact Cells.lL (by assumption) (by (repeat first | exact .refl _ _ | assumption | refine .trans ?_ (by assumption)); first | done | fail) rfl rfl (by assumption) | exact Cells.lP (by assumption) (by (repeat first | exact .refl _ _ | assumption | refine .trans ?_ (by assumption)); first | done | fail) _ rfl rfl rfl rfl | exact Cells.lP (by assumption) (by (repeat first | exact .refl _ _ | assumption | refine .trans ?_ (by assumption)); first | done | fail) _ rfl rfl (by assumption) (by assumption)))) ?_
      refine Ox.act rfl rfl (acts_alloc rfl rfl) ?_
      rintro val wal ⟨eal, bal, rfl, hbal, hBal⟩
      first | (have hCal : Cells wal ⟨bal, 0, none⟩ [_, _, _] := hBal.cells) | have hCal := Blk.cellsL hBal
      have hlal := hBal.lt
      have hzal := eal.size
      refine Ox.act rfl rfl (acts_store_all rfl rfl rfl hBal rfl (by first | rfl | assumption) (by first | rfl | assumption) (by (first | assumption | exact List.all_eq_true.mp rfl | simp [Value.cells, Value.oneCell']))) ?_
      rintro vst wst ⟨rfl, qst, hBst⟩
      have est := Ext.renew eal qst hbal
      have hzst := est.size
      have hlst := hBst.lt
      first | (have hCst : Cells wst ⟨bal, 0, none⟩ [_, _, _] := hBst.cells) | have hCst := Blk.cellsL hBst
      refine Ox.nil ?_
      (repeat first | refine thenE_normal ?_ | refine blockE_normal ?_ | refine scopeE_normal ?_)
      (repeat refine Sx.seq ?_); refine Sx.scope ?_
      have hCk : Cells wst ⟨bal, 0, none⟩ (kc K[i]) := hCst
      have hsw := hs.ext0 (w' := wst) (by (repeat first | exact .refl _ _ | assumption | refine .trans ?_ (by assumption)); first | done | fail)
      have hzst := est.size
      refine Sx.seq (Sx.upto (fun E' w' => ∃ x y : Nat, (∀ t u, get [(0, .slice p l.length c), (1, .int .i64 bef), (2, .int .i64 aft), (6, v), (30, .slice q K.length kcap), (31, .int .i64 (K.length : Int)), (32, .int .i64 (i : Int)), (11, .pointer (some ⟨bal, 0, none⟩)), (12, .pointer (some ⟨x, 0, none⟩)), (13, .pointer (some ⟨y, 0, none⟩))] t = some u → get E' t = some u) ∧ Ext [] wst w' ∧ Cells w' ⟨x, 0, none⟩ (rowsV ic (valuesL l K[i] bef)) ∧ Cells w' ⟨y, 0, none⟩ (rowsV ic (valuesL l K[i] aft))) ?_ ?_)
      · (repeat refine Sx.seq ?_)
        refine Sx.walkR rfl (fun _ _ _ _ h => h) [0, 1, 2, 4, 5, 6] [0, 1, 2, 4, 5, 6] (6) (by kernel_rfl) ?_
        intro hq w3 e3; have hz3 := e3.size
        refine Wx.pure hq rfl rfl rfl rfl (rp_move rfl rfl) ?_
        refine Wx.val hq rfl rfl rfl rfl ([]) (rv_load rfl rfl (fun u hu => (hCk.ext0 (by (repeat first | exact .refl _ _ | assumption | refine .trans ?_ (by assumption)); first | done | fail)).ldA rfl rfl)) ?_
        refine Wx.pure hq rfl rfl rfl rfl (rp_move rfl rfl) ?_
        refine Wx.pure hq rfl rfl rfl rfl (rp_move rfl rfl) ?_
        refine Wx.val hq rfl rfl rfl rfl ([]) (rv_load rfl rfl (fun u hu => (hCk.ext0 (by (repeat first | exact .refl _ _ | assumption | refine .trans ?_ (by assumption)); first | done | fail)).ldA rfl rfl)) ?_
        refine Wx.pure hq rfl rfl rfl rfl (rp_move rfl rfl) ?_
        refine Wx.fork3 (i := 3) (j := 8) (k := 9) (by kernel_rfl) ?_ ?_ ?_
        · refine Br.mk [(5, [], w3)] rfl rfl rfl ([]) (.keep (fun y hy => .inl hy) (.drop (by kernel_rfl) (PendK.nil))) (acts_call rfl rfl rfl (values_at l K[i] bef p A c _ (hsw.ext0 (by (repeat first | exact .refl _ _ | assumption | refine .trans ?_ (by assumption)); first | done | fail)))) (fun _ _ h => h.1) [] (5) (by kernel_rfl) ?_
          rintro v4 w4 ⟨e4, rfl⟩
          have hz4 := e4.size
          refine Wx.fork3 (i := 7) (j := 8) (k := 9) (by kernel_rfl) ?_ ?_ ?_
          · refine Br.mk [] rfl rfl rfl ([]) (.drop (by kernel_rfl) (PendK.nil)) (acts_call rfl rfl rfl (values_at l K[i] aft p A c _ (hsw.ext0 (by (repeat first | exact .refl _ _ | assumption | refine .trans ?_ (by assumption)); first | done | fail)))) (fun _ _ h => h.1) [] (4) (by kernel_rfl) ?_
            rintro v5 w5 ⟨e5, rfl⟩
            have hz5 := e5.size
            refine Wx.fork (i := 8) (j := 9) (by kernel_rfl) ?_ ?_
            · refine Br.mk [] rfl rfl rfl ([]) (PendK.nil) (acts_alloc_z rfl z70) (fun _ _ h => h.1) [9, 10, 11] (0) (by kernel_rfl) ?_
              rintro va1 wa1 ⟨ea1, ba1, rfl, hba1, hBa1⟩
              have hza1 := ea1.size
              have hla1 := hBa1.lt
              refine Wx.actNew rfl rfl rfl rfl (acts_alloc_z rfl z70) ?_
              rintro va2 wa2 ea2 ⟨ba2, rfl, hba2, hBa2⟩
              have hza2 := ea2.size
              have hla2 := hBa2.lt
              refine Wx.actX [] rfl rfl rfl rfl ([ba1]) (PendK.nil) (acts_store_all (m := 1024) rfl rfl rfl (hBa1.ext (X := []) (by (repeat first | exact .refl _ _ | assumption | refine .trans ?_ (by assumption)); first | done | fail) (by simp)) rfl (by show (rowsV ic (valuesL l K[i] bef)).toArray.size = 1024; simpa using hv1) (by rw [rowsV_length ic_len, tab_length]) (rowsV_all (by simp [Value.oneCell']) _)) (fun _ _ h => h.2.1) ?_
              rintro vs1 ws1 ⟨rfl, qs1, hBs1⟩
              refine Wx.actLast rfl rfl rfl rfl (by kernel_rfl) (acts_store_all (m := 1024) rfl rfl rfl ((hBa2.ext (X := []) (by (repeat first | exact .refl _ _ | assumption | refine .trans ?_ (by assumption)); first | done | fail) (by simp)).ext qs1 (by simp; omega)) rfl (by show (rowsV ic (valuesL l K[i] aft)).toArray.size = 1024; simpa using hv2) (by rw [rowsV_length ic_len, tab_length]) (rowsV_all (by simp [Value.oneCell']) _)) ?_
              rintro vs2 ws2 ⟨rfl, qs2, hBs2⟩
              refine Wx.nil ?_
              (repeat first | refine thenE_normal ?_ | refine blockE_normal ?_ | refine scopeE_normal ?_)
              exact ⟨_, _, sub_cons rfl (sub_cons rfl (sub_cons rfl (sub_cons rfl (sub_cons rfl (sub_cons rfl (sub_cons rfl (sub_cons rfl (sub_cons rfl (sub_cons rfl sub_nil))))))))), Ext.join (X := []) (Ext.join (X := []) (by (repeat first | exact .refl _ _ | assumption | refine .trans ?_ (by assumption)); first | done | fail) qs1 (fun y hy => .inr (by simp only [List.mem_singleton] at hy; omega))) qs2 (fun y hy => .inr (by simp only [List.mem_singleton] at hy; omega)), (hBs1.ext qs2 (by simp; omega)).cells, hBs2.cells⟩
            · refine Br.mk [] rfl rfl rfl ([]) (PendK.nil) (acts_alloc_z rfl z70) (fun _ _ h => h.1) [8, 10, 11] (0) (by kernel_rfl) ?_
              rintro va2 wa2 ⟨ea2, ba2, rfl, hba2, hBa2⟩
              have hza2 := ea2.size
              have hla2 := hBa2.lt
              refine Wx.actNew rfl rfl rfl rfl (acts_alloc_z rfl z70) ?_
              rintro va1 wa1 ea1 ⟨ba1, rfl, hba1, hBa1⟩
              have hza1 := ea1.size
              have hla1 := hBa1.lt
              refine Wx.actX [] rfl rfl rfl rfl ([ba1]) (PendK.nil) (acts_store_all (m := 1024) rfl rfl rfl (hBa1.ext (X := []) (by (repeat first | exact .refl _ _ | assumption | refine .trans ?_ (by assumption)); first | done | fail) (by simp)) rfl (by show (rowsV ic (valuesL l K[i] bef)).toArray.size = 1024; simpa using hv1) (by rw [rowsV_length ic_len, tab_length]) (rowsV_all (by simp [Value.oneCell']) _)) (fun _ _ h => h.2.1) ?_
              rintro vs1 ws1 ⟨rfl, qs1, hBs1⟩
              refine Wx.actLast rfl rfl rfl rfl (by kernel_rfl) (acts_store_all (m := 1024) rfl rfl rfl ((hBa2.ext (X := []) (by (repeat first | exact .refl _ _ | assumption | refine .trans ?_ (by assumption)); first | done | fail) (by simp)).ext qs1 (by simp; omega)) rfl (by show (rowsV ic (valuesL l K[i] aft)).toArray.size = 1024; simpa using hv2) (by rw [rowsV_length ic_len, tab_length]) (rowsV_all (by simp [Value.oneCell']) _)) ?_
              rintro vs2 ws2 ⟨rfl, qs2, hBs2⟩
              refine Wx.nil ?_
              (repeat first | refine thenE_normal ?_ | refine blockE_normal ?_ | refine scopeE_normal ?_)
              exact ⟨_, _, sub_cons rfl (sub_cons rfl (sub_cons rfl (sub_cons rfl (sub_cons rfl (sub_cons rfl (sub_cons rfl (sub_cons rfl (sub_cons rfl (sub_cons rfl sub_nil))))))))), Ext.join (X := []) (Ext.join (X := []) (by (repeat first | exact .refl _ _ | assumption | refine .trans ?_ (by assumption)); first | done | fail) qs1 (fun y hy => .inr (by simp only [List.mem_singleton] at hy; omega))) qs2 (fun y hy => .inr (by simp only [List.mem_singleton] at hy; omega)), (hBs1.ext qs2 (by simp; omega)).cells, hBs2.cells⟩
          · refine Br.mk [(5, [], w3)] rfl rfl rfl ([]) (.keep (fun y hy => .inl hy) (PendK.nil)) (acts_alloc_z rfl z70) (fun _ _ h => h.1) [] (4) (by kernel_rfl) ?_
            rintro va1 wa1 ⟨ea1, ba1, rfl, hba1, hBa1⟩
            have hza1 := ea1.size
            have hla1 := hBa1.lt
            refine Wx.fork (i := 7) (j := 9) (by kernel_rfl) ?_ ?_
            · refine Br.mk [] rfl rfl rfl ([]) (.drop (by kernel_rfl) (PendK.nil)) (acts_call rfl rfl rfl (values_at l K[i] aft p A c _ (hsw.ext0 (by (repeat first | exact .refl _ _ | assumption | refine .trans ?_ (by assumption)); first | done | fail)))) (fun _ _ h => h.1) [9, 10, 11] (0) (by kernel_rfl) ?_
              rintro v6 w6 ⟨e6, rfl⟩
              have hz6 := e6.size
              refine Wx.actNew rfl rfl rfl rfl (acts_alloc_z rfl z70) ?_
              rintro va2 wa2 ea2 ⟨ba2, rfl, hba2, hBa2⟩
              have hza2 := ea2.size
              have hla2 := hBa2.lt
              refine Wx.actX [] rfl rfl rfl rfl ([ba1]) (PendK.nil) (acts_store_all (m := 1024) rfl rfl rfl (hBa1.ext (X := []) (by (repeat first | exact .refl _ _ | assumption | refine .trans ?_ (by assumption)); first | done | fail) (by simp)) rfl (by show (rowsV ic (valuesL l K[i] bef)).toArray.size = 1024; simpa using hv1) (by rw [rowsV_length ic_len, tab_length]) (rowsV_all (by simp [Value.oneCell']) _)) (fun _ _ h => h.2.1) ?_
              rintro vs1 ws1 ⟨rfl, qs1, hBs1⟩
              refine Wx.actLast rfl rfl rfl rfl (by kernel_rfl) (acts_store_all (m := 1024) rfl rfl rfl ((hBa2.ext (X := []) (by (repeat first | exact .refl _ _ | assumption | refine .trans ?_ (by assumption)); first | done | fail) (by simp)).ext qs1 (by simp; omega)) rfl (by show (rowsV ic (valuesL l K[i] aft)).toArray.size = 1024; simpa using hv2) (by rw [rowsV_length ic_len, tab_length]) (rowsV_all (by simp [Value.oneCell']) _)) ?_
              rintro vs2 ws2 ⟨rfl, qs2, hBs2⟩
              refine Wx.nil ?_
              (repeat first | refine thenE_normal ?_ | refine blockE_normal ?_ | refine scopeE_normal ?_)
              exact ⟨_, _, sub_cons rfl (sub_cons rfl (sub_cons rfl (sub_cons rfl (sub_cons rfl (sub_cons rfl (sub_cons rfl (sub_cons rfl (sub_cons rfl (sub_cons rfl sub_nil))))))))), Ext.join (X := []) (Ext.join (X := []) (by (repeat first | exact .refl _ _ | assumption | refine .trans ?_ (by assumption)); first | done | fail) qs1 (fun y hy => .inr (by simp only [List.mem_singleton] at hy; omega))) qs2 (fun y hy => .inr (by simp only [List.mem_singleton] at hy; omega)), (hBs1.ext qs2 (by simp; omega)).cells, hBs2.cells⟩
            · refine Br.mk [(5, [], w3)] rfl rfl rfl ([]) (.keep (fun y hy => .inl hy) (PendK.nil)) (acts_alloc_z rfl z70) (fun _ _ h => h.1) [7, 10, 11] (0) (by kernel_rfl) ?_
              rintro va2 wa2 ⟨ea2, ba2, rfl, hba2, hBa2⟩
              have hza2 := ea2.size
              have hla2 := hBa2.lt
              refine Wx.actNew rfl rfl rfl rfl (acts_call rfl rfl rfl (values_at l K[i] aft p A c _ (hsw.ext0 (by (repeat first | exact .refl _ _ | assumption | refine .trans ?_ (by assumption)); first | done | fail)))) ?_
              rintro v7 w7 e7 rfl
              have hz7 := e7.size
              refine Wx.actX [] rfl rfl rfl rfl ([ba1]) (.drop (by kernel_rfl) (PendK.nil)) (acts_store_all (m := 1024) rfl rfl rfl (hBa1.ext (X := []) (by (repeat first | exact .refl _ _ | assumption | refine .trans ?_ (by assumption)); first | done | fail) (by simp)) rfl (by show (rowsV ic (valuesL l K[i] bef)).toArray.size = 1024; simpa using hv1) (by rw [rowsV_length ic_len, tab_length]) (rowsV_all (by simp [Value.oneCell']) _)) (fun _ _ h => h.2.1) ?_
              rintro vs1 ws1 ⟨rfl, qs1, hBs1⟩
              refine Wx.actLast rfl rfl rfl rfl (by kernel_rfl) (acts_store_all (m := 1024) rfl rfl rfl ((hBa2.ext (X := []) (by (repeat first | exact .refl _ _ | assumption | refine .trans ?_ (by assumption)); first | done | fail) (by simp)).ext qs1 (by simp; omega)) rfl (by show (rowsV ic (valuesL l K[i] aft)).toArray.size = 1024; simpa using hv2) (by rw [rowsV_length ic_len, tab_length]) (rowsV_all (by simp [Value.oneCell']) _)) ?_
              rintro vs2 ws2 ⟨rfl, qs2, hBs2⟩
              refine Wx.nil ?_
              (repeat first | refine thenE_normal ?_ | refine blockE_normal ?_ | refine scopeE_normal ?_)
              exact ⟨_, _, sub_cons rfl (sub_cons rfl (sub_cons rfl (sub_cons rfl (sub_cons rfl (sub_cons rfl (sub_cons rfl (sub_cons rfl (sub_cons rfl (sub_cons rfl sub_nil))))))))), Ext.join (X := []) (Ext.join (X := []) (by (repeat first | exact .refl _ _ | assumption | refine .trans ?_ (by assumption)); first | done | fail) qs1 (fun y hy => .inr (by simp only [List.mem_singleton] at hy; omega))) qs2 (fun y hy => .inr (by simp only [List.mem_singleton] at hy; omega)), (hBs1.ext qs2 (by simp; omega)).cells, hBs2.cells⟩
          · refine Br.mk [(5, [], w3)] rfl rfl rfl ([]) (.keep (fun y hy => .inl hy) (PendK.nil)) (acts_alloc_z rfl z70) (fun _ _ h => h.1) [] (4) (by kernel_rfl) ?_
            rintro va2 wa2 ⟨ea2, ba2, rfl, hba2, hBa2⟩
            have hza2 := ea2.size
            have hla2 := hBa2.lt
            refine Wx.fork (i := 7) (j := 8) (by kernel_rfl) ?_ ?_
            · refine Br.mk [] rfl rfl rfl ([]) (.drop (by kernel_rfl) (PendK.nil)) (acts_call rfl rfl rfl (values_at l K[i] aft p A c _ (hsw.ext0 (by (repeat first | exact .refl _ _ | assumption | refine .trans ?_ (by assumption)); first | done | fail)))) (fun _ _ h => h.1) [8, 10, 11] (0) (by kernel_rfl) ?_
              rintro v8 w8 ⟨e8, rfl⟩
              have hz8 := e8.size
              refine Wx.actNew rfl rfl rfl rfl (acts_alloc_z rfl z70) ?_
              rintro va1 wa1 ea1 ⟨ba1, rfl, hba1, hBa1⟩
              have hza1 := ea1.size
              have hla1 := hBa1.lt
              refine Wx.actX [] rfl rfl rfl rfl ([ba1]) (PendK.nil) (acts_store_all (m := 1024) rfl rfl rfl (hBa1.ext (X := []) (by (repeat first | exact .refl _ _ | assumption | refine .trans ?_ (by assumption)); first | done | fail) (by simp)) rfl (by show (rowsV ic (valuesL l K[i] bef)).toArray.size = 1024; simpa using hv1) (by rw [rowsV_length ic_len, tab_length]) (rowsV_all (by simp [Value.oneCell']) _)) (fun _ _ h => h.2.1) ?_
              rintro vs1 ws1 ⟨rfl, qs1, hBs1⟩
              refine Wx.actLast rfl rfl rfl rfl (by kernel_rfl) (acts_store_all (m := 1024) rfl rfl rfl ((hBa2.ext (X := []) (by (repeat first | exact .refl _ _ | assumption | refine .trans ?_ (by assumption)); first | done | fail) (by simp)).ext qs1 (by simp; omega)) rfl (by show (rowsV ic (valuesL l K[i] aft)).toArray.size = 1024; simpa using hv2) (by rw [rowsV_length ic_len, tab_length]) (rowsV_all (by simp [Value.oneCell']) _)) ?_
              rintro vs2 ws2 ⟨rfl, qs2, hBs2⟩
              refine Wx.nil ?_
              (repeat first | refine thenE_normal ?_ | refine blockE_normal ?_ | refine scopeE_normal ?_)
              exact ⟨_, _, sub_cons rfl (sub_cons rfl (sub_cons rfl (sub_cons rfl (sub_cons rfl (sub_cons rfl (sub_cons rfl (sub_cons rfl (sub_cons rfl (sub_cons rfl sub_nil))))))))), Ext.join (X := []) (Ext.join (X := []) (by (repeat first | exact .refl _ _ | assumption | refine .trans ?_ (by assumption)); first | done | fail) qs1 (fun y hy => .inr (by simp only [List.mem_singleton] at hy; omega))) qs2 (fun y hy => .inr (by simp only [List.mem_singleton] at hy; omega)), (hBs1.ext qs2 (by simp; omega)).cells, hBs2.cells⟩
            · refine Br.mk [(5, [], w3)] rfl rfl rfl ([]) (.keep (fun y hy => .inl hy) (PendK.nil)) (acts_alloc_z rfl z70) (fun _ _ h => h.1) [7, 10, 11] (0) (by kernel_rfl) ?_
              rintro va1 wa1 ⟨ea1, ba1, rfl, hba1, hBa1⟩
              have hza1 := ea1.size
              have hla1 := hBa1.lt
              refine Wx.actNew rfl rfl rfl rfl (acts_call rfl rfl rfl (values_at l K[i] aft p A c _ (hsw.ext0 (by (repeat first | exact .refl _ _ | assumption | refine .trans ?_ (by assumption)); first | done | fail)))) ?_
              rintro v9 w9 e9 rfl
              have hz9 := e9.size
              refine Wx.actX [] rfl rfl rfl rfl ([ba1]) (.drop (by kernel_rfl) (PendK.nil)) (acts_store_all (m := 1024) rfl rfl rfl (hBa1.ext (X := []) (by (repeat first | exact .refl _ _ | assumption | refine .trans ?_ (by assumption)); first | done | fail) (by simp)) rfl (by show (rowsV ic (valuesL l K[i] bef)).toArray.size = 1024; simpa using hv1) (by rw [rowsV_length ic_len, tab_length]) (rowsV_all (by simp [Value.oneCell']) _)) (fun _ _ h => h.2.1) ?_
              rintro vs1 ws1 ⟨rfl, qs1, hBs1⟩
              refine Wx.actLast rfl rfl rfl rfl (by kernel_rfl) (acts_store_all (m := 1024) rfl rfl rfl ((hBa2.ext (X := []) (by (repeat first | exact .refl _ _ | assumption | refine .trans ?_ (by assumption)); first | done | fail) (by simp)).ext qs1 (by simp; omega)) rfl (by show (rowsV ic (valuesL l K[i] aft)).toArray.size = 1024; simpa using hv2) (by rw [rowsV_length ic_len, tab_length]) (rowsV_all (by simp [Value.oneCell']) _)) ?_
              rintro vs2 ws2 ⟨rfl, qs2, hBs2⟩
              refine Wx.nil ?_
              (repeat first | refine thenE_normal ?_ | refine blockE_normal ?_ | refine scopeE_normal ?_)
              exact ⟨_, _, sub_cons rfl (sub_cons rfl (sub_cons rfl (sub_cons rfl (sub_cons rfl (sub_cons rfl (sub_cons rfl (sub_cons rfl (sub_cons rfl (sub_cons rfl sub_nil))))))))), Ext.join (X := []) (Ext.join (X := []) (by (repeat first | exact .refl _ _ | assumption | refine .trans ?_ (by assumption)); first | done | fail) qs1 (fun y hy => .inr (by simp only [List.mem_singleton] at hy; omega))) qs2 (fun y hy => .inr (by simp only [List.mem_singleton] at hy; omega)), (hBs1.ext qs2 (by simp; omega)).cells, hBs2.cells⟩
        · refine Br.mk [(5, [], w3), (1, [], w3)] rfl rfl rfl ([]) (.keep (fun y hy => .inl hy) (.keep (fun y hy => .inl hy) (PendK.nil))) (acts_alloc_z rfl z70) (fun _ _ h => h.1) [] (5) (by kernel_rfl) ?_
          rintro va1 wa1 ⟨ea1, ba1, rfl, hba1, hBa1⟩
          have hza1 := ea1.size
          have hla1 := hBa1.lt
          refine Wx.fork (i := 3) (j := 9) (by kernel_rfl) ?_ ?_
          · refine Br.mk [(5, [], w3)] rfl rfl rfl ([]) (.keep (fun y hy => .inl hy) (.drop (by kernel_rfl) (PendK.nil))) (acts_call rfl rfl rfl (values_at l K[i] bef p A c _ (hsw.ext0 (by (repeat first | exact .refl _ _ | assumption | refine .trans ?_ (by assumption)); first | done | fail)))) (fun _ _ h => h.1) [] (4) (by kernel_rfl) ?_
            rintro v10 w10 ⟨e10, rfl⟩
            have hz10 := e10.size
            refine Wx.fork (i := 7) (j := 9) (by kernel_rfl) ?_ ?_
            · refine Br.mk [] rfl rfl rfl ([]) (.drop (by kernel_rfl) (PendK.nil)) (acts_call rfl rfl rfl (values_at l K[i] aft p A c _ (hsw.ext0 (by (repeat first | exact .refl _ _ | assumption | refine .trans ?_ (by assumption)); first | done | fail)))) (fun _ _ h => h.1) [9, 10, 11] (0) (by kernel_rfl) ?_
              rintro v11 w11 ⟨e11, rfl⟩
              have hz11 := e11.size
              refine Wx.actNew rfl rfl rfl rfl (acts_alloc_z rfl z70) ?_
              rintro va2 wa2 ea2 ⟨ba2, rfl, hba2, hBa2⟩
              have hza2 := ea2.size
              have hla2 := hBa2.lt
              refine Wx.actX [] rfl rfl rfl rfl ([ba1]) (PendK.nil) (acts_store_all (m := 1024) rfl rfl rfl (hBa1.ext (X := []) (by (repeat first | exact .refl _ _ | assumption | refine .trans ?_ (by assumption)); first | done | fail) (by simp)) rfl (by show (rowsV ic (valuesL l K[i] bef)).toArray.size = 1024; simpa using hv1) (by rw [rowsV_length ic_len, tab_length]) (rowsV_all (by simp [Value.oneCell']) _)) (fun _ _ h => h.2.1) ?_
              rintro vs1 ws1 ⟨rfl, qs1, hBs1⟩
              refine Wx.actLast rfl rfl rfl rfl (by kernel_rfl) (acts_store_all (m := 1024) rfl rfl rfl ((hBa2.ext (X := []) (by (repeat first | exact .refl _ _ | assumption | refine .trans ?_ (by assumption)); first | done | fail) (by simp)).ext qs1 (by simp; omega)) rfl (by show (rowsV ic (valuesL l K[i] aft)).toArray.size = 1024; simpa using hv2) (by rw [rowsV_length ic_len, tab_length]) (rowsV_all (by simp [Value.oneCell']) _)) ?_
              rintro vs2 ws2 ⟨rfl, qs2, hBs2⟩
              refine Wx.nil ?_
              (repeat first | refine thenE_normal ?_ | refine blockE_normal ?_ | refine scopeE_normal ?_)
              exact ⟨_, _, sub_cons rfl (sub_cons rfl (sub_cons rfl (sub_cons rfl (sub_cons rfl (sub_cons rfl (sub_cons rfl (sub_cons rfl (sub_cons rfl (sub_cons rfl sub_nil))))))))), Ext.join (X := []) (Ext.join (X := []) (by (repeat first | exact .refl _ _ | assumption | refine .trans ?_ (by assumption)); first | done | fail) qs1 (fun y hy => .inr (by simp only [List.mem_singleton] at hy; omega))) qs2 (fun y hy => .inr (by simp only [List.mem_singleton] at hy; omega)), (hBs1.ext qs2 (by simp; omega)).cells, hBs2.cells⟩
            · refine Br.mk [(5, [], w3)] rfl rfl rfl ([]) (.keep (fun y hy => .inl hy) (PendK.nil)) (acts_alloc_z rfl z70) (fun _ _ h => h.1) [7, 10, 11] (0) (by kernel_rfl) ?_
              rintro va2 wa2 ⟨ea2, ba2, rfl, hba2, hBa2⟩
              have hza2 := ea2.size
              have hla2 := hBa2.lt
              refine Wx.actNew rfl rfl rfl rfl (acts_call rfl rfl rfl (values_at l K[i] aft p A c _ (hsw.ext0 (by (repeat first | exact .refl _ _ | assumption | refine .trans ?_ (by assumption)); first | done | fail)))) ?_
              rintro v12 w12 e12 rfl
              have hz12 := e12.size
              refine Wx.actX [] rfl rfl rfl rfl ([ba1]) (.drop (by kernel_rfl) (PendK.nil)) (acts_store_all (m := 1024) rfl rfl rfl (hBa1.ext (X := []) (by (repeat first | exact .refl _ _ | assumption | refine .trans ?_ (by assumption)); first | done | fail) (by simp)) rfl (by show (rowsV ic (valuesL l K[i] bef)).toArray.size = 1024; simpa using hv1) (by rw [rowsV_length ic_len, tab_length]) (rowsV_all (by simp [Value.oneCell']) _)) (fun _ _ h => h.2.1) ?_
              rintro vs1 ws1 ⟨rfl, qs1, hBs1⟩
              refine Wx.actLast rfl rfl rfl rfl (by kernel_rfl) (acts_store_all (m := 1024) rfl rfl rfl ((hBa2.ext (X := []) (by (repeat first | exact .refl _ _ | assumption | refine .trans ?_ (by assumption)); first | done | fail) (by simp)).ext qs1 (by simp; omega)) rfl (by show (rowsV ic (valuesL l K[i] aft)).toArray.size = 1024; simpa using hv2) (by rw [rowsV_length ic_len, tab_length]) (rowsV_all (by simp [Value.oneCell']) _)) ?_
              rintro vs2 ws2 ⟨rfl, qs2, hBs2⟩
              refine Wx.nil ?_
              (repeat first | refine thenE_normal ?_ | refine blockE_normal ?_ | refine scopeE_normal ?_)
              exact ⟨_, _, sub_cons rfl (sub_cons rfl (sub_cons rfl (sub_cons rfl (sub_cons rfl (sub_cons rfl (sub_cons rfl (sub_cons rfl (sub_cons rfl (sub_cons rfl sub_nil))))))))), Ext.join (X := []) (Ext.join (X := []) (by (repeat first | exact .refl _ _ | assumption | refine .trans ?_ (by assumption)); first | done | fail) qs1 (fun y hy => .inr (by simp only [List.mem_singleton] at hy; omega))) qs2 (fun y hy => .inr (by simp only [List.mem_singleton] at hy; omega)), (hBs1.ext qs2 (by simp; omega)).cells, hBs2.cells⟩
          · refine Br.mk [(5, [], w3), (1, [], w3)] rfl rfl rfl ([]) (.keep (fun y hy => .inl hy) (.keep (fun y hy => .inl hy) (PendK.nil))) (acts_alloc_z rfl z70) (fun _ _ h => h.1) [3, 7, 10, 11] (0) (by kernel_rfl) ?_
            rintro va2 wa2 ⟨ea2, ba2, rfl, hba2, hBa2⟩
            have hza2 := ea2.size
            have hla2 := hBa2.lt
            refine Wx.actNew rfl rfl rfl rfl (acts_call rfl rfl rfl (values_at l K[i] bef p A c _ (hsw.ext0 (by (repeat first | exact .refl _ _ | assumption | refine .trans ?_ (by assumption)); first | done | fail)))) ?_
            rintro v13 w13 e13 rfl
            have hz13 := e13.size
            refine Wx.actNew rfl rfl rfl rfl (acts_call rfl rfl rfl (values_at l K[i] aft p A c _ (hsw.ext0 (by (repeat first | exact .refl _ _ | assumption | refine .trans ?_ (by assumption)); first | done | fail)))) ?_
            rintro v14 w14 e14 rfl
            have hz14 := e14.size
            refine Wx.actX [] rfl rfl rfl rfl ([ba1]) (.drop (by kernel_rfl) (.drop (by kernel_rfl) (PendK.nil))) (acts_store_all (m := 1024) rfl rfl rfl (hBa1.ext (X := []) (by (repeat first | exact .refl _ _ | assumption | refine .trans ?_ (by assumption)); first | done | fail) (by simp)) rfl (by show (rowsV ic (valuesL l K[i] bef)).toArray.size = 1024; simpa using hv1) (by rw [rowsV_length ic_len, tab_length]) (rowsV_all (by simp [Value.oneCell']) _)) (fun _ _ h => h.2.1) ?_
            rintro vs1 ws1 ⟨rfl, qs1, hBs1⟩
            refine Wx.actLast rfl rfl rfl rfl (by kernel_rfl) (acts_store_all (m := 1024) rfl rfl rfl ((hBa2.ext (X := []) (by (repeat first | exact .refl _ _ | assumption | refine .trans ?_ (by assumption)); first | done | fail) (by simp)).ext qs1 (by simp; omega)) rfl (by show (rowsV ic (valuesL l K[i] aft)).toArray.size = 1024; simpa using hv2) (by rw [rowsV_length ic_len, tab_length]) (rowsV_all (by simp [Value.oneCell']) _)) ?_
            rintro vs2 ws2 ⟨rfl, qs2, hBs2⟩
            refine Wx.nil ?_
            (repeat first | refine thenE_normal ?_ | refine blockE_normal ?_ | refine scopeE_normal ?_)
            exact ⟨_, _, sub_cons rfl (sub_cons rfl (sub_cons rfl (sub_cons rfl (sub_cons rfl (sub_cons rfl (sub_cons rfl (sub_cons rfl (sub_cons rfl (sub_cons rfl sub_nil))))))))), Ext.join (X := []) (Ext.join (X := []) (by (repeat first | exact .refl _ _ | assumption | refine .trans ?_ (by assumption)); first | done | fail) qs1 (fun y hy => .inr (by simp only [List.mem_singleton] at hy; omega))) qs2 (fun y hy => .inr (by simp only [List.mem_singleton] at hy; omega)), (hBs1.ext qs2 (by simp; omega)).cells, hBs2.cells⟩
        · refine Br.mk [(5, [], w3), (1, [], w3)] rfl rfl rfl ([]) (.keep (fun y hy => .inl hy) (.keep (fun y hy => .inl hy) (PendK.nil))) (acts_alloc_z rfl z70) (fun _ _ h => h.1) [] (5) (by kernel_rfl) ?_
          rintro va2 wa2 ⟨ea2, ba2, rfl, hba2, hBa2⟩
          have hza2 := ea2.size
          have hla2 := hBa2.lt
          refine Wx.fork (i := 3) (j := 8) (by kernel_rfl) ?_ ?_
          · refine Br.mk [(5, [], w3)] rfl rfl rfl ([]) (.keep (fun y hy => .inl hy) (.drop (by kernel_rfl) (PendK.nil))) (acts_call rfl rfl rfl (values_at l K[i] bef p A c _ (hsw.ext0 (by (repeat first | exact .refl _ _ | assumption | refine .trans ?_ (by assumption)); first | done | fail)))) (fun _ _ h => h.1) [] (4) (by kernel_rfl) ?_
            rintro v15 w15 ⟨e15, rfl⟩
            have hz15 := e15.size
            refine Wx.fork (i := 7) (j := 8) (by kernel_rfl) ?_ ?_
            · refine Br.mk [] rfl rfl rfl ([]) (.drop (by kernel_rfl) (PendK.nil)) (acts_call rfl rfl rfl (values_at l K[i] aft p A c _ (hsw.ext0 (by (repeat first | exact .refl _ _ | assumption | refine .trans ?_ (by assumption)); first | done | fail)))) (fun _ _ h => h.1) [8, 10, 11] (0) (by kernel_rfl) ?_
              rintro v16 w16 ⟨e16, rfl⟩
              have hz16 := e16.size
              refine Wx.actNew rfl rfl rfl rfl (acts_alloc_z rfl z70) ?_
              rintro va1 wa1 ea1 ⟨ba1, rfl, hba1, hBa1⟩
              have hza1 := ea1.size
              have hla1 := hBa1.lt
              refine Wx.actX [] rfl rfl rfl rfl ([ba1]) (PendK.nil) (acts_store_all (m := 1024) rfl rfl rfl (hBa1.ext (X := []) (by (repeat first | exact .refl _ _ | assumption | refine .trans ?_ (by assumption)); first | done | fail) (by simp)) rfl (by show (rowsV ic (valuesL l K[i] bef)).toArray.size = 1024; simpa using hv1) (by rw [rowsV_length ic_len, tab_length]) (rowsV_all (by simp [Value.oneCell']) _)) (fun _ _ h => h.2.1) ?_
              rintro vs1 ws1 ⟨rfl, qs1, hBs1⟩
              refine Wx.actLast rfl rfl rfl rfl (by kernel_rfl) (acts_store_all (m := 1024) rfl rfl rfl ((hBa2.ext (X := []) (by (repeat first | exact .refl _ _ | assumption | refine .trans ?_ (by assumption)); first | done | fail) (by simp)).ext qs1 (by simp; omega)) rfl (by show (rowsV ic (valuesL l K[i] aft)).toArray.size = 1024; simpa using hv2) (by rw [rowsV_length ic_len, tab_length]) (rowsV_all (by simp [Value.oneCell']) _)) ?_
              rintro vs2 ws2 ⟨rfl, qs2, hBs2⟩
              refine Wx.nil ?_
              (repeat first | refine thenE_normal ?_ | refine blockE_normal ?_ | refine scopeE_normal ?_)
              exact ⟨_, _, sub_cons rfl (sub_cons rfl (sub_cons rfl (sub_cons rfl (sub_cons rfl (sub_cons rfl (sub_cons rfl (sub_cons rfl (sub_cons rfl (sub_cons rfl sub_nil))))))))), Ext.join (X := []) (Ext.join (X := []) (by (repeat first | exact .refl _ _ | assumption | refine .trans ?_ (by assumption)); first | done | fail) qs1 (fun y hy => .inr (by simp only [List.mem_singleton] at hy; omega))) qs2 (fun y hy => .inr (by simp only [List.mem_singleton] at hy; omega)), (hBs1.ext qs2 (by simp; omega)).cells, hBs2.cells⟩
            · refine Br.mk [(5, [], w3)] rfl rfl rfl ([]) (.keep (fun y hy => .inl hy) (PendK.nil)) (acts_alloc_z rfl z70) (fun _ _ h => h.1) [7, 10, 11] (0) (by kernel_rfl) ?_
              rintro va1 wa1 ⟨ea1, ba1, rfl, hba1, hBa1⟩
              have hza1 := ea1.size
              have hla1 := hBa1.lt
              refine Wx.actNew rfl rfl rfl rfl (acts_call rfl rfl rfl (values_at l K[i] aft p A c _ (hsw.ext0 (by (repeat first | exact .refl _ _ | assumption | refine .trans ?_ (by assumption)); first | done | fail)))) ?_
              rintro v17 w17 e17 rfl
              have hz17 := e17.size
              refine Wx.actX [] rfl rfl rfl rfl ([ba1]) (.drop (by kernel_rfl) (PendK.nil)) (acts_store_all (m := 1024) rfl rfl rfl (hBa1.ext (X := []) (by (repeat first | exact .refl _ _ | assumption | refine .trans ?_ (by assumption)); first | done | fail) (by simp)) rfl (by show (rowsV ic (valuesL l K[i] bef)).toArray.size = 1024; simpa using hv1) (by rw [rowsV_length ic_len, tab_length]) (rowsV_all (by simp [Value.oneCell']) _)) (fun _ _ h => h.2.1) ?_
              rintro vs1 ws1 ⟨rfl, qs1, hBs1⟩
              refine Wx.actLast rfl rfl rfl rfl (by kernel_rfl) (acts_store_all (m := 1024) rfl rfl rfl ((hBa2.ext (X := []) (by (repeat first | exact .refl _ _ | assumption | refine .trans ?_ (by assumption)); first | done | fail) (by simp)).ext qs1 (by simp; omega)) rfl (by show (rowsV ic (valuesL l K[i] aft)).toArray.size = 1024; simpa using hv2) (by rw [rowsV_length ic_len, tab_length]) (rowsV_all (by simp [Value.oneCell']) _)) ?_
              rintro vs2 ws2 ⟨rfl, qs2, hBs2⟩
              refine Wx.nil ?_
              (repeat first | refine thenE_normal ?_ | refine blockE_normal ?_ | refine scopeE_normal ?_)
              exact ⟨_, _, sub_cons rfl (sub_cons rfl (sub_cons rfl (sub_cons rfl (sub_cons rfl (sub_cons rfl (sub_cons rfl (sub_cons rfl (sub_cons rfl (sub_cons rfl sub_nil))))))))), Ext.join (X := []) (Ext.join (X := []) (by (repeat first | exact .refl _ _ | assumption | refine .trans ?_ (by assumption)); first | done | fail) qs1 (fun y hy => .inr (by simp only [List.mem_singleton] at hy; omega))) qs2 (fun y hy => .inr (by simp only [List.mem_singleton] at hy; omega)), (hBs1.ext qs2 (by simp; omega)).cells, hBs2.cells⟩
          · refine Br.mk [(5, [], w3), (1, [], w3)] rfl rfl rfl ([]) (.keep (fun y hy => .inl hy) (.keep (fun y hy => .inl hy) (PendK.nil))) (acts_alloc_z rfl z70) (fun _ _ h => h.1) [3, 7, 10, 11] (0) (by kernel_rfl) ?_
            rintro va1 wa1 ⟨ea1, ba1, rfl, hba1, hBa1⟩
            have hza1 := ea1.size
            have hla1 := hBa1.lt
            refine Wx.actNew rfl rfl rfl rfl (acts_call rfl rfl rfl (values_at l K[i] bef p A c _ (hsw.ext0 (by (repeat first | exact .refl _ _ | assumption | refine .trans ?_ (by assumption)); first | done | fail)))) ?_
            rintro v18 w18 e18 rfl
            have hz18 := e18.size
            refine Wx.actNew rfl rfl rfl rfl (acts_call rfl rfl rfl (values_at l K[i] aft p A c _ (hsw.ext0 (by (repeat first | exact .refl _ _ | assumption | refine .trans ?_ (by assumption)); first | done | fail)))) ?_
            rintro v19 w19 e19 rfl
            have hz19 := e19.size
            refine Wx.actX [] rfl rfl rfl rfl ([ba1]) (.drop (by kernel_rfl) (.drop (by kernel_rfl) (PendK.nil))) (acts_store_all (m := 1024) rfl rfl rfl (hBa1.ext (X := []) (by (repeat first | exact .refl _ _ | assumption | refine .trans ?_ (by assumption)); first | done | fail) (by simp)) rfl (by show (rowsV ic (valuesL l K[i] bef)).toArray.size = 1024; simpa using hv1) (by rw [rowsV_length ic_len, tab_length]) (rowsV_all (by simp [Value.oneCell']) _)) (fun _ _ h => h.2.1) ?_
            rintro vs1 ws1 ⟨rfl, qs1, hBs1⟩
            refine Wx.actLast rfl rfl rfl rfl (by kernel_rfl) (acts_store_all (m := 1024) rfl rfl rfl ((hBa2.ext (X := []) (by (repeat first | exact .refl _ _ | assumption | refine .trans ?_ (by assumption)); first | done | fail) (by simp)).ext qs1 (by simp; omega)) rfl (by show (rowsV ic (valuesL l K[i] aft)).toArray.size = 1024; simpa using hv2) (by rw [rowsV_length ic_len, tab_length]) (rowsV_all (by simp [Value.oneCell']) _)) ?_
            rintro vs2 ws2 ⟨rfl, qs2, hBs2⟩
            refine Wx.nil ?_
            (repeat first | refine thenE_normal ?_ | refine blockE_normal ?_ | refine scopeE_normal ?_)
            exact ⟨_, _, sub_cons rfl (sub_cons rfl (sub_cons rfl (sub_cons rfl (sub_cons rfl (sub_cons rfl (sub_cons rfl (sub_cons rfl (sub_cons rfl (sub_cons rfl sub_nil))))))))), Ext.join (X := []) (Ext.join (X := []) (by (repeat first | exact .refl _ _ | assumption | refine .trans ?_ (by assumption)); first | done | fail) qs1 (fun y hy => .inr (by simp only [List.mem_singleton] at hy; omega))) qs2 (fun y hy => .inr (by simp only [List.mem_singleton] at hy; omega)), (hBs1.ext qs2 (by simp; omega)).cells, hBs2.cells⟩
      · rintro E' wn ⟨x, y, hsub, en, hCx, hCy⟩
        refine thenE_normal (Sx.weaken ?_ hsub)
        have ern : Ext [] wr wn := by (repeat first | exact .refl _ _ | assumption | refine .trans ?_ (by assumption)); first | done | fail
        have hzn := ern.size
        have hCkn : Cells wn ⟨bal, 0, none⟩ (kc K[i]) := hCk.ext0 en
        have hownN := hown.ext ern
        have hokn := own_keep0 hokr ern
        (repeat refine Sx.seq ?_)
        refine Sx.textR ?_
        refine Ox.pure rfl rfl (rp_assign rfl rfl) ?_
        refine Ox.nil ?_
        (repeat first | refine thenE_normal ?_ | refine blockE_normal ?_ | refine scopeE_normal ?_)
        (repeat refine Sx.seq ?_); refine Sx.label ?_
        (repeat first | refine thenE_normal ?_ | refine blockE_normal ?_ | refine scopeE_normal ?_)
        refine Sx.seq (Sx.upto (fun E' w' => ∃ dv, (∀ t u, get [(0, .slice p l.length c), (1, .int .i64 bef), (2, .int .i64 aft), (6, v), (30, .slice q K.length kcap), (31, .int .i64 (K.length : Int)), (32, .int .i64 (i : Int)), (11, .pointer (some ⟨bal, 0, none⟩)), (14, dv)] t = some u → get E' t = some u) ∧ Ext [] wn w' ∧ OwnSp wn.heap.size w' dv (daysTo l K[i] bef aft 1024)) ?_ ?_)
        · (repeat refine Sx.seq ?_)
          refine Sx.textR ?_
          refine Ox.pure rfl rfl (rp_move rfl rfl) ?_
          refine Ox.nil ?_
          (repeat first | refine thenE_normal ?_ | refine blockE_normal ?_ | refine scopeE_normal ?_)
          (repeat refine Sx.seq ?_); refine Sx.block ?_
          refine Sx.loop (ι := Nat × Value) (fun j E wk => E = [(0, .slice p l.length c), (1, .int .i64 bef), (2, .int .i64 aft), (6, v), (30, .slice q K.length kcap), (31, .int .i64 (K.length : Int)), (32, .int .i64 (i : Int)), (11, .pointer (some ⟨bal, 0, none⟩)), (12, .pointer (some ⟨x, 0, none⟩)), (13, .pointer (some ⟨y, 0, none⟩)), (14, j.2), (44, .int .i64 (j.1 : Int))] ∧ j.1 ≤ 1024 ∧ Ext [] wn wk ∧ OwnSp wn.heap.size wk j.2 (daysTo l K[i] bef aft j.1)) (fun j => 1024 - j.1) (0, nilS)
            (sub_cons rfl (sub_cons rfl (sub_cons rfl (sub_cons rfl (sub_cons rfl (sub_cons rfl (sub_cons rfl (sub_cons rfl (sub_cons rfl (sub_cons rfl (sub_cons rfl (sub_cons rfl sub_nil)))))))))))) ⟨rfl, Nat.zero_le _, by (repeat first | exact .refl _ _ | assumption | refine .trans ?_ (by assumption)); first | done | fail, World.ownsRow_nil _ _ _ _⟩ ?_
          rintro ⟨j, dv⟩ E wk ⟨rfl, hj, ek, hod⟩
          dsimp only at hj hod ⊢
          have hzk := ek.size
          by_cases hjl : j < 1024
          · have hdle := daysTo_le l K[i] bef aft j
            have hstep : daysTo l K[i] bef aft (j + 1) = if diffL l K[i] bef aft (j : Int) then dayAdd (daysTo l K[i] bef aft j) j else daysTo l K[i] bef aft j := rfl
            have hdr := diff_row l K[i] bef aft (j : Int)
            have hvx := valuesL_at l K[i] bef hjl
            have hvy := valuesL_at l K[i] aft hjl
            generalize rowO (bestL l K[i] (j : Int) bef) = va at *
            generalize rowO (bestL l K[i] (j : Int) aft) = vb at *
            obtain ⟨dp, dc, D, rfl, hsD, hlD⟩ := SlV.of_own hod (by omega)
            by_cases hdf : va = vb
            · rw [if_neg (fun h => hdr.1 h hdf)] at hstep
              (repeat refine Sx.seq ?_)
              refine Sx.textR ?_
              refine Ox.pure rfl rfl (by first | exact rp_bin rfl rfl rfl (binI_t (by omega)) | exact rp_bin rfl rfl rfl (binI_f (by omega)) | exact rp_bin rfl rfl rfl rfl) ?_
              refine Ox.nil ?_
              (repeat first | refine thenE_normal ?_ | refine blockE_normal ?_ | refine scopeE_normal ?_)
              (repeat refine Sx.seq ?_); first | refine Sx.cond_true rfl ?_ | refine Sx.cond rfl (fun _ => ?_) (fun h => absurd h (by simp [*]))
              (repeat refine Sx.seq ?_); refine Sx.skip ?_
              (repeat first | refine thenE_normal ?_ | refine blockE_normal ?_ | refine scopeE_normal ?_)
              (repeat refine Sx.seq ?_); refine Sx.block ?_
              (repeat refine Sx.seq ?_)
              refine Sx.textR ?_
              refine Ox.pure rfl rfl (rp_move rfl rfl) ?_
              refine Ox.pure rfl rfl (rp_assign rfl rfl) ?_
              refine Ox.nil ?_
              (repeat first | refine thenE_normal ?_ | refine blockE_normal ?_ | refine scopeE_normal ?_)
              (repeat refine Sx.seq ?_)
              refine Sx.walkR rfl (fun _ _ _ _ h => h) [0, 1, 2, 3, 4, 5, 6] [0, 1, 2, 3, 4, 5, 6] (0) (by kernel_rfl) ?_
              intro hq w20 e20; have hz20 := e20.size
              refine Wx.pure hq rfl rfl rfl rfl (rp_move rfl rfl) ?_
              refine Wx.pure hq rfl rfl rfl rfl (rp_indexArr j rfl rfl rfl rfl rfl rfl (by omega)) ?_
              refine Wx.val hq rfl rfl rfl rfl ([]) (rv_load rfl rfl (fun u hu => (hCx.ext0 (by (repeat first | exact .refl _ _ | assumption | refine .trans ?_ (by assumption)); first | done | fail)).ld _ rfl hvx)) ?_
              refine Wx.pure hq rfl rfl rfl rfl (rp_move rfl rfl) ?_
              refine Wx.pure hq rfl rfl rfl rfl (rp_indexArr j rfl rfl rfl rfl rfl rfl (by omega)) ?_
              refine Wx.val hq rfl rfl rfl rfl ([]) (rv_load rfl rfl (fun u hu => (hCy.ext0 (by (repeat first | exact .refl _ _ | assumption | refine .trans ?_ (by assumption)); first | done | fail)).ld _ rfl hvy)) ?_
              refine Wx.pure hq rfl rfl rfl rfl (by first | exact rp_bin rfl rfl rfl (binI_t (by omega)) | exact rp_bin rfl rfl rfl (binI_f (by omega)) | exact rp_bin rfl rfl rfl rfl) ?_
              refine Wx.nil ?_
              (repeat first | refine thenE_normal ?_ | refine blockE_normal ?_ | refine scopeE_normal ?_)
              (repeat refine Sx.seq ?_); first | refine Sx.cond_true rfl ?_ | refine Sx.cond rfl (fun _ => ?_) (fun h => absurd h (by simp [*]))
              (repeat refine Sx.seq ?_); refine Sx.exit ?_
              (repeat first | refine thenE_exit ?_ | refine blockE_same ?_ | refine blockE_other rfl ?_ | refine scopeE_exit ?_ | refine thenE_normal ?_ | refine blockE_normal ?_ | refine scopeE_normal ?_)
              (repeat refine Sx.seq ?_)
              refine Sx.textR ?_
              refine Ox.pure rfl rfl (by first | exact rp_bin rfl rfl rfl (binI_fit_add (wrap64 (by omega))) | exact rp_bin rfl rfl rfl rfl) ?_
              refine Ox.pure rfl rfl (rp_move rfl rfl) ?_
              refine Ox.nil ?_
              (repeat first | refine thenE_normal ?_ | refine blockE_normal ?_ | refine scopeE_normal ?_)
              exact ⟨(j + 1, _), _, sub_cons rfl (sub_cons rfl (sub_cons rfl (sub_cons rfl (sub_cons rfl (sub_cons rfl (sub_cons rfl (sub_cons rfl (sub_cons rfl (sub_cons rfl (sub_cons rfl (sub_cons rfl sub_nil))))))))))), ⟨rfl, hjl, by (repeat first | exact .refl _ _ | assumption | refine .trans ?_ (by assumption)); first | done | fail, by dsimp only; rw [hstep]; exact own_keep0 hod (by (repeat first | exact .refl _ _ | assumption | refine .trans ?_ (by assumption)); first | done | fail)⟩, by dsimp only; omega⟩
            rw [if_pos (hdr.2 hdf)] at hstep
            generalize hD : daysTo l K[i] bef aft j = dl at *
            have hdp := hsD.ptr
            have hrowD := hsD.row
            have finNew : dayAdd dl j = dl ++ [((j : Int), (j : Int) + 1)] → ∀ v' w1 w', Ext [] wk w1 → Grew wn.heap.size 55 2 w1 (.slice dp dl.length dc) (dl.length + 1) (rowsV pc dl ++ pc ((j : Int), (j : Int) + 1)) v' w' → Ext [] wn w' ∧ OwnSp wn.heap.size w' v' (daysTo l K[i] bef aft (j + 1)) := fun hda v' w1 w' e1 hg => by
              refine ⟨hg.ext0 (by (repeat first | exact .refl _ _ | assumption | refine .trans ?_ (by assumption)); first | done | fail) (fun g hg => (own_lt hod g (by simp [hg])).1), ?_⟩
              rw [hstep, hda]
              have := hg.own
              unfold OwnSp
              rw [List.length_append, rowsV_append, rowsV_one]
              exact this
            by_cases hlen : 0 < dl.length
            · have hn1 : dl.length - 1 < dl.length := by omega
              by_cases he : (dl[dl.length - 1]'hn1).2 = (j : Int)
              · (repeat refine Sx.seq ?_)
                refine Sx.textR ?_
                refine Ox.pure rfl rfl (by first | exact rp_bin rfl rfl rfl (binI_t (by omega)) | exact rp_bin rfl rfl rfl (binI_f (by omega)) | exact rp_bin rfl rfl rfl rfl) ?_
                refine Ox.nil ?_
                (repeat first | refine thenE_normal ?_ | refine blockE_normal ?_ | refine scopeE_normal ?_)
                (repeat refine Sx.seq ?_); first | refine Sx.cond_true rfl ?_ | refine Sx.cond rfl (fun _ => ?_) (fun h => absurd h (by simp [*]))
                (repeat refine Sx.seq ?_); refine Sx.skip ?_
                (repeat first | refine thenE_normal ?_ | refine blockE_normal ?_ | refine scopeE_normal ?_)
                (repeat refine Sx.seq ?_); refine Sx.block ?_
                (repeat refine Sx.seq ?_)
                refine Sx.textR ?_
                refine Ox.pure rfl rfl (rp_move rfl rfl) ?_
                refine Ox.pure rfl rfl (rp_assign rfl rfl) ?_
                refine Ox.nil ?_
                (repeat first | refine thenE_normal ?_ | refine blockE_normal ?_ | refine scopeE_normal ?_)
                (repeat refine Sx.seq ?_)
                refine Sx.walkR rfl (fun _ _ _ _ h => h) [0, 1, 2, 3, 4, 5, 6] [0, 1, 2, 3, 4, 5, 6] (0) (by kernel_rfl) ?_
                intro hq w21 e21; have hz21 := e21.size
                refine Wx.pure hq rfl rfl rfl rfl (rp_move rfl rfl) ?_
                refine Wx.pure hq rfl rfl rfl rfl (rp_indexArr j rfl rfl rfl rfl rfl rfl (by omega)) ?_
                refine Wx.val hq rfl rfl rfl rfl ([]) (rv_load rfl rfl (fun u hu => (hCx.ext0 (by (repeat first | exact .refl _ _ | assumption | refine .trans ?_ (by assumption)); first | done | fail)).ld _ rfl hvx)) ?_
                refine Wx.pure hq rfl rfl rfl rfl (rp_move rfl rfl) ?_
                refine Wx.pure hq rfl rfl rfl rfl (rp_indexArr j rfl rfl rfl rfl rfl rfl (by omega)) ?_
                refine Wx.val hq rfl rfl rfl rfl ([]) (rv_load rfl rfl (fun u hu => (hCy.ext0 (by (repeat first | exact .refl _ _ | assumption | refine .trans ?_ (by assumption)); first | done | fail)).ld _ rfl hvy)) ?_
                refine Wx.pure hq rfl rfl rfl rfl (by first | exact rp_bin rfl rfl rfl (binI_t (by omega)) | exact rp_bin rfl rfl rfl (binI_f (by omega)) | exact rp_bin rfl rfl rfl rfl) ?_
                refine Wx.nil ?_
                (repeat first | refine thenE_normal ?_ | refine blockE_normal ?_ | refine scopeE_normal ?_)
                (repeat refine Sx.seq ?_); first | refine Sx.cond_false rfl ?_ | refine Sx.cond rfl (fun h => absurd h (by simp [*])) (fun _ => ?_)
                (repeat refine Sx.seq ?_); refine Sx.skip ?_
                (repeat first | refine thenE_normal ?_ | refine blockE_normal ?_ | refine scopeE_normal ?_)
                (repeat refine Sx.seq ?_)
                refine Sx.textR ?_
                refine Ox.pure rfl rfl (rp_move rfl rfl) ?_
                refine Ox.pure rfl rfl (rp_lenS rfl rfl rfl) ?_
                refine Ox.pure rfl rfl (rp_assign rfl rfl) ?_
                refine Ox.nil ?_
                (repeat first | refine thenE_normal ?_ | refine blockE_normal ?_ | refine scopeE_normal ?_)
                (repeat refine Sx.seq ?_)
                refine Sx.textR ?_
                refine Ox.pure rfl rfl (rp_move rfl rfl) ?_
                refine Ox.pure rfl rfl (by first | exact rp_bin rfl rfl rfl (binI_t (by omega)) | exact rp_bin rfl rfl rfl (binI_f (by omega)) | exact rp_bin rfl rfl rfl rfl) ?_
                refine Ox.pure rfl rfl (rp_move rfl rfl) ?_
                first | (refine Ox.skip rfl rfl ?_) | (refine Ox.pure rfl rfl (rp_move rfl rfl) ?_)
                first | (refine Ox.skip rfl rfl ?_) | (refine Ox.pure rfl rfl (rp_move rfl rfl) ?_)
                first | (refine Ox.skip rfl rfl ?_) | (refine Ox.pure rfl rfl (by first | exact rp_bin rfl rfl rfl (binI_fit_sub (wrap64 (by omega))) | exact rp_bin rfl rfl rfl rfl) ?_)
                first | (refine Ox.skip rfl rfl ?_) | (refine Ox.pure rfl rfl (rp_indexAddr (dl.length - 1) rfl rfl rfl rfl rfl (by assumption) (by omega) (by omega)) ?_)
                first | (refine Ox.skip rfl rfl ?_) | (refine Ox.pure rfl rfl (by first | exact rp_fieldAddr2 rfl rfl rfl rfl | exact rp_fieldAddr rfl rfl rfl rfl) ?_)
                first | (refine Ox.skip rfl rfl ?_) | (refine Ox.val rfl rfl (rv_load rfl rfl (fun u hu => ld_field pc_len (hrowD.ext0 (by (repeat first | exact .refl _ _ | assumption | refine .trans ?_ (by assumption)); first | done | fail)) hn1 1 rfl (by decide) rfl)) ?_)
                first | (refine Ox.skip rfl rfl ?_) | (refine Ox.pure rfl rfl (rp_move rfl rfl) ?_)
                first | (refine Ox.skip rfl rfl ?_) | (refine Ox.pure rfl rfl (by first | exact rp_bin rfl rfl rfl (binI_t (by omega)) | exact rp_bin rfl rfl rfl (binI_f (by omega)) | exact rp_bin rfl rfl rfl rfl) ?_)
                refine Ox.pure rfl rfl (by first | exact rp_pick_t rfl rfl rfl | exact rp_pick_f rfl rfl rfl) ?_
                refine Ox.nil ?_
                (repeat first | refine thenE_normal ?_ | refine blockE_normal ?_ | refine scopeE_normal ?_)
                (repeat refine Sx.seq ?_); first | refine Sx.cond_true rfl ?_ | refine Sx.cond rfl (fun _ => ?_) (fun h => absurd h (by simp [*]))
                (repeat refine Sx.seq ?_)
                refine Sx.textR ?_
                refine Ox.pure rfl rfl (rp_move rfl rfl) ?_
                refine Ox.pure rfl rfl (rp_move rfl rfl) ?_
                refine Ox.pure rfl rfl (by first | exact rp_bin rfl rfl rfl (binI_fit_sub (wrap64 (by omega))) | exact rp_bin rfl rfl rfl rfl) ?_
                refine Ox.pure rfl rfl (rp_indexAddr (dl.length - 1) rfl rfl rfl rfl rfl (by assumption) (by omega) (by omega)) ?_
                refine Ox.pure rfl rfl (by first | exact rp_fieldAddr2 rfl rfl rfl rfl | exact rp_fieldAddr rfl rfl rfl rfl) ?_
                refine Ox.val rfl rfl (rv_load rfl rfl (fun u hu => ld_field pc_len (hrowD.ext0 (by (repeat first | exact .refl _ _ | assumption | refine .trans ?_ (by assumption)); first | done | fail)) hn1 1 rfl (by decide) rfl)) ?_
                refine Ox.pure rfl rfl (by first | exact rp_bin rfl rfl rfl (binI_fit_add (wrap64 (by omega))) | exact rp_bin rfl rfl rfl rfl) ?_
                refine Ox.pure rfl rfl (rp_indexAddr (dl.length - 1) rfl rfl rfl rfl rfl (by assumption) (by omega) (by omega)) ?_
                refine Ox.pure rfl rfl (by first | exact rp_fieldAddr2 rfl rfl rfl rfl | exact rp_fieldAddr rfl rfl rfl rfl) ?_
                refine Ox.act rfl rfl (acts_store_own_at (enc := pc) pc_len 1 ((dl[dl.length - 1]'hn1).1, (j : Int) + 1) rfl rfl rfl hn1 (by rw [he]; rfl) (by simp [Value.cells]) rfl (own_keep0 hod (by (repeat first | exact .refl _ _ | assumption | refine .trans ?_ (by assumption)); first | done | fail)) hdp (by simp [Value.cells, Value.oneCell'])) ?_
                rintro vst2 wst2 ⟨rfl, qst2, hbst2⟩
                refine Ox.nil ?_
                (repeat first | refine thenE_normal ?_ | refine blockE_normal ?_ | refine scopeE_normal ?_)
                (repeat refine Sx.seq ?_); refine Sx.exit ?_
                (repeat first | refine thenE_exit ?_ | refine blockE_same ?_ | refine blockE_other rfl ?_ | refine scopeE_exit ?_ | refine thenE_normal ?_ | refine blockE_normal ?_ | refine scopeE_normal ?_)
                (repeat refine Sx.seq ?_)
                refine Sx.textR ?_
                refine Ox.pure rfl rfl (by first | exact rp_bin rfl rfl rfl (binI_fit_add (wrap64 (by omega))) | exact rp_bin rfl rfl rfl rfl) ?_
                refine Ox.pure rfl rfl (rp_move rfl rfl) ?_
                refine Ox.nil ?_
                (repeat first | refine thenE_normal ?_ | refine blockE_normal ?_ | refine scopeE_normal ?_)
                refine ⟨(j + 1, .slice dp dl.length dc), _, sub_cons rfl (sub_cons rfl (sub_cons rfl (sub_cons rfl (sub_cons rfl (sub_cons rfl (sub_cons rfl (sub_cons rfl (sub_cons rfl (sub_cons rfl (sub_cons rfl (sub_cons rfl sub_nil))))))))))), ⟨rfl, hjl, Ext.join (X := []) (by (repeat first | exact .refl _ _ | assumption | refine .trans ?_ (by assumption)); first | done | fail) qst2 (fun y hy => .inr (own_lt hod y hy).1), ?_⟩, by dsimp only; omega⟩
                dsimp only
                rw [hstep, dayAdd_join hlen he]
                unfold OwnSp
                rw [List.length_set]
                exact hbst2
              · (repeat refine Sx.seq ?_)
                refine Sx.textR ?_
                refine Ox.pure rfl rfl (by first | exact rp_bin rfl rfl rfl (binI_t (by omega)) | exact rp_bin rfl rfl rfl (binI_f (by omega)) | exact rp_bin rfl rfl rfl rfl) ?_
                refine Ox.nil ?_
                (repeat first | refine thenE_normal ?_ | refine blockE_normal ?_ | refine scopeE_normal ?_)
                (repeat refine Sx.seq ?_); first | refine Sx.cond_true rfl ?_ | refine Sx.cond rfl (fun _ => ?_) (fun h => absurd h (by simp [*]))
                (repeat refine Sx.seq ?_); refine Sx.skip ?_
                (repeat first | refine thenE_normal ?_ | refine blockE_normal ?_ | refine scopeE_normal ?_)
                (repeat refine Sx.seq ?_); refine Sx.block ?_
                (repeat refine Sx.seq ?_)
                refine Sx.textR ?_
                refine Ox.pure rfl rfl (rp_move rfl rfl) ?_
                refine Ox.pure rfl rfl (rp_assign rfl rfl) ?_
                refine Ox.nil ?_
                (repeat first | refine thenE_normal ?_ | refine blockE_normal ?_ | refine scopeE_normal ?_)
                (repeat refine Sx.seq ?_)
                refine Sx.walkR rfl (fun _ _ _ _ h => h) [0, 1, 2, 3, 4, 5, 6] [0, 1, 2, 3, 4, 5, 6] (0) (by kernel_rfl) ?_
                intro hq w22 e22; have hz22 := e22.size
                refine Wx.pure hq rfl rfl rfl rfl (rp_move rfl rfl) ?_
                refine Wx.pure hq rfl rfl rfl rfl (rp_indexArr j rfl rfl rfl rfl rfl rfl (by omega)) ?_
                refine Wx.val hq rfl rfl rfl rfl ([]) (rv_load rfl rfl (fun u hu => (hCx.ext0 (by (repeat first | exact .refl _ _ | assumption | refine .trans ?_ (by assumption)); first | done | fail)).ld _ rfl hvx)) ?_
                refine Wx.pure hq rfl rfl rfl rfl (rp_move rfl rfl) ?_
                refine Wx.pure hq rfl rfl rfl rfl (rp_indexArr j rfl rfl rfl rfl rfl rfl (by omega)) ?_
                refine Wx.val hq rfl rfl rfl rfl ([]) (rv_load rfl rfl (fun u hu => (hCy.ext0 (by (repeat first | exact .refl _ _ | assumption | refine .trans ?_ (by assumption)); first | done | fail)).ld _ rfl hvy)) ?_
                refine Wx.pure hq rfl rfl rfl rfl (by first | exact rp_bin rfl rfl rfl (binI_t (by omega)) | exact rp_bin rfl rfl rfl (binI_f (by omega)) | exact rp_bin rfl rfl rfl rfl) ?_
                refine Wx.nil ?_
                (repeat first | refine thenE_normal ?_ | refine blockE_normal ?_ | refine scopeE_normal ?_)
                (repeat refine Sx.seq ?_); first | refine Sx.cond_false rfl ?_ | refine Sx.cond rfl (fun h => absurd h (by simp [*])) (fun _ => ?_)
                (repeat refine Sx.seq ?_); refine Sx.skip ?_
                (repeat first | refine thenE_normal ?_ | refine blockE_normal ?_ | refine scopeE_normal ?_)
                (repeat refine Sx.seq ?_)
                refine Sx.textR ?_
                refine Ox.pure rfl rfl (rp_move rfl rfl) ?_
                refine Ox.pure rfl rfl (rp_lenS rfl rfl rfl) ?_
                refine Ox.pure rfl rfl (rp_assign rfl rfl) ?_
                refine Ox.nil ?_
                (repeat first | refine thenE_normal ?_ | refine blockE_normal ?_ | refine scopeE_normal ?_)
                (repeat refine Sx.seq ?_)
                refine Sx.textR ?_
                refine Ox.pure rfl rfl (rp_move rfl rfl) ?_
                refine Ox.pure rfl rfl (by first | exact rp_bin rfl rfl rfl (binI_t (by omega)) | exact rp_bin rfl rfl rfl (binI_f (by omega)) | exact rp_bin rfl rfl rfl rfl) ?_
                refine Ox.pure rfl rfl (rp_move rfl rfl) ?_
                first | (refine Ox.skip rfl rfl ?_) | (refine Ox.pure rfl rfl (rp_move rfl rfl) ?_)
                first | (refine Ox.skip rfl rfl ?_) | (refine Ox.pure rfl rfl (rp_move rfl rfl) ?_)
                first | (refine Ox.skip rfl rfl ?_) | (refine Ox.pure rfl rfl (by first | exact rp_bin rfl rfl rfl (binI_fit_sub (wrap64 (by omega))) | exact rp_bin rfl rfl rfl rfl) ?_)
                first | (refine Ox.skip rfl rfl ?_) | (refine Ox.pure rfl rfl (rp_indexAddr (dl.length - 1) rfl rfl rfl rfl rfl (by assumption) (by omega) (by omega)) ?_)
                first | (refine Ox.skip rfl rfl ?_) | (refine Ox.pure rfl rfl (by first | exact rp_fieldAddr2 rfl rfl rfl rfl | exact rp_fieldAddr rfl rfl rfl rfl) ?_)
                first | (refine Ox.skip rfl rfl ?_) | (refine Ox.val rfl rfl (rv_load rfl rfl (fun u hu => ld_field pc_len (hrowD.ext0 (by (repeat first | exact .refl _ _ | assumption | refine .trans ?_ (by assumption)); first | done | fail)) hn1 1 rfl (by decide) rfl)) ?_)
                first | (refine Ox.skip rfl rfl ?_) | (refine Ox.pure rfl rfl (rp_move rfl rfl) ?_)
                first | (refine Ox.skip rfl rfl ?_) | (refine Ox.pure rfl rfl (by first | exact rp_bin rfl rfl rfl (binI_t (by omega)) | exact rp_bin rfl rfl rfl (binI_f (by omega)) | exact rp_bin rfl rfl rfl rfl) ?_)
                refine Ox.pure rfl rfl (by first | exact rp_pick_t rfl rfl rfl | exact rp_pick_f rfl rfl rfl) ?_
                refine Ox.nil ?_
                (repeat first | refine thenE_normal ?_ | refine blockE_normal ?_ | refine scopeE_normal ?_)
                (repeat refine Sx.seq ?_); first | refine Sx.cond_false rfl ?_ | refine Sx.cond rfl (fun h => absurd h (by simp [*])) (fun _ => ?_)
                (repeat refine Sx.seq ?_); refine Sx.skip ?_
                (repeat first | refine thenE_normal ?_ | refine blockE_normal ?_ | refine scopeE_normal ?_)
                (repeat refine Sx.seq ?_)
                refine Sx.textR ?_
                refine Ox.pure rfl rfl (rp_move rfl rfl) ?_
                refine Ox.pure rfl rfl (rp_move rfl rfl) ?_
                refine Ox.pure rfl rfl (rp_move rfl rfl) ?_
                refine Ox.pure rfl rfl (by first | exact rp_bin rfl rfl rfl (binI_fit_add (wrap64 (by omega))) | exact rp_bin rfl rfl rfl rfl) ?_
                refine Ox.pure rfl rfl (rp_buildS (ps := [(0, .tmp 78), (1, .tmp 80)]) rfl rfl rfl rfl rfl) ?_
                refine Ox.act rfl rfl (acts_buildSlice (ps := [(0, .tmp 81)]) rfl rfl rfl rfl rfl rfl rfl rfl) ?_
                rintro vbs wbs ⟨ebs, bbs, rfl, hbbs, hBbs⟩
                first | (have hCbs : Cells wbs ⟨bbs, 0, none⟩ [_, _] := hBbs.cells) | have hCbs := Blk.cellsL hBbs
                have hlbs := hBbs.lt
                have hzbs := ebs.size
                refine Ox.act rfl rfl (acts_append (e := 55) (size := 2) (bytes := 16) rfl rfl rfl rfl (own_keep0 hod (by (repeat first | exact .refl _ _ | assumption | refine .trans ?_ (by assumption)); first | done | fail)) (source_slice rfl rfl (fun _ => rfl) hCbs (pc_one ((j : Int), (j : Int) + 1))) (by omega) (by omega) (by omega)) ?_
                rintro vap wap hgap
                refine Ox.pure rfl rfl (rp_assign rfl rfl) ?_
                refine Ox.nil ?_
                (repeat first | refine thenE_normal ?_ | refine blockE_normal ?_ | refine scopeE_normal ?_)
                (repeat refine Sx.seq ?_)
                refine Sx.textR ?_
                refine Ox.pure rfl rfl (by first | exact rp_bin rfl rfl rfl (binI_fit_add (wrap64 (by omega))) | exact rp_bin rfl rfl rfl rfl) ?_
                refine Ox.pure rfl rfl (rp_move rfl rfl) ?_
                refine Ox.nil ?_
                (repeat first | refine thenE_normal ?_ | refine blockE_normal ?_ | refine scopeE_normal ?_)
                obtain ⟨f1, f2⟩ := finNew (dayAdd_new (fun _ => he)) _ _ _ (by (repeat first | exact .refl _ _ | assumption | refine .trans ?_ (by assumption)); first | done | fail) hgap
                exact ⟨(j + 1, vap), _, sub_cons rfl (sub_cons rfl (sub_cons rfl (sub_cons rfl (sub_cons rfl (sub_cons rfl (sub_cons rfl (sub_cons rfl (sub_cons rfl (sub_cons rfl (sub_cons rfl (sub_cons rfl sub_nil))))))))))), ⟨rfl, hjl, f1, f2⟩, by dsimp only; omega⟩
            · (repeat refine Sx.seq ?_)
              refine Sx.textR ?_
              refine Ox.pure rfl rfl (by first | exact rp_bin rfl rfl rfl (binI_t (by omega)) | exact rp_bin rfl rfl rfl (binI_f (by omega)) | exact rp_bin rfl rfl rfl rfl) ?_
              refine Ox.nil ?_
              (repeat first | refine thenE_normal ?_ | refine blockE_normal ?_ | refine scopeE_normal ?_)
              (repeat refine Sx.seq ?_); first | refine Sx.cond_true rfl ?_ | refine Sx.cond rfl (fun _ => ?_) (fun h => absurd h (by simp [*]))
              (repeat refine Sx.seq ?_); refine Sx.skip ?_
              (repeat first | refine thenE_normal ?_ | refine blockE_normal ?_ | refine scopeE_normal ?_)
              (repeat refine Sx.seq ?_); refine Sx.block ?_
              (repeat refine Sx.seq ?_)
              refine Sx.textR ?_
              refine Ox.pure rfl rfl (rp_move rfl rfl) ?_
              refine Ox.pure rfl rfl (rp_assign rfl rfl) ?_
              refine Ox.nil ?_
              (repeat first | refine thenE_normal ?_ | refine blockE_normal ?_ | refine scopeE_normal ?_)
              (repeat refine Sx.seq ?_)
              refine Sx.walkR rfl (fun _ _ _ _ h => h) [0, 1, 2, 3, 4, 5, 6] [0, 1, 2, 3, 4, 5, 6] (0) (by kernel_rfl) ?_
              intro hq w23 e23; have hz23 := e23.size
              refine Wx.pure hq rfl rfl rfl rfl (rp_move rfl rfl) ?_
              refine Wx.pure hq rfl rfl rfl rfl (rp_indexArr j rfl rfl rfl rfl rfl rfl (by omega)) ?_
              refine Wx.val hq rfl rfl rfl rfl ([]) (rv_load rfl rfl (fun u hu => (hCx.ext0 (by (repeat first | exact .refl _ _ | assumption | refine .trans ?_ (by assumption)); first | done | fail)).ld _ rfl hvx)) ?_
              refine Wx.pure hq rfl rfl rfl rfl (rp_move rfl rfl) ?_
              refine Wx.pure hq rfl rfl rfl rfl (rp_indexArr j rfl rfl rfl rfl rfl rfl (by omega)) ?_
              refine Wx.val hq rfl rfl rfl rfl ([]) (rv_load rfl rfl (fun u hu => (hCy.ext0 (by (repeat first | exact .refl _ _ | assumption | refine .trans ?_ (by assumption)); first | done | fail)).ld _ rfl hvy)) ?_
              refine Wx.pure hq rfl rfl rfl rfl (by first | exact rp_bin rfl rfl rfl (binI_t (by omega)) | exact rp_bin rfl rfl rfl (binI_f (by omega)) | exact rp_bin rfl rfl rfl rfl) ?_
              refine Wx.nil ?_
              (repeat first | refine thenE_normal ?_ | refine blockE_normal ?_ | refine scopeE_normal ?_)
              (repeat refine Sx.seq ?_); first | refine Sx.cond_false rfl ?_ | refine Sx.cond rfl (fun h => absurd h (by simp [*])) (fun _ => ?_)
              (repeat refine Sx.seq ?_); refine Sx.skip ?_
              (repeat first | refine thenE_normal ?_ | refine blockE_normal ?_ | refine scopeE_normal ?_)
              (repeat refine Sx.seq ?_)
              refine Sx.textR ?_
              refine Ox.pure rfl rfl (rp_move rfl rfl) ?_
              refine Ox.pure rfl rfl (rp_lenS rfl rfl rfl) ?_
              refine Ox.pure rfl rfl (rp_assign rfl rfl) ?_
              refine Ox.nil ?_
              (repeat first | refine thenE_normal ?_ | refine blockE_normal ?_ | refine scopeE_normal ?_)
              (repeat refine Sx.seq ?_)
              refine Sx.textR ?_
              refine Ox.pure rfl rfl (rp_move rfl rfl) ?_
              refine Ox.pure rfl rfl (by first | exact rp_bin rfl rfl rfl (binI_t (by omega)) | exact rp_bin rfl rfl rfl (binI_f (by omega)) | exact rp_bin rfl rfl rfl rfl) ?_
              refine Ox.pure rfl rfl (rp_move rfl rfl) ?_
              first | (refine Ox.skip rfl rfl ?_) | (refine Ox.pure rfl rfl (rp_move rfl rfl) ?_)
              first | (refine Ox.skip rfl rfl ?_) | (refine Ox.pure rfl rfl (rp_move rfl rfl) ?_)
              first | (refine Ox.skip rfl rfl ?_) | (refine Ox.pure rfl rfl (by first | exact rp_bin rfl rfl rfl (binI_fit_sub (wrap64 (by omega))) | exact rp_bin rfl rfl rfl rfl) ?_)
              first | (refine Ox.skip rfl rfl ?_) | (refine Ox.pure rfl rfl (rp_indexAddr (dl.length - 1) rfl rfl rfl rfl rfl (by assumption) (by omega) (by omega)) ?_)
              first | (refine Ox.skip rfl rfl ?_) | (refine Ox.pure rfl rfl (by first | exact rp_fieldAddr2 rfl rfl rfl rfl | exact rp_fieldAddr rfl rfl rfl rfl) ?_)
              first | (refine Ox.skip rfl rfl ?_) | (refine Ox.val rfl rfl (rv_load rfl rfl (fun u hu => ld_field pc_len (hrowD.ext0 (by (repeat first | exact .refl _ _ | assumption | refine .trans ?_ (by assumption)); first | done | fail)) hn1 1 rfl (by decide) rfl)) ?_)
              first | (refine Ox.skip rfl rfl ?_) | (refine Ox.pure rfl rfl (rp_move rfl rfl) ?_)
              first | (refine Ox.skip rfl rfl ?_) | (refine Ox.pure rfl rfl (by first | exact rp_bin rfl rfl rfl (binI_t (by omega)) | exact rp_bin rfl rfl rfl (binI_f (by omega)) | exact rp_bin rfl rfl rfl rfl) ?_)
              refine Ox.pure rfl rfl (by first | exact rp_pick_t rfl rfl rfl | exact rp_pick_f rfl rfl rfl) ?_
              refine Ox.nil ?_
              (repeat first | refine thenE_normal ?_ | refine blockE_normal ?_ | refine scopeE_normal ?_)
              (repeat refine Sx.seq ?_); first | refine Sx.cond_false rfl ?_ | refine Sx.cond rfl (fun h => absurd h (by simp [*])) (fun _ => ?_)
              (repeat refine Sx.seq ?_); refine Sx.skip ?_
              (repeat first | refine thenE_normal ?_ | refine blockE_normal ?_ | refine scopeE_normal ?_)
              (repeat refine Sx.seq ?_)
              refine Sx.textR ?_
              refine Ox.pure rfl rfl (rp_move rfl rfl) ?_
              refine Ox.pure rfl rfl (rp_move rfl rfl) ?_
              refine Ox.pure rfl rfl (rp_move rfl rfl) ?_
              refine Ox.pure rfl rfl (by first | exact rp_bin rfl rfl rfl (binI_fit_add (wrap64 (by omega))) | exact rp_bin rfl rfl rfl rfl) ?_
              refine Ox.pure rfl rfl (rp_buildS (ps := [(0, .tmp 78), (1, .tmp 80)]) rfl rfl rfl rfl rfl) ?_
              refine Ox.act rfl rfl (acts_buildSlice (ps := [(0, .tmp 81)]) rfl rfl rfl rfl rfl rfl rfl rfl) ?_
              rintro vbs wbs ⟨ebs, bbs, rfl, hbbs, hBbs⟩
              first | (have hCbs : Cells wbs ⟨bbs, 0, none⟩ [_, _] := hBbs.cells) | have hCbs := Blk.cellsL hBbs
              have hlbs := hBbs.lt
              have hzbs := ebs.size
              refine Ox.act rfl rfl (acts_append (e := 55) (size := 2) (bytes := 16) rfl rfl rfl rfl (own_keep0 hod (by (repeat first | exact .refl _ _ | assumption | refine .trans ?_ (by assumption)); first | done | fail)) (source_slice rfl rfl (fun _ => rfl) hCbs (pc_one ((j : Int), (j : Int) + 1))) (by omega) (by omega) (by omega)) ?_
              rintro vap wap hgap
              refine Ox.pure rfl rfl (rp_assign rfl rfl) ?_
              refine Ox.nil ?_
              (repeat first | refine thenE_normal ?_ | refine blockE_normal ?_ | refine scopeE_normal ?_)
              (repeat refine Sx.seq ?_)
              refine Sx.textR ?_
              refine Ox.pure rfl rfl (by first | exact rp_bin rfl rfl rfl (binI_fit_add (wrap64 (by omega))) | exact rp_bin rfl rfl rfl rfl) ?_
              refine Ox.pure rfl rfl (rp_move rfl rfl) ?_
              refine Ox.nil ?_
              (repeat first | refine thenE_normal ?_ | refine blockE_normal ?_ | refine scopeE_normal ?_)
              obtain ⟨f1, f2⟩ := finNew (dayAdd_new (fun h => absurd h hlen)) _ _ _ (by (repeat first | exact .refl _ _ | assumption | refine .trans ?_ (by assumption)); first | done | fail) hgap
              exact ⟨(j + 1, vap), _, sub_cons rfl (sub_cons rfl (sub_cons rfl (sub_cons rfl (sub_cons rfl (sub_cons rfl (sub_cons rfl (sub_cons rfl (sub_cons rfl (sub_cons rfl (sub_cons rfl (sub_cons rfl sub_nil))))))))))), ⟨rfl, hjl, f1, f2⟩, by dsimp only; omega⟩
          · obtain rfl : j = 1024 := by omega
            (repeat refine Sx.seq ?_)
            refine Sx.textR ?_
            refine Ox.pure rfl rfl (by first | exact rp_bin rfl rfl rfl (binI_t (by omega)) | exact rp_bin rfl rfl rfl (binI_f (by omega)) | exact rp_bin rfl rfl rfl rfl) ?_
            refine Ox.nil ?_
            (repeat first | refine thenE_normal ?_ | refine blockE_normal ?_ | refine scopeE_normal ?_)
            (repeat refine Sx.seq ?_); first | refine Sx.cond_false rfl ?_ | refine Sx.cond rfl (fun h => absurd h (by simp [*])) (fun _ => ?_)
            (repeat refine Sx.seq ?_); refine Sx.exit ?_
            (repeat first | refine thenE_exit ?_ | refine blockE_same ?_ | refine blockE_other rfl ?_ | refine scopeE_exit ?_ | refine thenE_normal ?_ | refine blockE_normal ?_ | refine scopeE_normal ?_)
            exact ⟨dv, sub_cons rfl (sub_cons rfl (sub_cons rfl (sub_cons rfl (sub_cons rfl (sub_cons rfl (sub_cons rfl (sub_cons rfl (sub_cons rfl sub_nil)))))))), by (repeat first | exact .refl _ _ | assumption | refine .trans ?_ (by assumption)); first | done | fail, own_keep0 hod (by (repeat first | exact .refl _ _ | assumption | refine .trans ?_ (by assumption)); first | done | fail)⟩
        · rintro E' wo ⟨dv, hsub, eo, hod⟩
          refine thenE_normal (Sx.weaken ?_ hsub)
          have hzo := eo.size
          have hdle := daysTo_le l K[i] bef aft 1024
          have hent : entryL l bef aft K[i] = if 0 < (daysTo l K[i] bef aft 1024).length then [(K[i], daysTo l K[i] bef aft 1024)] else [] := rfl
          have hfm := flatMap_take_step (f := entryL l bef aft) hlt
          generalize daysTo l K[i] bef aft 1024 = dl at *
          obtain ⟨dp, dc, D, rfl, hsD, hlD⟩ := SlV.of_own hod (by omega)
          have hownO := hownN.ext eo
          have hoko := own_keep0 hokn eo
          have hodw : OwnSp w.heap.size wo (.slice dp dl.length dc) dl := own_base hod (by omega)
          have hCko : Cells wo ⟨bal, 0, none⟩ (kc K[i]) := hCkn.ext0 eo
          by_cases hlen : 0 < dl.length
          · rw [if_pos hlen] at hent
            (repeat refine Sx.seq ?_)
            refine Sx.textR ?_
            refine Ox.pure rfl rfl (rp_move rfl rfl) ?_
            refine Ox.pure rfl rfl (rp_lenS rfl rfl rfl) ?_
            refine Ox.pure rfl rfl (by first | exact rp_bin rfl rfl rfl (binI_t (by omega)) | exact rp_bin rfl rfl rfl (binI_f (by omega)) | exact rp_bin rfl rfl rfl rfl) ?_
            refine Ox.nil ?_
            (repeat first | refine thenE_normal ?_ | refine blockE_normal ?_ | refine scopeE_normal ?_)
            (repeat refine Sx.seq ?_); first | refine Sx.cond_true rfl ?_ | refine Sx.cond rfl (fun _ => ?_) (fun h => absurd h (by simp [*]))
            (repeat refine Sx.seq ?_)
            refine Sx.textR ?_
            refine Ox.pure rfl rfl (rp_move rfl rfl) ?_
            refine Ox.val rfl rfl (rv_load rfl rfl (fun u hu => (hCko.ext0 (by (repeat first | exact .refl _ _ | assumption | refine .trans ?_ (by assumption)); first | done | fail)).ldA rfl rfl)) ?_
            refine Ox.pure rfl rfl (rp_move rfl rfl) ?_
            refine Ox.pure rfl rfl (rp_buildS (ps := [(0, .tmp 89), (1, .tmp 90)]) rfl rfl rfl rfl rfl) ?_
            refine Ox.act rfl rfl (acts_buildSlice (ps := [(0, .tmp 91)]) rfl rfl rfl rfl rfl rfl rfl rfl) ?_
            rintro vbs wbs ⟨ebs, bbs, rfl, hbbs, hBbs⟩
            first | (have hCbs : Cells wbs ⟨bbs, 0, none⟩ [_, _, _, _] := hBbs.cells) | have hCbs := Blk.cellsL hBbs
            have hlbs := hBbs.lt
            have hzbs := ebs.size
            refine Ox.act rfl rfl (acts_append (e := 70) (size := 4) (bytes := 48) rfl rfl rfl rfl (own_keep0 hownO.row (by (repeat first | exact .refl _ _ | assumption | refine .trans ?_ (by assumption)); first | done | fail)) (source_slice rfl rfl (fun _ => rfl) hCbs (dfc_one ⟨K[i], dl, dp, dc⟩)) (by omega) (by omega) (by omega)) ?_
            rintro vap wap hgap
            refine Ox.pure rfl rfl (rp_assign rfl rfl) ?_
            refine Ox.nil ?_
            (repeat first | refine thenE_normal ?_ | refine blockE_normal ?_ | refine scopeE_normal ?_)
            (repeat refine Sx.seq ?_)
            refine Sx.textR ?_
            refine Ox.pure rfl rfl (by first | exact rp_bin rfl rfl rfl (binI_fit_add (wrap64 (by omega))) | exact rp_bin rfl rfl rfl rfl) ?_
            refine Ox.pure rfl rfl (rp_move rfl rfl) ?_
            refine Ox.nil ?_
            (repeat first | refine thenE_normal ?_ | refine blockE_normal ?_ | refine scopeE_normal ?_)
            have eap : Ext [] w wap := hgap.ext0 (by (repeat first | exact .refl _ _ | assumption | refine .trans ?_ (by assumption)); first | done | fail) (fun g hg => (own_lt hownO.row g (by simp [hg])).1)
            refine ⟨(i + 1, vap, ds ++ [⟨K[i], dl, dp, dc⟩]), _, sub_cons rfl (sub_cons rfl (sub_cons rfl (sub_cons rfl (sub_cons rfl (sub_cons rfl (sub_cons rfl sub_nil)))))), ⟨rfl, hlt, eap, ?_, ?_, by simp; omega, ?_⟩, by dsimp only; omega⟩
            · exact own_keep (own_keep0 hoko (w' := wbs) (by (repeat first | exact .refl _ _ | assumption | refine .trans ?_ (by assumption)); first | done | fail)) hgap.ext (fun g hg hm => own_apart hokr hown.row (by decide) g hg (by simpa using hm))
            · exact OwnD.snoc (hownO.ext (by (repeat first | exact .refl _ _ | assumption | refine .trans ?_ (by assumption)); first | done | fail)) hgap (own_keep0 hodw (by (repeat first | exact .refl _ _ | assumption | refine .trans ?_ (by assumption)); first | done | fail))
            · dsimp only
              rw [hfm, hent, List.map_append, hmap]; rfl
          · rw [if_neg hlen] at hent
            (repeat refine Sx.seq ?_)
            refine Sx.textR ?_
            refine Ox.pure rfl rfl (rp_move rfl rfl) ?_
            refine Ox.pure rfl rfl (rp_lenS rfl rfl rfl) ?_
            refine Ox.pure rfl rfl (by first | exact rp_bin rfl rfl rfl (binI_t (by omega)) | exact rp_bin rfl rfl rfl (binI_f (by omega)) | exact rp_bin rfl rfl rfl rfl) ?_
            refine Ox.nil ?_
            (repeat first | refine thenE_normal ?_ | refine blockE_normal ?_ | refine scopeE_normal ?_)
            (repeat refine Sx.seq ?_); first | refine Sx.cond_false rfl ?_ | refine Sx.cond rfl (fun h => absurd h (by simp [*])) (fun _ => ?_)
            (repeat refine Sx.seq ?_); refine Sx.skip ?_
            (repeat first | refine thenE_normal ?_ | refine blockE_normal ?_ | refine scopeE_normal ?_)
            (repeat refine Sx.seq ?_)
            refine Sx.textR ?_
            refine Ox.pure rfl rfl (by first | exact rp_bin rfl rfl rfl (binI_fit_add (wrap64 (by omega))) | exact rp_bin rfl rfl rfl rfl) ?_
            refine Ox.pure rfl rfl (rp_move rfl rfl) ?_
            refine Ox.nil ?_
            (repeat first | refine thenE_normal ?_ | refine blockE_normal ?_ | refine scopeE_normal ?_)
            exact ⟨(i + 1, v, ds), _, sub_cons rfl (sub_cons rfl (sub_cons rfl (sub_cons rfl (sub_cons rfl (sub_cons rfl (sub_cons rfl sub_nil)))))), ⟨rfl, hlt, by (repeat first | exact .refl _ _ | assumption | refine .trans ?_ (by assumption)); first | done | fail, own_keep0 hoko (by (repeat first | exact .refl _ _ | assumption | refine .trans ?_ (by assumption)); first | done | fail), hownO.ext (by (repeat first | exact .refl _ _ | assumption | refine .trans ?_ (by assumption)); first | done | fail), by dsimp only; omega, by dsimp only; rw [hfm, hent, List.append_nil]; exact hmap⟩, by dsimp only; omega⟩
    · obtain rfl : i = K.length := by omega
      rw [List.take_length] at hmap
      (repeat refine Sx.seq ?_)
      refine Sx.textR ?_
      refine Ox.pure rfl rfl (by first | exact rp_bin rfl rfl rfl (binI_t (by omega)) | exact rp_bin rfl rfl rfl (binI_f (by omega)) | exact rp_bin rfl rfl rfl rfl) ?_
      refine Ox.nil ?_
      (repeat first | refine thenE_normal ?_ | refine blockE_normal ?_ | refine scopeE_normal ?_)
      (repeat refine Sx.seq ?_); first | refine Sx.cond_false rfl ?_ | refine Sx.cond rfl (fun h => absurd h (by simp [*])) (fun _ => ?_)
      (repeat refine Sx.seq ?_); refine Sx.exit ?_
      (repeat first | refine thenE_exit ?_ | refine blockE_same ?_ | refine blockE_other rfl ?_ | refine scopeE_exit ?_ | refine thenE_normal ?_ | refine blockE_normal ?_ | refine scopeE_normal ?_)
      (repeat refine Sx.seq ?_)
      refine Sx.textR ?_
      refine Ox.pure rfl rfl (rp_move rfl rfl) ?_
      refine Ox.pure rfl rfl (rp_assign rfl rfl) ?_
      refine Ox.nil ?_
      (repeat first | refine thenE_normal ?_ | refine blockE_normal ?_ | refine scopeE_normal ?_)
      (repeat refine Sx.seq ?_); refine Sx.ret ?_
      (repeat first | refine thenE_ret ?_ | refine blockE_ret ?_ | refine scopeE_ret ?_)
      exact endE_ret [_] ⟨rfl, trivial⟩ ⟨by (repeat first | exact .refl _ _ | assumption | refine .trans ?_ (by assumption)); first | done | fail, ds, by rw [hmap]; subst hK; rfl, by omega, hown.ext (by (repeat first | exact .refl _ _ | assumption | refine .trans ?_ (by assumption)); first | done | fail)⟩

end Go.Proofs.Ytfnekbnlokigcaa
