/- Corrections' walks: what undoes corrections. -/
import Derived.Test.YtfnekbnlokigcaaRows
import Derived.Test.YtfnekbnlokigcaaCorrE
set_option linter.unusedVariables false
set_option maxRecDepth 100000
set_option maxHeartbeats 4000000
set_option linter.unusedSimpArgs false
namespace Go.Proofs.Ytfnekbnlokigcaa
open Go Go.Eng

theorem runsN_length (g : Int → Int) (to : Int) : ∀ (n : Nat) (d : Int), (runsN g to n d).length ≤ n
  | 0, d => by simp [runsN]
  | n + 1, d => by
    unfold runsN
    split
    · have := runsN_length g to n (endN g (g d) (to - (d + 1)).toNat (d + 1))
      simp only [List.length_cons]; omega
    · simp
abbrev mkC (c : Cr) (r : Int × Int × Int) : Cr := ⟨c.key, r.2.2, r.1, r.2.1⟩
theorem backC_eq (l : List Fct) (c : Cr) : backC l c = (runsF (kG l c (nowL l)) (min c.hi 1024) (max c.lo 0)).map (mkC c) := rfl
theorem runs_length (l : List Fct) (c : Cr) (n : Int) : (runsF (kG l c n) (min c.hi 1024) (max c.lo 0)).length ≤ 1024 := by
  have := runsN_length (kG l c n) (min c.hi 1024) (min c.hi 1024 - max c.lo 0).toNat (max c.lo 0)
  unfold runsF; omega
theorem backL_take {l : List Fct} {cs : List Cr} {i : Nat} (hi : i < cs.length) : backL l (cs.take (i + 1)) = backL l (cs.take i) ++ backC l cs[i] := by
  unfold backL
  rw [← List.take_append_getElem hi, List.flatMap_append]; simp
theorem backL_length (l : List Fct) (cs : List Cr) : (backL l cs).length ≤ 1024 * cs.length := by
  induction cs with
  | nil => simp [backL]
  | cons c cs ih =>
    unfold backL at *
    rw [List.flatMap_cons, List.length_append, List.length_cons]
    have : (backC l c).length ≤ 1024 := by rw [backC_eq, List.length_map]; exact runs_length l c _
    omega
abbrev OwnC (base : Nat) (w : World) (v : Value) (l : List Cr) : Prop := w.ownsRow base 57 6 v l.length (rowsV cc l)

theorem back_at (t : Tb) (l : List Fct) (cs : List Cr) (p q : Option Addr) (A Aq : Addr) (cap kq : Nat) (w : World) (hs : SlV fc w p A l cap) (hc : SlV cc w q Aq cs kq) (hcl : cs.length ≤ 1000) :
    Calls Try.prog 14 #[.agg (wvc t (.slice p l.length cap)).toArray, .slice q cs.length kq] w (Ret fun r w' => Ext [] w w' ∧ OwnC w.heap.size w' r (backL l cs)) := by
  have hpq := hc.ptr
  have hrq := hc.row
  have hfq := hc.few
  have hlA : 0 < l.length → A.block < w.heap.size := fun h => hs.row.lt (fun e => by have := rowsV_length fc_len l; rw [e] at this; simp at this; omega)
  have hlQ : 0 < cs.length → Aq.block < w.heap.size := fun h => hc.row.lt (fun e => by have := rowsV_length cc_len cs; rw [e] at this; simp at this; omega)
  refine calls_of_SxM (args := [.agg (wvc t (.slice p l.length cap)).toArray, .slice q cs.length kq]) Try.func14 rfl rfl ?_
  refine SxM.run ?_
  (repeat refine Sx.seq ?_)
  refine Sx.textR ?_
  refine Ox.act rfl rfl (acts_box rfl rfl) ?_
  rintro vb2 wb2 ⟨eb2, bb2, rfl, hbb2, hBb2⟩
  first | (have hCb2 : Cells wb2 ⟨bb2, 0, none⟩ [_, _, _, _, _, _, _, _, _, _, _] := hBb2.cells) | have hCb2 := Blk.cellsL hBb2
  have hlb2 := hBb2.lt
  have hzb2 := eb2.size
  refine Ox.act rfl rfl (acts_alloc rfl rfl) ?_
  rintro vb4 wb4 ⟨eb4, bb4, rfl, hbb4, hBb4⟩
  first | (have hCb4 : Cells wb4 ⟨bb4, 0, none⟩ [_] := hBb4.cells) | have hCb4 := Blk.cellsL hBb4
  have hlb4 := hBb4.lt
  have hzb4 := eb4.size
  refine Ox.nil ?_
  (repeat first | refine thenE_normal ?_ | refine blockE_normal ?_ | refine scopeE_normal ?_)
  refine ⟨rfl, ?_⟩
  refine SxM.run ?_
  (repeat refine Sx.seq ?_)
  refine Sx.textR ?_
  refine Ox.val rfl rfl (rv_load rfl rfl (by (intro u hu; first | exact Cells.lA (by assumption) (by (repeat first | exact .refl _ _ | assumption | refine .trans ?_ (by assumption)); first | done | fail) rfl rfl | exact Cells.lL (by assumption) (by (repeat first | exact .refl _ _ | assumption | refine .trans ?_ (by assumption)); first | done | fail) rfl rfl (by assumption) | exact Cells.lP (by assumption) (by (repeat first | exact .refl _ _ | assumption | refine .trans ?_ (by assumption)); first | done | fail) _ rfl rfl rfl rfl | exact Cells.lP (by assumption) (by (repeat first | exact .refl _ _ | assumption | refine .trans ?_ (by assumption)); first | done | fail) _ rfl rfl (by assumption) (by assumption)))) ?_
  refine Ox.act rfl rfl (acts_call rfl rfl rfl (now_at t l p A cap _ (hs.ext0 (by (repeat first | exact .refl _ _ | assumption | refine .trans ?_ (by assumption)); first | done | fail)))) ?_
  rintro v1 w1 ⟨e1, rfl⟩
  have hz1 := e1.size
  refine Ox.act rfl rfl (acts_alloc rfl rfl) ?_
  rintro vb5 wb5 ⟨eb5, bb5, rfl, hbb5, hBb5⟩
  first | (have hCb5 : Cells wb5 ⟨bb5, 0, none⟩ [_] := hBb5.cells) | have hCb5 := Blk.cellsL hBb5
  have hlb5 := hBb5.lt
  have hzb5 := eb5.size
  refine Ox.act rfl rfl (acts_store_all rfl rfl rfl hBb5 rfl (by first | rfl | assumption) (by first | rfl | assumption) (by (first | assumption | exact List.all_eq_true.mp rfl | simp [Value.cells, Value.oneCell']))) ?_
  rintro vsl wsl ⟨rfl, qsl, hBsl⟩
  have esl := Ext.renew eb5 qsl hbb5
  have hzsl := esl.size
  have hlsl := hBsl.lt
  first | (have hCsl : Cells wsl ⟨bb5, 0, none⟩ [_] := hBsl.cells) | have hCsl := Blk.cellsL hBsl
  refine Ox.nil ?_
  (repeat first | refine thenE_normal ?_ | refine blockE_normal ?_ | refine scopeE_normal ?_)
  refine ⟨rfl, ?_⟩
  refine SxM.seq ?_
  refine SxM.run ?_
  (repeat refine Sx.seq ?_)
  refine Sx.textR ?_
  refine Ox.pure rfl rfl (rp_move rfl rfl) ?_
  refine Ox.pure rfl rfl (rp_lenS rfl rfl rfl) ?_
  refine Ox.pure rfl rfl (rp_move rfl rfl) ?_
  refine Ox.nil ?_
  (repeat first | refine thenE_normal ?_ | refine blockE_normal ?_ | refine scopeE_normal ?_)
  refine ⟨rfl, ?_⟩
  refine SxM.block ?_
  have hB4 : Blk wsl bb4 39 [.slice none 0 0] := hBb4.ext (X := []) (by (repeat first | exact .refl _ _ | assumption | refine .trans ?_ (by assumption)); first | done | fail) (by simp)
  have hk2l : Cells wsl ⟨bb2, 0, none⟩ (wvc t (.slice p l.length cap)) := hCb2.ext0 (by (repeat first | exact .refl _ _ | assumption | refine .trans ?_ (by assumption)); first | done | fail)
  have hk5l : Cells wsl ⟨bb5, 0, none⟩ [.int .i64 (nowL l)] := hCsl
  have hwl : Ext [] w wsl := by (repeat first | exact .refl _ _ | assumption | refine .trans ?_ (by assumption)); first | done | fail
  have hzl := hwl.size
  refine SxM.loop (ι := Nat × Value) (fun i Ds E wr => E = [(2, .pointer (some ⟨bb2, 0, none⟩)), (4, .pointer (some ⟨bb4, 0, none⟩)), (5, .pointer (some ⟨bb5, 0, none⟩)), (13, .slice q cs.length kq), (14, .int .i64 (cs.length : Int)), (15, .int .i64 (i.1 : Int))] ∧ i.1 ≤ cs.length ∧ Ext [bb4] wsl wr ∧ Blk wr bb4 39 [i.2] ∧ OwnC wsl.heap.size wr i.2 (backL l (cs.take i.1)) ∧ Ds.Nodup ∧ ∀ D ∈ Ds, Rec wr D ∧ wsl.heap.size ≤ D ∧ i.2.ownBlock ≠ some D) (fun i => cs.length - i.1) (0, .slice none 0 0)
    (sub_cons rfl (sub_cons rfl (sub_cons rfl (sub_cons rfl (sub_cons rfl (sub_cons rfl sub_nil)))))) ⟨rfl, Nat.zero_le _, Ext.refl _ _, hB4, World.ownsRow_nil _ _ _ _, .nil, fun D h => by cases h⟩ ?_
  rintro ⟨i, v⟩ Ds E wr ⟨rfl, hi, er, hBr, hown, hnd, hrec⟩
  dsimp only at hi hBr hown hrec ⊢
  have hz := er.size
  have hbl := backL_length l (cs.take i)
  have hbt := List.length_take_le i cs
  by_cases hlt : i < cs.length
  · have hrqr : Cells wr Aq (rowsV cc cs) := (hrq.ext0 hwl).ext er (by have := hlQ (by omega); simp; omega)
    have hat := rowsV_at cc_len hlt
    have hl6 := cc_len cs[i]
    refine SxM.run ?_
    (repeat refine Sx.seq ?_)
    refine Sx.textR ?_
    refine Ox.pure rfl rfl (by first | exact rp_bin rfl rfl rfl (binI_t (by omega)) | exact rp_bin rfl rfl rfl (binI_f (by omega)) | exact rp_bin rfl rfl rfl rfl) ?_
    refine Ox.nil ?_
    (repeat first | refine thenE_normal ?_ | refine blockE_normal ?_ | refine scopeE_normal ?_)
    refine ⟨rfl, ?_⟩
    refine SxM.seq ?_
    refine SxM.cond_true rfl ?_
    refine SxM.skip ?_
    (repeat first | refine thenM_normal ?_ | refine blockM_normal ?_ | refine blockM_same ?_ | refine thenM_exit ?_ | refine thenM_ret ?_ | refine blockM_ret ?_)
    refine SxM.seq ?_
    refine SxM.block ?_
    refine SxM.run ?_
    (repeat refine Sx.seq ?_)
    refine Sx.textR ?_
    refine Ox.pure rfl rfl (rp_indexAddr _ rfl rfl rfl rfl rfl (by assumption) rfl (by first | omega | decide)) ?_
    refine Ox.val rfl rfl (rv_load rfl rfl (by (intro u hu; first | exact Cells.lA (by assumption) (by (repeat first | exact .refl _ _ | assumption | refine .trans ?_ (by assumption)); first | done | fail) rfl rfl | exact Cells.lL (by assumption) (by (repeat first | exact .refl _ _ | assumption | refine .trans ?_ (by assumption)); first | done | fail) rfl rfl (by assumption) | exact Cells.lP (by assumption) (by (repeat first | exact .refl _ _ | assumption | refine .trans ?_ (by assumption)); first | done | fail) _ rfl rfl rfl rfl | exact Cells.lP (by assumption) (by (repeat first | exact .refl _ _ | assumption | refine .trans ?_ (by assumption)); first | done | fail) _ rfl rfl (by assumption) (by assumption)))) ?_
    refine Ox.act rfl rfl (acts_alloc rfl rfl) ?_
    rintro vb7 wb7 ⟨eb7, bb7, rfl, hbb7, hBb7⟩
    first | (have hCb7 : Cells wb7 ⟨bb7, 0, none⟩ [_, _, _, _, _, _] := hBb7.cells) | have hCb7 := Blk.cellsL hBb7
    have hlb7 := hBb7.lt
    have hzb7 := eb7.size
    refine Ox.act rfl rfl (acts_store_all rfl rfl rfl hBb7 rfl (by first | rfl | assumption) (by first | rfl | assumption) (by (first | assumption | exact List.all_eq_true.mp rfl | simp [Value.cells, Value.oneCell']))) ?_
    rintro vs7 ws7 ⟨rfl, qs7, hBs7⟩
    have es7 := Ext.renew eb7 qs7 hbb7
    have hzs7 := es7.size
    have hls7 := hBs7.lt
    first | (have hCs7 : Cells ws7 ⟨bb7, 0, none⟩ [_, _, _, _, _, _] := hBs7.cells) | have hCs7 := Blk.cellsL hBs7
    refine Ox.nil ?_
    (repeat first | refine thenE_normal ?_ | refine blockE_normal ?_ | refine scopeE_normal ?_)
    refine ⟨rfl, ?_⟩
    refine SxM.run ?_
    (repeat refine Sx.seq ?_)
    refine Sx.textR ?_
    refine Ox.pure rfl rfl (rp_makeFunc rfl rfl rfl) ?_
    refine Ox.pure rfl rfl (rp_assign rfl rfl) ?_
    refine Ox.nil ?_
    (repeat first | refine thenE_normal ?_ | refine blockE_normal ?_ | refine scopeE_normal ?_)
    refine ⟨rfl, ?_⟩
    refine SxM.run ?_
    (repeat refine Sx.seq ?_)
    refine Sx.textR ?_
    refine Ox.pure rfl rfl (by first | exact rp_fieldAddr2 rfl rfl rfl rfl | exact rp_fieldAddr rfl rfl rfl rfl) ?_
    refine Ox.pure rfl rfl (by first | exact rp_fieldAddr2 rfl rfl rfl rfl | exact rp_fieldAddr rfl rfl rfl rfl) ?_
    refine Ox.val rfl rfl (rv_load rfl rfl (by (intro u hu; first | exact Cells.l1 (by assumption) (by (repeat first | exact .refl _ _ | assumption | refine .trans ?_ (by assumption)); first | done | fail) _ rfl rfl | exact Cells.l0 (by assumption) (by (repeat first | exact .refl _ _ | assumption | refine .trans ?_ (by assumption)); first | done | fail) rfl rfl))) ?_
    refine Ox.pure rfl rfl (rp_max rfl rfl rfl) ?_
    refine Ox.pure rfl rfl (by first | exact rp_fieldAddr2 rfl rfl rfl rfl | exact rp_fieldAddr rfl rfl rfl rfl) ?_
    refine Ox.pure rfl rfl (by first | exact rp_fieldAddr2 rfl rfl rfl rfl | exact rp_fieldAddr rfl rfl rfl rfl) ?_
    refine Ox.val rfl rfl (rv_load rfl rfl (by (intro u hu; first | exact Cells.l1 (by assumption) (by (repeat first | exact .refl _ _ | assumption | refine .trans ?_ (by assumption)); first | done | fail) _ rfl rfl | exact Cells.l0 (by assumption) (by (repeat first | exact .refl _ _ | assumption | refine .trans ?_ (by assumption)); first | done | fail) rfl rfl))) ?_
    refine Ox.pure rfl rfl (rp_min rfl rfl rfl) ?_
    refine Ox.pure rfl rfl (rp_move rfl rfl) ?_
    refine Ox.act rfl rfl (acts_call rfl rfl rfl (spans_at (max cs[i].lo 0) (min cs[i].hi 1024) (.func (.func 30) #[] #[.pointer (some ⟨bb2, 0, none⟩), .pointer (some ⟨bb7, 0, none⟩), .pointer (some ⟨bb5, 0, none⟩)]) _ rfl)) ?_
    rintro vsp wsp ⟨esp, c1, c2, c3, rfl, hq1, hq2, hq3, hD1, hD2, hD3⟩
    have hzsp := esp.size
    refine Ox.nil ?_
    (repeat first | refine thenE_normal ?_ | refine blockE_normal ?_ | refine scopeE_normal ?_)
    refine ⟨rfl, ?_⟩
    have hv7 : Ext [] wr ws7 := by (repeat first | exact .refl _ _ | assumption | refine .trans ?_ (by assumption)); first | done | fail
    have hz7 := hv7.size
    have hzs := esp.size
    have hk2 : Cells wr ⟨bb2, 0, none⟩ (wvc t (.slice p l.length cap)) := hk2l.ext er (by simp; omega)
    have hk5 : Cells wr ⟨bb5, 0, none⟩ [.int .i64 (nowL l)] := hk5l.ext er (by simp; omega)
    have hk7 : Cells ws7 ⟨bb7, 0, none⟩ (cc cs[i]) := hCs7
    have hrw : Cells wr A (rowsV fc l) := by
      by_cases h0 : 0 < l.length
      · exact (hs.row.ext0 hwl).ext er (by have := hlA h0; simp; omega)
      · rw [List.eq_nil_of_length_eq_zero (show l.length = 0 by omega)]; exact cells_nil _ _
    have hwsp : Ext [] wr wsp := hv7.trans esp
    have hlc1 := hD1.lt
    have hlc2 : c2 < wsp.heap.size := hD2.lt (by simp)
    have hlc3 : c3 < wsp.heap.size := hD3.lt (by simp)
    have hl4 := hBr.lt
    have hlb5 : bb5 < wsl.heap.size := hk5l.lt (by simp)
    have hlb2 : bb2 < wsl.heap.size := hk2l.lt (by simp)
    have hlb7 : bb7 < ws7.heap.size := hk7.lt (by simp)
    have hvo : ∀ g ∈ v.ownBlock.toList, wsl.heap.size ≤ g ∧ g < wr.heap.size := fun g hg => own_lt hown g hg
    have hrl := runs_length l cs[i] (nowL l)
    refine SxM.range (g := 43) (B := ws7.heap.size) (S := SpS l.length A c1 c2 c3 bb2 bb7 bb5) rfl rfl rfl
      (fun pre X W => ∃ (rs : List (Int × Int × Int)) (u : Value), pre = rs.map ys ∧ X = bb4 :: u.ownBlock.toList ∧ Ext (bb4 :: v.ownBlock.toList) ws7 W ∧ Blk W bb4 39 [u] ∧ OwnC wsl.heap.size W u (backL l (cs.take i) ++ rs.map (mkC cs[i])) ∧ ∀ g ∈ u.ownBlock.toList, g ∈ v.ownBlock.toList ∨ ws7.heap.size ≤ g) ⟨?_, ?_⟩ hzs (bb4 :: v.ownBlock.toList)
      ⟨[], v, rfl, rfl, esp.up, (hBr.ext (X := []) hwsp (by simp)), by rw [List.map_nil, List.append_nil]; exact own_keep0 hown hwsp, fun g hg => .inl hg⟩ ?_ ?_
      (fun W hW => spans_iter t l cs[i] (nowL l) (max cs[i].lo 0) (min cs[i].hi 1024) p A cap c1 c2 c3 bb2 bb7 bb5 ws7.heap.size W ⟨hs.ptr, (hrw.ext0 hwsp).ext0 hW, hs.le, hs.small, hs.few⟩ (by omega) (by omega) (hD1.ext (X := []) hW (by simp)) (hD2.ext0 hW) (hD3.ext0 hW) ((hk2.ext0 hwsp).ext0 hW) ((hk7.ext0 esp).ext0 hW) ((hk5.ext0 hwsp).ext0 hW) hq1 ⟨by omega, by omega, by omega, by omega, by omega, fun h => by have := hlA h; omega⟩) ?_ ?_ ?_
    · rintro pre X W W' Z ⟨rs, u, rfl, rfl, hE, hB0, hO, hfr⟩ he hZ
      exact ⟨rs, u, rfl, rfl, hE.join he (fun y hy => .inr (hZ y hy).1), hB0.ext he (fun h => (hZ _ h).2 (by simp)), own_keep hO he (fun g hg hm => (hZ _ hm).2 (by simp [hg])), hfr⟩
    · rintro pre X W ⟨rs, u, rfl, rfl, hE, hB0, hO, hfr⟩ x hx
      rcases List.mem_cons.1 hx with rfl | hx
      · exact hB0.lt
      · exact (own_lt hO x hx).2
    · intro x hx hS
      have hx' : x = bb4 ∨ (wsl.heap.size ≤ x ∧ x < wr.heap.size) := (List.mem_cons.1 hx).imp id (hvo x)
      rcases hS with h | h | h | h | h | h | ⟨h, h'⟩
      · omega
      · omega
      · omega
      · omega
      · omega
      · omega
      · have := hlA h; omega
    · intro x hS
      rcases hS with h | h | h | h | h | h | ⟨h, h'⟩
      · omega
      · omega
      · omega
      · omega
      · omega
      · omega
      · have := hlA h; omega
    · intro pre x hx
      have := hx.subset (show x ∈ pre ++ [x] by simp)
      obtain ⟨r, _, rfl⟩ := List.mem_map.1 this
      rfl
    · rintro pre x X W l' hnx ⟨rs, u, rfl, rfl, hE, hB0, hO, hfr⟩ hl hl2 hlX
      obtain ⟨r, rfl⟩ : ∃ r, x = ys r := by
        have := hnx.subset (show x ∈ rs.map ys ++ [x] by simp)
        obtain ⟨r, _, rfl⟩ := List.mem_map.1 this
        exact ⟨r, rfl⟩
      have hrl2 := hnx.length_le
      simp only [List.length_append, List.length_map, List.length_cons, List.length_nil] at hrl2
      have hzW := hE.size
      have hl0W := hB0.lt
      (repeat refine Sx.seq ?_)
      refine Sx.textR ?_
      refine Ox.act rfl rfl (acts_alloc rfl rfl) ?_
      rintro val wal ⟨eal, bal, rfl, hbal, hBal⟩
      first | (have hCal : Cells wal ⟨bal, 0, none⟩ [_, _] := hBal.cells) | have hCal := Blk.cellsL hBal
      have hlal := hBal.lt
      have hzal := eal.size
      refine Ox.act rfl rfl (acts_store_all rfl rfl rfl hBal rfl (by first | rfl | assumption) (by first | rfl | assumption) (by (first | assumption | exact List.all_eq_true.mp rfl | simp [Value.cells, Value.oneCell']))) ?_
      rintro vst wst ⟨rfl, qst, hBst⟩
      have est := Ext.renew eal qst hbal
      have hzst := est.size
      have hlst := hBst.lt
      first | (have hCst : Cells wst ⟨bal, 0, none⟩ [_, _] := hBst.cells) | have hCst := Blk.cellsL hBst
      refine Ox.nil ?_
      (repeat first | refine thenE_normal ?_ | refine blockE_normal ?_ | refine scopeE_normal ?_)
      (repeat refine Sx.seq ?_)
      refine Sx.textR ?_
      refine Ox.pure rfl rfl (rp_assign rfl rfl) ?_
      refine Ox.nil ?_
      (repeat first | refine thenE_normal ?_ | refine blockE_normal ?_ | refine scopeE_normal ?_)
      refine ⟨rfl, by (repeat first | exact .refl _ _ | assumption | refine .trans ?_ (by assumption)); first | done | fail, fun W2 e2 => ?_⟩
      have hz2 := e2.size
      have hCk : Cells W2 ⟨bal, 0, none⟩ [.int .i64 r.1, .int .i64 r.2.1] := Cells.ext (cs := [.int .i64 r.1, .int .i64 r.2.1]) hCst e2 (by simp; omega)
      have hC7 : Cells W2 ⟨bb7, 0, none⟩ (cc cs[i]) := ((hk7.ext hE (fun hm => by rcases List.mem_cons.1 hm with h | h; · have : bb7 = bb4 := h; omega
                                                                                  · have := hvo _ h; have h9 : wr.heap.size ≤ bb7 := by omega
                                                                                    exact absurd this.2 (by simpa using h9))).ext0 est).ext e2 (by simp; omega)
      have hBx := (hB0.ext est (by simp)).ext e2 (by intro h; simp only [List.mem_singleton] at h; subst h; exact hlX (by simp))
      have hO2 : OwnC wsl.heap.size W2 u (backL l (cs.take i) ++ rs.map (mkC cs[i])) := own_keep (own_keep0 hO est) e2 (fun g hg hm => by simp only [List.mem_singleton] at hm; subst hm; exact hlX (by simp [hg]))
      have hEW2 : Ext (bb4 :: v.ownBlock.toList) ws7 W2 := (hE.trans est.up).join e2 (fun y hy => by simp only [List.mem_singleton] at hy; subst hy; exact .inr (by omega))
      have hCx := hBx.cells
      have hlen2 : (backL l (cs.take i) ++ rs.map (mkC cs[i])).length ≤ 2000000 := by rw [List.length_append, List.length_map]; omega
      have hxo : bb4 ∉ u.ownBlock.toList := fun h => by have := (own_lt hO2 _ h).1; omega
      (repeat refine Sx.seq ?_); refine Sx.block ?_
      (repeat refine Sx.seq ?_)
      refine Sx.textR ?_
      refine Ox.val rfl rfl (rv_load rfl rfl (by (intro u hu; first | exact Cells.l1 (by assumption) (by (repeat first | exact .refl _ _ | assumption | refine .trans ?_ (by assumption)); first | done | fail) _ rfl rfl | exact Cells.l0 (by assumption) (by (repeat first | exact .refl _ _ | assumption | refine .trans ?_ (by assumption)); first | done | fail) rfl rfl))) ?_
      refine Ox.pure rfl rfl (by first | exact rp_fieldAddr2 rfl rfl rfl rfl | exact rp_fieldAddr rfl rfl rfl rfl) ?_
      refine Ox.val rfl rfl (rv_load rfl rfl (by (intro u hu; first | exact Cells.lA (by assumption) (by (repeat first | exact .refl _ _ | assumption | refine .trans ?_ (by assumption)); first | done | fail) rfl rfl | exact Cells.lL (by assumption) (by (repeat first | exact .refl _ _ | assumption | refine .trans ?_ (by assumption)); first | done | fail) rfl rfl (by assumption) | exact Cells.lP (by assumption) (by (repeat first | exact .refl _ _ | assumption | refine .trans ?_ (by assumption)); first | done | fail) _ rfl rfl rfl rfl | exact Cells.lP (by assumption) (by (repeat first | exact .refl _ _ | assumption | refine .trans ?_ (by assumption)); first | done | fail) _ rfl rfl (by assumption) (by assumption)))) ?_
      refine Ox.pure rfl rfl (rp_move rfl rfl) ?_
      refine Ox.val rfl rfl (rv_load rfl rfl (by (intro u hu; first | exact Cells.lA (by assumption) (by (repeat first | exact .refl _ _ | assumption | refine .trans ?_ (by assumption)); first | done | fail) rfl rfl | exact Cells.lL (by assumption) (by (repeat first | exact .refl _ _ | assumption | refine .trans ?_ (by assumption)); first | done | fail) rfl rfl (by assumption) | exact Cells.lP (by assumption) (by (repeat first | exact .refl _ _ | assumption | refine .trans ?_ (by assumption)); first | done | fail) _ rfl rfl rfl rfl | exact Cells.lP (by assumption) (by (repeat first | exact .refl _ _ | assumption | refine .trans ?_ (by assumption)); first | done | fail) _ rfl rfl (by assumption) (by assumption)))) ?_
      refine Ox.pure rfl rfl (rp_buildS (ps := [(0, .tmp 34), (1, .tmp 35), (2, .tmp 36)]) rfl rfl rfl rfl rfl) ?_
      refine Ox.act rfl rfl (acts_buildSlice (ps := [(0, .tmp 37)]) rfl rfl rfl rfl rfl rfl rfl rfl) ?_
      rintro vbs wbs ⟨ebs, bbs, rfl, hbbs, hBbs⟩
      first | (have hCbs : Cells wbs ⟨bbs, 0, none⟩ [_, _, _, _, _, _] := hBbs.cells) | have hCbs := Blk.cellsL hBbs
      have hlbs := hBbs.lt
      have hzbs := ebs.size
      refine Ox.act rfl rfl (acts_append (e := 57) (size := 6) (bytes := 48) rfl rfl rfl rfl (own_keep0 hO2 (by (repeat first | exact .refl _ _ | assumption | refine .trans ?_ (by assumption)); first | done | fail)) (source_slice (m := 1) rfl rfl (fun _ => rfl) hCbs (by simp [Value.oneCell'])) (by omega) (by omega) (by omega)) ?_
      rintro vap wap hgap
      have howv : OwnC wsl.heap.size wap vap (backL l (cs.take i) ++ rs.map (mkC cs[i]) ++ [mkC cs[i] r]) := by have h9 := hgap.own; unfold OwnC; rw [List.length_append (bs := [mkC cs[i] r]), rowsV_append (b := [mkC cs[i] r]), rowsV_one]; exact h9
      obtain ⟨pv, cv, Av, rfl, hsv, _⟩ := SlV.of_own howv (by rw [List.length_append]; simp; omega)
      refine Ox.act rfl rfl (acts_store_all rfl rfl rfl ((hBx.ext (X := []) (by (repeat first | exact .refl _ _ | assumption | refine .trans ?_ (by assumption)); first | done | fail) (by simp)).ext hgap.ext hxo) rfl rfl rfl (by (first | assumption | exact List.all_eq_true.mp rfl | simp [Value.cells, Value.oneCell']))) ?_
      rintro vsx wsx ⟨rfl, qsx, hbsx⟩
      refine Ox.nil ?_
      (repeat first | refine thenE_normal ?_ | refine blockE_normal ?_ | refine scopeE_normal ?_)
      have hzsx := qsx.size
      have hzap := hgap.ext.size
      refine ⟨rfl, bb4 :: (Value.slice pv (backL l (cs.take i) ++ rs.map (mkC cs[i]) ++ [mkC cs[i] r]).length cv).ownBlock.toList, ⟨rs ++ [r], .slice pv (backL l (cs.take i) ++ rs.map (mkC cs[i]) ++ [mkC cs[i] r]).length cv, by simp, rfl, ?_, hbsx, ?_, ?_⟩, ⟨bb4 :: u.ownBlock.toList, ?_, fun y hy => .inl hy⟩, fun y hy => ?_⟩
      · refine ((hEW2.trans (Ext.up (by (repeat first | exact .refl _ _ | assumption | refine .trans ?_ (by assumption)); first | done | fail))).join hgap.ext (fun y hy => ?_)).trans (qsx.mono (by simp))
        rcases hfr y hy with h | h
        · exact .inl (List.mem_cons_of_mem _ h)
        · exact .inr h
      · rw [List.map_append, ← List.append_assoc]
        exact own_keep howv qsx (fun g hg hm => by simp only [List.mem_singleton] at hm; subst hm; have := (own_lt howv g (by rw [Option.mem_toList]; exact hg)).1; omega)
      · intro g hg
        rcases hgap.blk g hg with h5 | h5
        · exact hfr g h5
        · exact .inr (by omega)
      · exact (((Ext.up (by (repeat first | exact .refl _ _ | assumption | refine .trans ?_ (by assumption)); first | done | fail)).trans (hgap.ext.mono (fun y hy => List.mem_cons_of_mem _ hy)))).trans (qsx.mono (by simp))
      · rcases List.mem_cons.1 hy with rfl | hy
        · exact .inl (by simp)
        · rcases hgap.blk y hy with h5 | h5
          · exact .inl (List.mem_cons_of_mem _ h5)
          · exact .inr (by omega)
    · rintro D pre X W' hD hR hDX hfin ⟨rs, u, hpre, rfl, hE, hB0, hO, hfr⟩
      obtain rfl : rs = runsF (kG l cs[i] (nowL l)) (min cs[i].hi 1024) (max cs[i].lo 0) := map_inj' (fun _ _ => ys_inj) (hpre.symm.trans hfin)
      have hzE := hE.size
      (repeat first | refine thenM_normal ?_ | refine blockM_normal ?_ | refine blockM_same ?_ | refine thenM_exit ?_ | refine thenM_ret ?_ | refine blockM_ret ?_)
      refine SxM.last ?_
      (repeat refine Sx.seq ?_)
      refine Sx.textR ?_
      refine Ox.pure rfl rfl (by first | exact rp_bin rfl rfl rfl (binI_fit_add (wrap64 (by omega))) | exact rp_bin rfl rfl rfl rfl) ?_
      refine Ox.pure rfl rfl (rp_move rfl rfl) ?_
      refine Ox.nil ?_
      (repeat first | refine thenE_normal ?_ | refine blockE_normal ?_ | refine scopeE_normal ?_)
      refine ⟨rfl, ?_⟩
      (repeat first | refine thenM_normal ?_ | refine blockM_normal ?_ | refine blockM_same ?_ | refine thenM_exit ?_ | refine thenM_ret ?_ | refine blockM_ret ?_)
      refine ⟨(i + 1, u), _, sub_cons rfl (sub_cons rfl (sub_cons rfl (sub_cons rfl (sub_cons rfl (sub_cons rfl sub_nil))))), ⟨rfl, hlt, ?_, hB0, ?_, ?_, ?_⟩, by dsimp only; omega⟩
      · refine (er.trans hv7.up).join hE (fun y hy => ?_)
        rcases List.mem_cons.1 hy with rfl | h
        · exact .inl (by simp)
        · exact .inr (hvo _ h).1
      · dsimp only
        rw [backL_take hlt, backC_eq]; exact hO
      · refine List.nodup_cons.2 ⟨fun hm => ?_, hnd⟩
        have := (hrec D hm).1.lt
        omega
      · intro D' hm
        rcases List.mem_cons.1 hm with rfl | hm
        · exact ⟨hR, by omega, fun h => hDX (List.mem_cons_of_mem _ (by rw [Option.mem_toList]; exact h))⟩
        · obtain ⟨h1, h2, h3⟩ := hrec D' hm
          have hlD := h1.lt
          refine ⟨(h1.ext0 hv7).ext hE (fun hm2 => ?_), h2, fun h => ?_⟩
          · rcases List.mem_cons.1 hm2 with h | h
            · omega
            · exact h3 (by rw [Option.mem_toList] at h; exact h)
          · rcases hfr D' (by rw [Option.mem_toList]; exact h) with h5 | h5
            · exact h3 (by rw [Option.mem_toList] at h5; exact h5)
            · omega
  · obtain rfl : i = cs.length := by omega
    rw [List.take_length] at hown
    have hCr := hBr.cells
    obtain ⟨pv, cv, Av, rfl, hsv, _⟩ := SlV.of_own hown (by have := backL_length l cs; omega)
    refine SxM.run ?_
    (repeat refine Sx.seq ?_)
    refine Sx.textR ?_
    refine Ox.pure rfl rfl (by first | exact rp_bin rfl rfl rfl (binI_t (by omega)) | exact rp_bin rfl rfl rfl (binI_f (by omega)) | exact rp_bin rfl rfl rfl rfl) ?_
    refine Ox.nil ?_
    (repeat first | refine thenE_normal ?_ | refine blockE_normal ?_ | refine scopeE_normal ?_)
    refine ⟨rfl, ?_⟩
    refine SxM.seq ?_
    refine SxM.cond_false rfl ?_
    refine SxM.exit ?_
    (repeat first | refine thenM_normal ?_ | refine blockM_normal ?_ | refine blockM_same ?_ | refine thenM_exit ?_ | refine thenM_ret ?_ | refine blockM_ret ?_)
    refine SxM.run ?_
    (repeat refine Sx.seq ?_)
    refine Sx.textR ?_
    refine Ox.val rfl rfl (rv_load rfl rfl (by (intro u hu; first | exact Cells.l1 (by assumption) (by (repeat first | exact .refl _ _ | assumption | refine .trans ?_ (by assumption)); first | done | fail) _ rfl rfl | exact Cells.l0 (by assumption) (by (repeat first | exact .refl _ _ | assumption | refine .trans ?_ (by assumption)); first | done | fail) rfl rfl))) ?_
    refine Ox.act rfl rfl (acts_store_all rfl rfl rfl hBr rfl rfl rfl (by (first | assumption | exact List.all_eq_true.mp rfl | simp [Value.cells, Value.oneCell']))) ?_
    rintro vs11 ws11 ⟨rfl, qs11, hBs11⟩
    refine Ox.nil ?_
    (repeat first | refine thenE_normal ?_ | refine blockE_normal ?_ | refine scopeE_normal ?_)
    refine ⟨rfl, ?_⟩
    refine SxM.ret ?_
    (repeat first | refine thenM_normal ?_ | refine blockM_normal ?_ | refine blockM_same ?_ | refine thenM_exit ?_ | refine thenM_ret ?_ | refine blockM_ret ?_)
    have hl4 := hBr.lt
    have hDb : bb4 ∉ Ds := fun h => by have := (hrec _ h).2.1; omega
    have hzs := qs11.size
    refine endL_ret (.inl rfl) [_] hnd (fun D hD => (hrec D hD).1.ext qs11 (fun hm => hDb (by rw [← List.mem_singleton.1 hm]; exact hD))) (fun w' he => ⟨⟨⟨bb4, 0, none⟩, rfl, (hBs11.ext he hDb).cells.ld0 rfl rfl⟩, trivial⟩) (fun w' he => ⟨?_, ?_⟩)
    · refine (((hwl.join er (fun y hy => .inr ?_)).join qs11 (fun y hy => .inr ?_)).join he (fun y hy => .inr ?_))
      · rw [List.mem_singleton.1 hy]; omega
      · rw [List.mem_singleton.1 hy]; omega
      · have := (hrec y hy).2.1; omega
    · refine own_base (own_keep (own_keep hown qs11 (fun g hg hm => ?_)) he (fun g hg hm => (hrec g hm).2.2 hg)) (by omega)
      have := (own_lt hown g (by rw [Option.mem_toList]; exact hg)).1
      rw [List.mem_singleton.1 hm] at this; omega

end Go.Proofs.Ytfnekbnlokigcaa
