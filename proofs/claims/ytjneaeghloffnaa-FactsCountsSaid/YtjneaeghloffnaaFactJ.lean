/- The facts' walks: points. -/
import Derived.Test.YtjneaeghloffnaaRows
import Derived.Test.YtjneaeghloffnaaFactI
set_option linter.unusedVariables false
set_option maxRecDepth 100000
set_option maxHeartbeats 4000000
set_option linter.unusedSimpArgs false
namespace Go.Proofs.Ytjneaeghloffnaa
open Go Go.Eng

/-- The points of n days from d on. -/
def ptsN (g : Int → Int × Bool) : Int → Nat → List Pt
  | _, 0 => []
  | d, n + 1 => (if (g d).2 then [(d, (g d).1)] else []) ++ ptsN g (d + 1) n
theorem ptsN_step (g : Int → Int × Bool) {d e : Int} (h : d < e) : ptsN g d (e - d).toNat = (if (g d).2 then [(d, (g d).1)] else []) ++ ptsN g (d + 1) (e - (d + 1)).toNat := by
  rw [show (e - d).toNat = (e - (d + 1)).toNat + 1 by omega, ptsN]
theorem ptsN_end (g : Int → Int × Bool) {d e : Int} (h : ¬ d < e) : ptsN g d (e - d).toNat = [] := by
  rw [show (e - d).toNat = 0 by omega, ptsN]
def pointsL (l : List Fct) (k : Ky) (lo hi known : Int) : List Pt := ptsN (fun d => atL l k d known) (max 0 lo) (min hi 1024 - max 0 lo).toNat
theorem ptsN_le (g : Int → Int × Bool) : ∀ (n : Nat) (d : Int), (ptsN g d n).length ≤ n
  | 0, d => by simp [ptsN]
  | n + 1, d => by
    rw [ptsN, List.length_append]
    have := ptsN_le g n (d + 1)
    split <;> simp <;> omega
theorem pointsL_le (l : List Fct) (k : Ky) (lo hi known : Int) : (pointsL l k lo hi known).length ≤ 1024 := by
  have := ptsN_le (fun d => atL l k d known) (min hi 1024 - max 0 lo).toNat (max 0 lo)
  unfold pointsL; omega

def OwnP (base : Nat) (w : World) (v : Value) (l : List Pt) : Prop := w.ownsRow base 60 2 v l.length (rowsV pc l)
theorem OwnP.sl {base : Nat} {w : World} {v : Value} {l : List Pt} (h : OwnP base w v l) (hl : l.length ≤ 1000000) : ∃ p cap A, v = .slice p l.length cap ∧ SlV pc w p A l cap ∧ (0 < l.length → base ≤ A.block ∧ A.block < w.heap.size) := SlV.of_own h (by omega)
theorem OwnP.snoc {base : Nat} {w w' : World} {v v' : Value} {l : List Pt} {q : Pt} (h : Grew base 60 2 w v (l.length + 1) (rowsV pc l ++ pc q) v' w') : OwnP base w' v' (l ++ [q]) := by
  have := h.own
  unfold OwnP
  rw [List.length_append, rowsV_append, rowsV_one]
  exact this

theorem points_at (l : List Fct) (k : Ky) (lo hi known : Int) (p : Option Addr) (A : Addr) (c : Nat) (w : World) (hs : SlV fc w p A l c) :
    Calls Try.prog 21 #[.slice p l.length c, .agg (kc k).toArray, .int .i64 lo, .int .i64 hi, .int .i64 known] w (Ret fun r w' => Ext [] w w' ∧ OwnP w.heap.size w' r (pointsL l k lo hi known)) := by
  refine calls_of_Sx (args := [.slice p l.length c, .agg (kc k).toArray, .int .i64 lo, .int .i64 hi, .int .i64 known]) Try.func21 rfl rfl ?_
  have hvl : (rowsV ic (valuesL l k known)).length = 1024 := by rw [rowsV_length ic_len, valuesL_length]
  (repeat refine Sx.seq ?_)
  refine Sx.textR ?_
  refine Ox.act rfl rfl (acts_box rfl rfl) ?_
  rintro v1 w1 ⟨e1, b1, rfl, hb1, hB1⟩
  first | (have hC1 : Cells w1 ⟨b1, 0, none⟩ [_, _, _] := hB1.cells) | have hC1 := Blk.cellsL hB1
  have hl1 := hB1.lt
  have hz1 := e1.size
  refine Ox.pure rfl rfl (rp_assign rfl rfl) ?_
  refine Ox.nil ?_
  (repeat first | refine thenE_normal ?_ | refine blockE_normal ?_ | refine scopeE_normal ?_)
  (repeat refine Sx.seq ?_)
  refine Sx.textR ?_
  refine Ox.pure rfl rfl (rp_move rfl rfl) ?_
  refine Ox.val rfl rfl (rv_load rfl rfl (by (intro u hu; first | exact Cells.lA (by assumption) (by (repeat first | exact .refl _ _ | assumption | refine .trans ?_ (by assumption)); first | done | fail) rfl rfl | exact Cells.lL (by assumption) (by (repeat first | exact .refl _ _ | assumption | refine .trans ?_ (by assumption)); first | done | fail) rfl rfl (by assumption) | exact Cells.lP (by assumption) (by (repeat first | exact .refl _ _ | assumption | refine .trans ?_ (by assumption)); first | done | fail) _ rfl rfl rfl rfl | exact Cells.lP (by assumption) (by (repeat first | exact .refl _ _ | assumption | refine .trans ?_ (by assumption)); first | done | fail) _ rfl rfl (by assumption) (by assumption)))) ?_
  refine Ox.pure rfl rfl (rp_move rfl rfl) ?_
  refine Ox.act rfl rfl (acts_call rfl rfl rfl (values_at l k known p A c _ (hs.ext0 (by (repeat first | exact .refl _ _ | assumption | refine .trans ?_ (by assumption)); first | done | fail)))) ?_
  rintro v2 w2 ⟨e2, rfl⟩
  have hz2 := e2.size
  refine Ox.act rfl rfl (acts_alloc_z rfl z70) ?_
  rintro val wal ⟨eal, bal, rfl, hbal, hBal⟩
  have hzal := eal.size
  have hlal := hBal.lt
  refine Ox.act rfl rfl (acts_store_all (m := 1024) rfl rfl rfl hBal rfl (by show (rowsV ic (valuesL l k known)).toArray.size = 1024; simpa using hvl) (by rw [rowsV_length ic_len, tab_length]) (rowsV_all (by simp [Value.oneCell']) _)) ?_
  rintro vst wst ⟨rfl, qst, hBst⟩
  have est := Ext.renew eal qst hbal; have hzst := est.size
  refine Ox.nil ?_
  (repeat first | refine thenE_normal ?_ | refine blockE_normal ?_ | refine scopeE_normal ?_)
  (repeat refine Sx.seq ?_)
  refine Sx.textR ?_
  refine Ox.pure rfl rfl (rp_move rfl rfl) ?_
  refine Ox.pure rfl rfl (rp_max rfl rfl rfl) ?_
  refine Ox.pure rfl rfl (rp_assign rfl rfl) ?_
  refine Ox.nil ?_
  (repeat first | refine thenE_normal ?_ | refine blockE_normal ?_ | refine scopeE_normal ?_)
  (repeat refine Sx.seq ?_); refine Sx.block ?_
  have hCr : Cells wst ⟨bal, 0, none⟩ (rowsV ic (valuesL l k known)) := hBst.cells
  refine Sx.loop (ι := Int × Value × List Pt) (fun i E wr => E = [(3, .int .i64 hi), (10, i.2.1), (11, .pointer (some ⟨bal, 0, none⟩)), (12, .int .i64 i.1)] ∧ max 0 lo ≤ i.1 ∧ i.1 ≤ max (max 0 lo) (min hi 1024) ∧ Ext [] wst wr ∧ OwnP wst.heap.size wr i.2.1 i.2.2 ∧
      i.2.2 ++ ptsN (fun d => atL l k d known) i.1 (min hi 1024 - i.1).toNat = pointsL l k lo hi known) (fun i => (1024 - i.1).toNat) (max 0 lo, nilS, [])
    (sub_cons rfl (sub_cons rfl (sub_cons rfl (sub_cons rfl sub_nil)))) ⟨rfl, Int.le_refl _, by dsimp only; omega, by (repeat first | exact .refl _ _ | assumption | refine .trans ?_ (by assumption)); first | done | fail, World.ownsRow_nil _ _ _ _, rfl⟩ ?_
  rintro ⟨d, v, acc⟩ E wr ⟨rfl, hd, hdm, er, hown, hacc⟩
  dsimp only at hd hdm hown hacc ⊢
  have hz := er.size
  by_cases hlt : d < min hi 1024
  · obtain ⟨j, rfl⟩ : ∃ j : Nat, d = (j : Int) := ⟨d.toNat, by omega⟩
    have hjv : j < (valuesL l k known).length := by rw [valuesL_length]; omega
    have hlen := congrArg List.length hacc
    have hple := pointsL_le l k lo hi known
    rw [List.length_append] at hlen
    rw [ptsN_step _ hlt] at hacc
    have hvj : (valuesL l k known)[j] = rowO (bestL l k (j : Int) known) := by simp [valuesL, tab]
    have hcell : (rowsV ic (valuesL l k known))[j * 1]? = some (.int .i64 (rowO (bestL l k (j : Int) known))) := by
      have := congrArg (fun c => c[0]?) (rowsV_at ic_len hjv)
      rw [hvj] at this
      simpa using this
    obtain ⟨hr1, hr2, hr3⟩ := rowO_val (bestL l k (j : Int) known)
    have hat : atL l k (j : Int) known = valO (bestL l k (j : Int) known) := rfl
    rw [hat] at hacc
    generalize bestL l k (j : Int) known = b at *
    by_cases hpos : 0 ≤ rowO b
    · rw [if_pos (hr1.1 hpos), hr2 hpos] at hacc
      (repeat refine Sx.seq ?_)
      refine Sx.textR ?_
      refine Ox.pure rfl rfl (rp_move rfl rfl) ?_
      refine Ox.pure rfl rfl (rp_move rfl rfl) ?_
      refine Ox.pure rfl rfl (rp_min rfl rfl rfl) ?_
      refine Ox.pure rfl rfl (by first | exact rp_bin rfl rfl rfl (binI_t (by omega)) | exact rp_bin rfl rfl rfl (binI_f (by omega)) | exact rp_bin rfl rfl rfl rfl) ?_
      refine Ox.nil ?_
      (repeat first | refine thenE_normal ?_ | refine blockE_normal ?_ | refine scopeE_normal ?_)
      (repeat refine Sx.seq ?_); first | refine Sx.cond_true rfl ?_ | refine Sx.cond rfl (fun _ => ?_) (fun h => absurd h (by simp [*]))
      (repeat refine Sx.seq ?_); refine Sx.skip ?_
      (repeat first | refine thenE_normal ?_ | refine blockE_normal ?_ | refine scopeE_normal ?_)
      (repeat refine Sx.seq ?_); refine Sx.block ?_
      (repeat refine Sx.seq ?_)
      refine Sx.textR ?_
      refine Ox.pure rfl rfl (rp_move rfl rfl) ?_
      refine Ox.pure rfl rfl (rp_indexArr j rfl rfl rfl rfl rfl rfl (by omega)) ?_
      refine Ox.val rfl rfl (rv_load rfl rfl (fun u hu => ((hCr.ext0 (by (repeat first | exact .refl _ _ | assumption | refine .trans ?_ (by assumption)); first | done | fail)).ext0 hu).ld _ rfl hcell)) ?_
      refine Ox.pure rfl rfl (by first | exact rp_bin rfl rfl rfl (binI_t (by omega)) | exact rp_bin rfl rfl rfl (binI_f (by omega)) | exact rp_bin rfl rfl rfl rfl) ?_
      refine Ox.nil ?_
      (repeat first | refine thenE_normal ?_ | refine blockE_normal ?_ | refine scopeE_normal ?_)
      (repeat refine Sx.seq ?_); first | refine Sx.cond_true rfl ?_ | refine Sx.cond rfl (fun _ => ?_) (fun h => absurd h (by simp [*]))
      (repeat refine Sx.seq ?_)
      refine Sx.textR ?_
      refine Ox.pure rfl rfl (rp_move rfl rfl) ?_
      refine Ox.pure rfl rfl (rp_move rfl rfl) ?_
      refine Ox.pure rfl rfl (rp_move rfl rfl) ?_
      refine Ox.pure rfl rfl (rp_indexArr j rfl rfl rfl rfl rfl rfl (by omega)) ?_
      refine Ox.val rfl rfl (rv_load rfl rfl (fun u hu => ((hCr.ext0 (by (repeat first | exact .refl _ _ | assumption | refine .trans ?_ (by assumption)); first | done | fail)).ext0 hu).ld _ rfl hcell)) ?_
      refine Ox.pure rfl rfl (rp_buildS (ps := [(0, .tmp 30), (1, .tmp 33)]) rfl rfl rfl rfl rfl) ?_
      refine Ox.act rfl rfl (acts_buildSlice (ps := [(0, .tmp 34)]) rfl rfl rfl rfl rfl rfl rfl rfl) ?_
      rintro vbs wbs ⟨ebs, bbs, rfl, hbbs, hBbs⟩
      first | (have hCbs : Cells wbs ⟨bbs, 0, none⟩ [_, _] := hBbs.cells) | have hCbs := Blk.cellsL hBbs
      have hlbs := hBbs.lt
      have hzbs := ebs.size
      refine Ox.act rfl rfl (acts_append (e := 60) (size := 2) (bytes := 16) rfl rfl rfl rfl (own_keep0 hown (by (repeat first | exact .refl _ _ | assumption | refine .trans ?_ (by assumption)); first | done | fail)) (source_slice rfl rfl (fun _ => rfl) hCbs (by simp [Value.oneCell'])) (by omega) (by omega) (by omega)) ?_
      rintro vap wap hgap
      refine Ox.pure rfl rfl (rp_assign rfl rfl) ?_
      refine Ox.nil ?_
      (repeat first | refine thenE_normal ?_ | refine blockE_normal ?_ | refine scopeE_normal ?_)
      (repeat refine Sx.seq ?_)
      refine Sx.textR ?_
      refine Ox.pure rfl rfl (rp_move rfl rfl) ?_
      refine Ox.pure rfl rfl (by first | exact rp_bin rfl rfl rfl (binI_fit_add (wrap64 (by omega))) | exact rp_bin rfl rfl rfl rfl) ?_
      refine Ox.pure rfl rfl (rp_assign rfl rfl) ?_
      refine Ox.nil ?_
      (repeat first | refine thenE_normal ?_ | refine blockE_normal ?_ | refine scopeE_normal ?_)
      refine ⟨((j : Int) + 1, vap, acc ++ [((j : Int), rowO b)]), _, sub_cons rfl (sub_cons rfl (sub_cons rfl (sub_cons rfl sub_nil))), ⟨rfl, by dsimp only; omega, by dsimp only; omega, hgap.ext0 (by (repeat first | exact .refl _ _ | assumption | refine .trans ?_ (by assumption)); first | done | fail) (fun g hg => (own_lt hown g (by simp [hg])).1), OwnP.snoc hgap, by rw [← hacc]; simp⟩, by dsimp only; omega⟩
    · rw [if_neg (fun h => hpos (hr1.2 h)), List.nil_append] at hacc
      (repeat refine Sx.seq ?_)
      refine Sx.textR ?_
      refine Ox.pure rfl rfl (rp_move rfl rfl) ?_
      refine Ox.pure rfl rfl (rp_move rfl rfl) ?_
      refine Ox.pure rfl rfl (rp_min rfl rfl rfl) ?_
      refine Ox.pure rfl rfl (by first | exact rp_bin rfl rfl rfl (binI_t (by omega)) | exact rp_bin rfl rfl rfl (binI_f (by omega)) | exact rp_bin rfl rfl rfl rfl) ?_
      refine Ox.nil ?_
      (repeat first | refine thenE_normal ?_ | refine blockE_normal ?_ | refine scopeE_normal ?_)
      (repeat refine Sx.seq ?_); first | refine Sx.cond_true rfl ?_ | refine Sx.cond rfl (fun _ => ?_) (fun h => absurd h (by simp [*]))
      (repeat refine Sx.seq ?_); refine Sx.skip ?_
      (repeat first | refine thenE_normal ?_ | refine blockE_normal ?_ | refine scopeE_normal ?_)
      (repeat refine Sx.seq ?_); refine Sx.block ?_
      (repeat refine Sx.seq ?_)
      refine Sx.textR ?_
      refine Ox.pure rfl rfl (rp_move rfl rfl) ?_
      refine Ox.pure rfl rfl (rp_indexArr j rfl rfl rfl rfl rfl rfl (by omega)) ?_
      refine Ox.val rfl rfl (rv_load rfl rfl (fun u hu => ((hCr.ext0 (by (repeat first | exact .refl _ _ | assumption | refine .trans ?_ (by assumption)); first | done | fail)).ext0 hu).ld _ rfl hcell)) ?_
      refine Ox.pure rfl rfl (by first | exact rp_bin rfl rfl rfl (binI_t (by omega)) | exact rp_bin rfl rfl rfl (binI_f (by omega)) | exact rp_bin rfl rfl rfl rfl) ?_
      refine Ox.nil ?_
      (repeat first | refine thenE_normal ?_ | refine blockE_normal ?_ | refine scopeE_normal ?_)
      (repeat refine Sx.seq ?_); first | refine Sx.cond_false rfl ?_ | refine Sx.cond rfl (fun h => absurd h (by simp [*])) (fun _ => ?_)
      (repeat refine Sx.seq ?_); refine Sx.skip ?_
      (repeat first | refine thenE_normal ?_ | refine blockE_normal ?_ | refine scopeE_normal ?_)
      (repeat refine Sx.seq ?_)
      refine Sx.textR ?_
      refine Ox.pure rfl rfl (rp_move rfl rfl) ?_
      refine Ox.pure rfl rfl (by first | exact rp_bin rfl rfl rfl (binI_fit_add (wrap64 (by omega))) | exact rp_bin rfl rfl rfl rfl) ?_
      refine Ox.pure rfl rfl (rp_assign rfl rfl) ?_
      refine Ox.nil ?_
      (repeat first | refine thenE_normal ?_ | refine blockE_normal ?_ | refine scopeE_normal ?_)
      exact ⟨((j : Int) + 1, v, acc), _, sub_cons rfl (sub_cons rfl (sub_cons rfl (sub_cons rfl sub_nil))), ⟨rfl, by dsimp only; omega, by dsimp only; omega, by (repeat first | exact .refl _ _ | assumption | refine .trans ?_ (by assumption)); first | done | fail, own_keep0 hown (by (repeat first | exact .refl _ _ | assumption | refine .trans ?_ (by assumption)); first | done | fail), hacc⟩, by dsimp only; omega⟩
  · rw [ptsN_end _ hlt, List.append_nil] at hacc
    (repeat refine Sx.seq ?_)
    refine Sx.textR ?_
    refine Ox.pure rfl rfl (rp_move rfl rfl) ?_
    refine Ox.pure rfl rfl (rp_move rfl rfl) ?_
    refine Ox.pure rfl rfl (rp_min rfl rfl rfl) ?_
    refine Ox.pure rfl rfl (by first | exact rp_bin rfl rfl rfl (binI_t (by omega)) | exact rp_bin rfl rfl rfl (binI_f (by omega)) | exact rp_bin rfl rfl rfl rfl) ?_
    refine Ox.nil ?_
    (repeat first | refine thenE_normal ?_ | refine blockE_normal ?_ | refine scopeE_normal ?_)
    (repeat refine Sx.seq ?_); first | refine Sx.cond_false rfl ?_ | refine Sx.cond rfl (fun h => absurd h (by simp [*])) (fun _ => ?_)
    (repeat refine Sx.seq ?_); refine Sx.exit ?_
    (repeat first | refine thenE_exit ?_ | refine blockE_same ?_ | refine blockE_other rfl ?_ | refine scopeE_exit ?_ | refine thenE_normal ?_ | refine blockE_normal ?_ | refine scopeE_normal ?_)
    (repeat refine Sx.seq ?_)
    refine Sx.textR ?_
    refine Ox.pure rfl rfl (rp_move rfl rfl) ?_
    refine Ox.pure rfl rfl (rp_assign rfl rfl) ?_
    refine Ox.nil ?_
    (repeat first | refine thenE_normal ?_ | refine blockE_normal ?_ | refine scopeE_normal ?_)
    (repeat refine Sx.seq ?_); refine Sx.ret ?_
    (repeat first | refine thenE_ret ?_ | refine blockE_ret ?_ | refine scopeE_ret ?_)
    exact endE_ret [_] ⟨rfl, trivial⟩ ⟨by (repeat first | exact .refl _ _ | assumption | refine .trans ?_ (by assumption)); first | done | fail, by rw [← hacc]; exact own_base (own_keep0 hown (by (repeat first | exact .refl _ _ | assumption | refine .trans ?_ (by assumption)); first | done | fail)) (by omega)⟩

theorem ref_Points (l : List Fct) (k : Ky) (lo hi known : Int) (p : Option Addr) (A : Addr) (c : Nat) (w : World) (hs : SlV fc w p A l c) :
    Calls Try.prog 22 #[.slice p l.length c, .agg (kc k).toArray, .int .i64 lo, .int .i64 hi, .int .i64 known] w (Ret fun r w' => Ext [] w w' ∧ OwnP w.heap.size w' r (pointsL l k lo hi known)) := by
  refine calls_of_Sx (args := [.slice p l.length c, .agg (kc k).toArray, .int .i64 lo, .int .i64 hi, .int .i64 known]) Try.func22 rfl rfl ?_
  (repeat refine Sx.seq ?_)
  refine Sx.textR ?_
  refine Ox.act rfl rfl (acts_box rfl rfl) ?_
  rintro vbx wbx ⟨ebx, bbx, rfl, hbbx, hBbx⟩
  first | (have hCbx : Cells wbx ⟨bbx, 0, none⟩ [_, _, _] := hBbx.cells) | have hCbx := Blk.cellsL hBbx
  have hlbx := hBbx.lt
  have hzbx := ebx.size
  refine Ox.pure rfl rfl (rp_assign rfl rfl) ?_
  refine Ox.nil ?_
  (repeat first | refine thenE_normal ?_ | refine blockE_normal ?_ | refine scopeE_normal ?_)
  (repeat refine Sx.seq ?_)
  refine Sx.textR ?_
  refine Ox.act rfl rfl (acts_buildSlice (ps := []) rfl rfl rfl rfl rfl rfl rfl rfl) ?_
  rintro vb0 wb0 ⟨eb0, bb0, rfl, hbb0, hBb0⟩
  first | (have hCb0 : Cells wb0 ⟨bb0, 0, none⟩ [] := hBb0.cells) | have hCb0 := Blk.cellsL hBb0
  have hlb0 := hBb0.lt
  have hzb0 := eb0.size
  refine Ox.pure rfl rfl (rp_assign rfl rfl) ?_
  refine Ox.nil ?_
  (repeat first | refine thenE_normal ?_ | refine blockE_normal ?_ | refine scopeE_normal ?_)
  (repeat refine Sx.seq ?_)
  refine Sx.textR ?_
  refine Ox.pure rfl rfl (rp_move rfl rfl) ?_
  refine Ox.pure rfl rfl (rp_max rfl rfl rfl) ?_
  refine Ox.pure rfl rfl (rp_assign rfl rfl) ?_
  refine Ox.nil ?_
  (repeat first | refine thenE_normal ?_ | refine blockE_normal ?_ | refine scopeE_normal ?_)
  (repeat refine Sx.seq ?_); refine Sx.block ?_
  have ho0 : wb0.ownsRow wbx.heap.size 60 2 (.slice (some ⟨bb0, 0, none⟩) 0 0) 0 [] := own_built (size := 2) (len := 0) hBb0 (by omega) rfl (by decide)
  refine Sx.loop (ι := Int × Value × List Pt) (fun i E wr => E = [(0, .slice p l.length c), (3, .int .i64 hi), (4, .int .i64 known), (6, .pointer (some ⟨bbx, 0, none⟩)), (11, i.2.1), (12, .int .i64 i.1)] ∧ max 0 lo ≤ i.1 ∧ i.1 ≤ max (max 0 lo) (min hi 1024) ∧ Ext [] wbx wr ∧ OwnP wbx.heap.size wr i.2.1 i.2.2 ∧
      i.2.2 ++ ptsN (fun d => atL l k d known) i.1 (min hi 1024 - i.1).toNat = pointsL l k lo hi known) (fun i => (1024 - i.1).toNat) (max 0 lo, .slice (some ⟨bb0, 0, none⟩) 0 0, [])
    (sub_cons rfl (sub_cons rfl (sub_cons rfl (sub_cons rfl (sub_cons rfl (sub_cons rfl sub_nil)))))) ⟨rfl, Int.le_refl _, by dsimp only; omega, by (repeat first | exact .refl _ _ | assumption | refine .trans ?_ (by assumption)); first | done | fail, own_keep0 ho0 (by (repeat first | exact .refl _ _ | assumption | refine .trans ?_ (by assumption)); first | done | fail), rfl⟩ ?_
  rintro ⟨d, v, acc⟩ E wr ⟨rfl, hd, hdm, er, hown, hacc⟩
  dsimp only at hd hdm hown hacc ⊢
  have hz := er.size
  by_cases hlt : d < min hi 1024
  · have hlen := congrArg List.length hacc
    have hple := pointsL_le l k lo hi known
    rw [List.length_append] at hlen
    rw [ptsN_step _ hlt] at hacc
    cases hok : (atL l k d known).2 with
    | true =>
      rw [if_pos hok] at hacc
      (repeat refine Sx.seq ?_)
      refine Sx.textR ?_
      refine Ox.pure rfl rfl (rp_move rfl rfl) ?_
      refine Ox.pure rfl rfl (rp_move rfl rfl) ?_
      refine Ox.pure rfl rfl (rp_min rfl rfl rfl) ?_
      refine Ox.pure rfl rfl (by first | exact rp_bin rfl rfl rfl (binI_t (by omega)) | exact rp_bin rfl rfl rfl (binI_f (by omega)) | exact rp_bin rfl rfl rfl rfl) ?_
      refine Ox.nil ?_
      (repeat first | refine thenE_normal ?_ | refine blockE_normal ?_ | refine scopeE_normal ?_)
      (repeat refine Sx.seq ?_); first | refine Sx.cond_true rfl ?_ | refine Sx.cond rfl (fun _ => ?_) (fun h => absurd h (by simp [*]))
      (repeat refine Sx.seq ?_); refine Sx.skip ?_
      (repeat first | refine thenE_normal ?_ | refine blockE_normal ?_ | refine scopeE_normal ?_)
      (repeat refine Sx.seq ?_); refine Sx.block ?_
      (repeat refine Sx.seq ?_)
      refine Sx.textR ?_
      refine Ox.pure rfl rfl (rp_move rfl rfl) ?_
      refine Ox.val rfl rfl (rv_load rfl rfl (by (intro u hu; first | exact Cells.lA (by assumption) (by (repeat first | exact .refl _ _ | assumption | refine .trans ?_ (by assumption)); first | done | fail) rfl rfl | exact Cells.lL (by assumption) (by (repeat first | exact .refl _ _ | assumption | refine .trans ?_ (by assumption)); first | done | fail) rfl rfl (by assumption) | exact Cells.lP (by assumption) (by (repeat first | exact .refl _ _ | assumption | refine .trans ?_ (by assumption)); first | done | fail) _ rfl rfl rfl rfl | exact Cells.lP (by assumption) (by (repeat first | exact .refl _ _ | assumption | refine .trans ?_ (by assumption)); first | done | fail) _ rfl rfl (by assumption) (by assumption)))) ?_
      refine Ox.pure rfl rfl (rp_move rfl rfl) ?_
      refine Ox.pure rfl rfl (rp_move rfl rfl) ?_
      refine Ox.act rfl rfl (acts_call rfl rfl rfl (ref_At l k d known p A c _ (hs.ext0 (by (repeat first | exact .refl _ _ | assumption | refine .trans ?_ (by assumption)); first | done | fail)))) ?_
      rintro v3 w3 ⟨e3, rfl⟩
      have hz3 := e3.size
      rw [hok]
      refine Ox.pure rfl rfl (rp_move rfl rfl) ?_
      refine Ox.pure rfl rfl (rp_extract rfl rfl rfl) ?_
      refine Ox.pure rfl rfl (rp_extract rfl rfl rfl) ?_
      refine Ox.pure rfl rfl (rp_assign rfl rfl) ?_
      refine Ox.pure rfl rfl (rp_assign rfl rfl) ?_
      refine Ox.nil ?_
      (repeat first | refine thenE_normal ?_ | refine blockE_normal ?_ | refine scopeE_normal ?_)
      (repeat refine Sx.seq ?_)
      refine Sx.textR ?_
      refine Ox.pure rfl rfl (rp_move rfl rfl) ?_
      refine Ox.nil ?_
      (repeat first | refine thenE_normal ?_ | refine blockE_normal ?_ | refine scopeE_normal ?_)
      (repeat refine Sx.seq ?_); first | refine Sx.cond_true rfl ?_ | refine Sx.cond rfl (fun _ => ?_) (fun h => absurd h (by simp [*]))
      (repeat refine Sx.seq ?_)
      refine Sx.textR ?_
      refine Ox.pure rfl rfl (rp_move rfl rfl) ?_
      refine Ox.pure rfl rfl (rp_move rfl rfl) ?_
      refine Ox.pure rfl rfl (rp_move rfl rfl) ?_
      refine Ox.pure rfl rfl (rp_buildS (ps := [(0, .tmp 34), (1, .tmp 35)]) rfl rfl rfl rfl rfl) ?_
      refine Ox.act rfl rfl (acts_buildSlice (ps := [(0, .tmp 36)]) rfl rfl rfl rfl rfl rfl rfl rfl) ?_
      rintro vbs wbs ⟨ebs, bbs, rfl, hbbs, hBbs⟩
      first | (have hCbs : Cells wbs ⟨bbs, 0, none⟩ [_, _] := hBbs.cells) | have hCbs := Blk.cellsL hBbs
      have hlbs := hBbs.lt
      have hzbs := ebs.size
      refine Ox.act rfl rfl (acts_append (e := 60) (size := 2) (bytes := 16) rfl rfl rfl rfl (own_keep0 hown (by (repeat first | exact .refl _ _ | assumption | refine .trans ?_ (by assumption)); first | done | fail)) (source_slice rfl rfl (fun _ => rfl) hCbs (by simp [Value.oneCell'])) (by omega) (by omega) (by omega)) ?_
      rintro vap wap hgap
      refine Ox.pure rfl rfl (rp_assign rfl rfl) ?_
      refine Ox.nil ?_
      (repeat first | refine thenE_normal ?_ | refine blockE_normal ?_ | refine scopeE_normal ?_)
      (repeat refine Sx.seq ?_)
      refine Sx.textR ?_
      refine Ox.pure rfl rfl (rp_move rfl rfl) ?_
      refine Ox.pure rfl rfl (by first | exact rp_bin rfl rfl rfl (binI_fit_add (wrap64 (by omega))) | exact rp_bin rfl rfl rfl rfl) ?_
      refine Ox.pure rfl rfl (rp_assign rfl rfl) ?_
      refine Ox.nil ?_
      (repeat first | refine thenE_normal ?_ | refine blockE_normal ?_ | refine scopeE_normal ?_)
      refine ⟨(d + 1, vap, acc ++ [(d, (atL l k d known).1)]), _, sub_cons rfl (sub_cons rfl (sub_cons rfl (sub_cons rfl (sub_cons rfl (sub_cons rfl sub_nil))))), ⟨rfl, by dsimp only; omega, by dsimp only; omega, hgap.ext0 (by (repeat first | exact .refl _ _ | assumption | refine .trans ?_ (by assumption)); first | done | fail) (fun g hg => (own_lt hown g (by simp [hg])).1), OwnP.snoc hgap, by rw [← hacc]; simp⟩, by dsimp only; omega⟩
    | false =>
      rw [if_neg (by rw [hok]; decide), List.nil_append] at hacc
      (repeat refine Sx.seq ?_)
      refine Sx.textR ?_
      refine Ox.pure rfl rfl (rp_move rfl rfl) ?_
      refine Ox.pure rfl rfl (rp_move rfl rfl) ?_
      refine Ox.pure rfl rfl (rp_min rfl rfl rfl) ?_
      refine Ox.pure rfl rfl (by first | exact rp_bin rfl rfl rfl (binI_t (by omega)) | exact rp_bin rfl rfl rfl (binI_f (by omega)) | exact rp_bin rfl rfl rfl rfl) ?_
      refine Ox.nil ?_
      (repeat first | refine thenE_normal ?_ | refine blockE_normal ?_ | refine scopeE_normal ?_)
      (repeat refine Sx.seq ?_); first | refine Sx.cond_true rfl ?_ | refine Sx.cond rfl (fun _ => ?_) (fun h => absurd h (by simp [*]))
      (repeat refine Sx.seq ?_); refine Sx.skip ?_
      (repeat first | refine thenE_normal ?_ | refine blockE_normal ?_ | refine scopeE_normal ?_)
      (repeat refine Sx.seq ?_); refine Sx.block ?_
      (repeat refine Sx.seq ?_)
      refine Sx.textR ?_
      refine Ox.pure rfl rfl (rp_move rfl rfl) ?_
      refine Ox.val rfl rfl (rv_load rfl rfl (by (intro u hu; first | exact Cells.lA (by assumption) (by (repeat first | exact .refl _ _ | assumption | refine .trans ?_ (by assumption)); first | done | fail) rfl rfl | exact Cells.lL (by assumption) (by (repeat first | exact .refl _ _ | assumption | refine .trans ?_ (by assumption)); first | done | fail) rfl rfl (by assumption) | exact Cells.lP (by assumption) (by (repeat first | exact .refl _ _ | assumption | refine .trans ?_ (by assumption)); first | done | fail) _ rfl rfl rfl rfl | exact Cells.lP (by assumption) (by (repeat first | exact .refl _ _ | assumption | refine .trans ?_ (by assumption)); first | done | fail) _ rfl rfl (by assumption) (by assumption)))) ?_
      refine Ox.pure rfl rfl (rp_move rfl rfl) ?_
      refine Ox.pure rfl rfl (rp_move rfl rfl) ?_
      refine Ox.act rfl rfl (acts_call rfl rfl rfl (ref_At l k d known p A c _ (hs.ext0 (by (repeat first | exact .refl _ _ | assumption | refine .trans ?_ (by assumption)); first | done | fail)))) ?_
      rintro v4 w4 ⟨e4, rfl⟩
      have hz4 := e4.size
      rw [hok]
      refine Ox.pure rfl rfl (rp_move rfl rfl) ?_
      refine Ox.pure rfl rfl (rp_extract rfl rfl rfl) ?_
      refine Ox.pure rfl rfl (rp_extract rfl rfl rfl) ?_
      refine Ox.pure rfl rfl (rp_assign rfl rfl) ?_
      refine Ox.pure rfl rfl (rp_assign rfl rfl) ?_
      refine Ox.nil ?_
      (repeat first | refine thenE_normal ?_ | refine blockE_normal ?_ | refine scopeE_normal ?_)
      (repeat refine Sx.seq ?_)
      refine Sx.textR ?_
      refine Ox.pure rfl rfl (rp_move rfl rfl) ?_
      refine Ox.nil ?_
      (repeat first | refine thenE_normal ?_ | refine blockE_normal ?_ | refine scopeE_normal ?_)
      (repeat refine Sx.seq ?_); first | refine Sx.cond_false rfl ?_ | refine Sx.cond rfl (fun h => absurd h (by simp [*])) (fun _ => ?_)
      (repeat refine Sx.seq ?_); refine Sx.skip ?_
      (repeat first | refine thenE_normal ?_ | refine blockE_normal ?_ | refine scopeE_normal ?_)
      (repeat refine Sx.seq ?_)
      refine Sx.textR ?_
      refine Ox.pure rfl rfl (rp_move rfl rfl) ?_
      refine Ox.pure rfl rfl (by first | exact rp_bin rfl rfl rfl (binI_fit_add (wrap64 (by omega))) | exact rp_bin rfl rfl rfl rfl) ?_
      refine Ox.pure rfl rfl (rp_assign rfl rfl) ?_
      refine Ox.nil ?_
      (repeat first | refine thenE_normal ?_ | refine blockE_normal ?_ | refine scopeE_normal ?_)
      exact ⟨(d + 1, v, acc), _, sub_cons rfl (sub_cons rfl (sub_cons rfl (sub_cons rfl (sub_cons rfl (sub_cons rfl sub_nil))))), ⟨rfl, by dsimp only; omega, by dsimp only; omega, by (repeat first | exact .refl _ _ | assumption | refine .trans ?_ (by assumption)); first | done | fail, own_keep0 hown (by (repeat first | exact .refl _ _ | assumption | refine .trans ?_ (by assumption)); first | done | fail), hacc⟩, by dsimp only; omega⟩
  · rw [ptsN_end _ hlt, List.append_nil] at hacc
    (repeat refine Sx.seq ?_)
    refine Sx.textR ?_
    refine Ox.pure rfl rfl (rp_move rfl rfl) ?_
    refine Ox.pure rfl rfl (rp_move rfl rfl) ?_
    refine Ox.pure rfl rfl (rp_min rfl rfl rfl) ?_
    refine Ox.pure rfl rfl (by first | exact rp_bin rfl rfl rfl (binI_t (by omega)) | exact rp_bin rfl rfl rfl (binI_f (by omega)) | exact rp_bin rfl rfl rfl rfl) ?_
    refine Ox.nil ?_
    (repeat first | refine thenE_normal ?_ | refine blockE_normal ?_ | refine scopeE_normal ?_)
    (repeat refine Sx.seq ?_); first | refine Sx.cond_false rfl ?_ | refine Sx.cond rfl (fun h => absurd h (by simp [*])) (fun _ => ?_)
    (repeat refine Sx.seq ?_); refine Sx.exit ?_
    (repeat first | refine thenE_exit ?_ | refine blockE_same ?_ | refine blockE_other rfl ?_ | refine scopeE_exit ?_ | refine thenE_normal ?_ | refine blockE_normal ?_ | refine scopeE_normal ?_)
    (repeat refine Sx.seq ?_)
    refine Sx.textR ?_
    refine Ox.pure rfl rfl (rp_move rfl rfl) ?_
    refine Ox.pure rfl rfl (rp_assign rfl rfl) ?_
    refine Ox.nil ?_
    (repeat first | refine thenE_normal ?_ | refine blockE_normal ?_ | refine scopeE_normal ?_)
    (repeat refine Sx.seq ?_); refine Sx.ret ?_
    (repeat first | refine thenE_ret ?_ | refine blockE_ret ?_ | refine scopeE_ret ?_)
    exact endE_ret [_] ⟨rfl, trivial⟩ ⟨by (repeat first | exact .refl _ _ | assumption | refine .trans ?_ (by assumption)); first | done | fail, by rw [← hacc]; exact own_base (own_keep0 hown (by (repeat first | exact .refl _ _ | assumption | refine .trans ?_ (by assumption)); first | done | fail)) (by omega)⟩

end Go.Proofs.Ytjneaeghloffnaa
