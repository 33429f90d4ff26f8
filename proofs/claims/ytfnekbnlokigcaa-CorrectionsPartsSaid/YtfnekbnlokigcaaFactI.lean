/- The facts' walks: the values on all days. -/
import Derived.Test.YtfnekbnlokigcaaRows
import Derived.Test.YtfnekbnlokigcaaFactH
set_option linter.unusedVariables false
set_option maxRecDepth 100000
set_option maxHeartbeats 4000000
set_option linter.unusedSimpArgs false
namespace Go.Proofs.Ytfnekbnlokigcaa
open Go Go.Eng

/-! ## Tables of 1024 -/
def tab {α : Type} (g : Nat → α) : List α := (List.range 1024).map g
theorem tab_length {α : Type} (g : Nat → α) : (tab g).length = 1024 := by simp [tab]
theorem tab_get {α : Type} (g : Nat → α) {i : Nat} (h : i < (tab g).length) : (tab g)[i] = g i := by simp [tab]
theorem tab_ext {α : Type} {g h : Nat → α} (he : ∀ i, i < 1024 → g i = h i) : tab g = tab h := List.map_congr_left fun i hi => he i (by simpa using hi)
theorem tab_set {α : Type} (g : Nat → α) (i : Nat) (x : α) : (tab g).set i x = tab (fun j => if j = i then x else g j) := by
  apply List.ext_getElem
  · simp [tab]
  · intro j h1 h2
    rw [List.getElem_set, tab_get]
    by_cases h : i = j
    · subst h; rw [if_pos rfl, tab_get, if_pos rfl]
    · rw [if_neg h, tab_get, if_neg (Ne.symm h)]
theorem tab_same {α : Type} {g : Nat → α} {i : Nat} {x : α} (h : g i = x) : tab (fun j => if j = i then x else g j) = tab g := tab_ext fun j _ => by
  by_cases hj : j = i
  · subst hj; simp [h]
  · simp [hj]

abbrev sc (b : Option Fct) : List Value := [.bool b.isSome]
theorem sc_len (b : Option Fct) : (sc b).length = 1 := rfl
theorem ic_len (a : Int) : (ic a).length = 1 := rfl
theorem bestC_len (b : Option Fct) : (bestC b).length = 8 := rfl
theorem bestC_one (b : Option Fct) : ∀ u ∈ bestC b, u.oneCell' = true := fc_one _

def stepF (g : Nat → Option Fct) (f : Fct) (j : Nat) : Option Fct := dayStep (j : Int) (g j) f
/-- The table when the days before d have been looked at. -/
def upto (g : Nat → Option Fct) (f : Fct) (d : Int) (j : Nat) : Option Fct := if (j : Int) < d then stepF g f j else g j
theorem upto_start (g : Nat → Option Fct) (f : Fct) : tab (upto g f (max 0 f.lo)) = tab g := tab_ext fun j _ => by
  unfold upto stepF dayStep
  by_cases h : (j : Int) < max 0 f.lo
  · rw [if_pos h, if_neg (by omega)]
  · rw [if_neg h]
theorem upto_end (g : Nat → Option Fct) (f : Fct) {d : Int} (h : ¬ d < min f.hi 1024) : tab (upto g f d) = tab (stepF g f) := tab_ext fun j hj => by
  unfold upto
  by_cases h2 : (j : Int) < d
  · rw [if_pos h2]
  · rw [if_neg h2]; unfold stepF dayStep; rw [if_neg (by omega)]
theorem upto_step (g : Nat → Option Fct) (f : Fct) (d : Nat) : tab (upto g f ((d : Int) + 1)) = tab (fun j => if j = d then stepF g f d else upto g f d j) := tab_ext fun j _ => by
  unfold upto
  by_cases hj : j = d
  · subst hj; rw [if_pos (by omega), if_pos rfl]
  · rw [if_neg hj]
    by_cases h2 : (j : Int) < (d : Int)
    · rw [if_pos h2, if_pos (by omega)]
    · rw [if_neg h2, if_neg (by omega)]
theorem upto_at (g : Nat → Option Fct) (f : Fct) (d : Nat) : upto g f d d = g d := by unfold upto; rw [if_neg (by omega)]

def foldD (fs : List Fct) (j : Nat) : Option Fct := fs.foldl (dayStep (j : Int)) none
theorem foldD_snoc (fs : List Fct) (f : Fct) : foldD (fs ++ [f]) = stepF (foldD fs) f := by
  funext j; unfold foldD stepF; rw [List.foldl_append]; rfl
def valuesL (l : List Fct) (k : Ky) (known : Int) : List Int := tab (fun j => rowO (bestL l k (j : Int) known))
theorem valuesL_length (l : List Fct) (k : Ky) (known : Int) : (valuesL l k known).length = 1024 := tab_length _

/-- The values when i days have been gone through. -/
def rowTo (g : Nat → Option Fct) (i : Nat) (j : Nat) : Int := if j < i then rowO (g j) else 0
theorem rowTo_step (g : Nat → Option Fct) (i : Nat) : (tab (rowTo g i)).set i (rowO (g i)) = tab (rowTo g (i + 1)) := by
  rw [tab_set]
  refine tab_ext fun j _ => ?_
  unfold rowTo
  by_cases hj : j = i
  · subst hj; simp
  · rw [if_neg hj]
    by_cases h : j < i
    · rw [if_pos h, if_pos (by omega)]
    · rw [if_neg h, if_neg (by omega)]
theorem rowTo_end (g : Nat → Option Fct) : tab (rowTo g 1024) = tab (fun j => rowO (g j)) := tab_ext fun j hj => by unfold rowTo; rw [if_pos hj]

theorem z70 : (zrOf Try.prog 104).map (fun z => z.cells.toList) = some (rowsV ic (tab fun _ => 0)) := by kernel_rfl
theorem z84 : (zrOf Try.prog 111).map (fun z => z.cells.toList) = some (rowsV bestC (tab (foldD []))) := by kernel_rfl
theorem z85 : (zrOf Try.prog 112).map (fun z => z.cells.toList) = some (rowsV sc (tab (foldD []))) := by kernel_rfl


theorem values_at (l : List Fct) (k : Ky) (known : Int) (p : Option Addr) (A : Addr) (c : Nat) (w : World) (hs : SlV fc w p A l c) :
    Calls Try.prog 47 #[.slice p l.length c, .agg (kc k).toArray, .int .i64 known] w (Ret fun r w' => Ext [] w w' ∧ r = .agg (rowsV ic (valuesL l k known)).toArray) := by
  refine calls_of_SxG (args := [.slice p l.length c, .agg (kc k).toArray, .int .i64 known]) Try.func47 rfl rfl ?_
  refine SxG.run ?_
  (repeat refine Sx.seq ?_)
  refine Sx.textR ?_
  refine Ox.act rfl rfl (acts_box rfl rfl) ?_
  rintro vb4 wb4 ⟨eb4, bb4, rfl, hbb4, hBb4⟩
  first | (have hCb4 : Cells wb4 ⟨bb4, 0, none⟩ [_, _, _] := hBb4.cells) | have hCb4 := Blk.cellsL hBb4
  have hlb4 := hBb4.lt
  have hzb4 := eb4.size
  refine Ox.act rfl rfl (acts_alloc_z rfl z70) ?_
  rintro vb6 wb6 ⟨eb6, bb6, rfl, hbb6, hBb6⟩
  have hzb6 := eb6.size
  have hlb6 := hBb6.lt
  refine Ox.nil ?_
  (repeat first | refine thenE_normal ?_ | refine blockE_normal ?_ | refine scopeE_normal ?_)
  refine ⟨rfl, ?_⟩
  refine SxG.run ?_
  (repeat refine Sx.seq ?_)
  refine Sx.textR ?_
  refine Ox.act rfl rfl (acts_alloc_z rfl z84) ?_
  rintro vb7 wb7 ⟨eb7, bb7, rfl, hbb7, hBb7⟩
  have hzb7 := eb7.size
  have hlb7 := hBb7.lt
  refine Ox.nil ?_
  (repeat first | refine thenE_normal ?_ | refine blockE_normal ?_ | refine scopeE_normal ?_)
  refine ⟨rfl, ?_⟩
  refine SxG.run ?_
  (repeat refine Sx.seq ?_)
  refine Sx.textR ?_
  refine Ox.act rfl rfl (acts_alloc_z rfl z85) ?_
  rintro vb8 wb8 ⟨eb8, bb8, rfl, hbb8, hBb8⟩
  have hzb8 := eb8.size
  have hlb8 := hBb8.lt
  refine Ox.nil ?_
  (repeat first | refine thenE_normal ?_ | refine blockE_normal ?_ | refine scopeE_normal ?_)
  refine ⟨rfl, ?_⟩
  refine SxG.seqL ?_
  refine SxG.run ?_
  (repeat refine Sx.seq ?_)
  refine Sx.textR ?_
  refine Ox.pure rfl rfl (rp_move rfl rfl) ?_
  refine Ox.val rfl rfl (rv_load rfl rfl (by (intro u hu; first | exact Cells.lA (by assumption) (by (repeat first | exact .refl _ _ | assumption | refine .trans ?_ (by assumption)); first | done | fail) rfl rfl | exact Cells.lL (by assumption) (by (repeat first | exact .refl _ _ | assumption | refine .trans ?_ (by assumption)); first | done | fail) rfl rfl (by assumption) | exact Cells.lP (by assumption) (by (repeat first | exact .refl _ _ | assumption | refine .trans ?_ (by assumption)); first | done | fail) _ rfl rfl rfl rfl | exact Cells.lP (by assumption) (by (repeat first | exact .refl _ _ | assumption | refine .trans ?_ (by assumption)); first | done | fail) _ rfl rfl (by assumption) (by assumption)))) ?_
  refine Ox.pure rfl rfl (rp_move rfl rfl) ?_
  refine Ox.act rfl rfl (acts_call rfl rfl rfl (of_at l k known p c _)) ?_
  rintro vof wof ⟨eof, c1, c2, c3, rfl, hc1, hc2, hc3, hC1, hC2, hC3⟩
  have hzof := eof.size
  refine Ox.nil ?_
  (repeat first | refine thenE_normal ?_ | refine blockE_normal ?_ | refine scopeE_normal ?_)
  refine ⟨rfl, ?_⟩
  have hBr : Blk wof bb6 104 (rowsV ic (tab fun _ => 0)) := hBb6.ext (X := []) (by (repeat first | exact .refl _ _ | assumption | refine .trans ?_ (by assumption)); first | done | fail) (by simp)
  have hBe : Blk wof bb7 111 (rowsV bestC (tab (foldD []))) := hBb7.ext (X := []) (by (repeat first | exact .refl _ _ | assumption | refine .trans ?_ (by assumption)); first | done | fail) (by simp)
  have hBs : Blk wof bb8 112 (rowsV sc (tab (foldD []))) := hBb8.ext (X := []) (by (repeat first | exact .refl _ _ | assumption | refine .trans ?_ (by assumption)); first | done | fail) (by simp)
  have hsof := hs.ext0 (w' := wof) (by (repeat first | exact .refl _ _ | assumption | refine .trans ?_ (by assumption)); first | done | fail)
  have hnew : w.heap.size ≤ bb6 ∧ w.heap.size ≤ bb7 ∧ w.heap.size ≤ bb8 ∧ w.heap.size ≤ c1 ∧ w.heap.size ≤ c2 ∧ w.heap.size ≤ c3 := by omega
  have hneq : bb6 < bb7 ∧ bb7 < bb8 ∧ bb8 < c1 ∧ bb8 < c2 ∧ bb8 < c3 := by omega
  have hlc : c1 < wof.heap.size ∧ c2 < wof.heap.size ∧ c3 < wof.heap.size := ⟨hC1.lt (by simp), hC2.lt (by simp), hC3.lt (by simp)⟩
  have hlA : 0 < l.length → A.block < w.heap.size := fun h => hs.row.lt (fun e => by have := rowsV_length fc_len l; rw [e] at this; simp at this; omega)
  have e0 : Ext [] w wof := by (repeat first | exact .refl _ _ | assumption | refine .trans ?_ (by assumption)); first | done | fail
  have hz0 := e0.size
  have hl6 := hBr.lt
  have hl7 := hBe.lt
  have hl8 := hBs.lt
  refine SxG.range (g := 48) (B := wof.heap.size) (S := OfS l.length A c1 c2 c3) rfl rfl rfl
    (fun pre X W => X = [bb7, bb8] ∧ Ext [bb7, bb8] wof W ∧ ∃ fs : List Fct, pre = fs.map ya ∧ Blk W bb7 111 (rowsV bestC (tab (foldD fs))) ∧ Blk W bb8 112 (rowsV sc (tab (foldD fs)))) ⟨?_, ?_⟩ (Nat.le_refl _) [bb7, bb8] ⟨rfl, Ext.refl _ _, [], rfl, hBe, hBs⟩ ?_ ?_
    (fun W hW => of_iter l k known p A c c1 c2 c3 wof.heap.size W (hsof.ext0 hW) (hC1.ext0 hW) (hC2.ext0 hW) (hC3.ext0 hW)) ?_ ?_ ?_
  · rintro pre X W W' Z ⟨rfl, hE, fs, rfl, hB0, hB1⟩ he hZ
    have h0 : bb7 ∉ Z := fun h => (hZ _ h).2 (by simp)
    have h1 : bb8 ∉ Z := fun h => (hZ _ h).2 (by simp)
    exact ⟨rfl, hE.join he (fun y hy => .inr (hZ y hy).1), fs, rfl, hB0.ext he h0, hB1.ext he h1⟩
  · rintro pre X W ⟨rfl, hE, fs, rfl, hB0, hB1⟩ x hx
    simp only [List.mem_cons, List.not_mem_nil, or_false] at hx
    rcases hx with rfl | rfl
    · exact hB0.lt
    · exact hB1.lt
  · intro x hx hS
    simp only [List.mem_cons, List.not_mem_nil, or_false] at hx
    rcases hS with rfl | rfl | rfl | ⟨h1, rfl⟩
    · omega
    · omega
    · omega
    · have := hlA h1; omega
  · intro x hS
    rcases hS with rfl | rfl | rfl | ⟨h1, rfl⟩
    · omega
    · omega
    · omega
    · have := hlA h1; omega
  · intro pre x hx
    have := hx.subset (show x ∈ pre ++ [x] by simp)
    obtain ⟨f, _, rfl⟩ := List.mem_map.1 this
    rfl
  · rintro pre x X W l' hnx ⟨rfl, hE, fs, rfl, hB0, hB1⟩ hl hl2 hlX
    obtain ⟨f, rfl⟩ := ofL_next hnx
    have hzW := hE.size
    have hl7W := hB0.lt
    have hl8W := hB1.lt
    (repeat refine Sx.seq ?_)
    refine Sx.textR ?_
    refine Ox.act rfl rfl (acts_alloc rfl rfl) ?_
    rintro val wal ⟨eal, bal, rfl, hbal, hBal⟩
    first | (have hCal : Cells wal ⟨bal, 0, none⟩ [_, _, _, _, _, _, _, _] := hBal.cells) | have hCal := Blk.cellsL hBal
    have hlal := hBal.lt
    have hzal := eal.size
    refine Ox.act rfl rfl (acts_store_all rfl rfl rfl hBal rfl (by first | rfl | assumption) (by first | rfl | assumption) (by (first | assumption | exact List.all_eq_true.mp rfl | simp [Value.cells, Value.oneCell']))) ?_
    rintro vst wst ⟨rfl, qst, hBst⟩
    have est := Ext.renew eal qst hbal
    have hzst := est.size
    have hlst := hBst.lt
    first | (have hCst : Cells wst ⟨bal, 0, none⟩ [_, _, _, _, _, _, _, _] := hBst.cells) | have hCst := Blk.cellsL hBst
    refine Ox.nil ?_
    (repeat first | refine thenE_normal ?_ | refine blockE_normal ?_ | refine scopeE_normal ?_)
    refine ⟨rfl, by (repeat first | exact .refl _ _ | assumption | refine .trans ?_ (by assumption)); first | done | fail, fun W2 e2 => ?_⟩
    have hz2 := e2.size
    have hCf : Cells W2 ⟨bal, 0, none⟩ (fc f) := Cells.ext (cs := fc f) hCst e2 (by simp; omega)
    have hB0' := (hB0.ext est (by simp)).ext e2 (by simp; omega)
    have hB1' := (hB1.ext est (by simp)).ext e2 (by simp; omega)
    have hEW2 : Ext [bb7, bb8] wof W2 := (hE.trans est.up).join e2 (fun y hy => by simp only [List.mem_singleton] at hy; subst hy; exact .inr (by omega))
    generalize hg : foldD fs = g at *
    (repeat refine Sx.seq ?_); refine Sx.block ?_
    (repeat refine Sx.seq ?_)
    refine Sx.textR ?_
    refine Ox.pure rfl rfl (by first | exact rp_fieldAddr2 rfl rfl rfl rfl | exact rp_fieldAddr rfl rfl rfl rfl) ?_
    refine Ox.pure rfl rfl (by first | exact rp_fieldAddr2 rfl rfl rfl rfl | exact rp_fieldAddr rfl rfl rfl rfl) ?_
    refine Ox.val rfl rfl (rv_load rfl rfl (by (intro u hu; first | exact Cells.l1 (by assumption) (by (repeat first | exact .refl _ _ | assumption | refine .trans ?_ (by assumption)); first | done | fail) _ rfl rfl | exact Cells.l0 (by assumption) (by (repeat first | exact .refl _ _ | assumption | refine .trans ?_ (by assumption)); first | done | fail) rfl rfl))) ?_
    refine Ox.pure rfl rfl (rp_max rfl rfl rfl) ?_
    refine Ox.pure rfl rfl (rp_assign rfl rfl) ?_
    refine Ox.nil ?_
    (repeat first | refine thenE_normal ?_ | refine blockE_normal ?_ | refine scopeE_normal ?_)
    (repeat refine Sx.seq ?_); refine Sx.block ?_
    refine Sx.loop (ι := Int) (fun d E wr => E = [(7, .pointer (some ⟨bb7, 0, none⟩)), (8, .pointer (some ⟨bb8, 0, none⟩)), (9, .pointer (some ⟨bal, 0, none⟩)), (10, .int .i64 d)] ∧ max 0 f.lo ≤ d ∧ d ≤ max (max 0 f.lo) (min f.hi 1024) ∧ Ext [bb7, bb8] W2 wr ∧ Blk wr bb7 111 (rowsV bestC (tab (upto g f d))) ∧ Blk wr bb8 112 (rowsV sc (tab (upto g f d)))) (fun d => (1024 - d).toNat) (max 0 f.lo)
      (sub_cons rfl (sub_cons rfl (sub_cons rfl (sub_cons rfl sub_nil)))) ⟨rfl, Int.le_refl _, by omega, Ext.up (by (repeat first | exact .refl _ _ | assumption | refine .trans ?_ (by assumption)); first | done | fail), by rw [upto_start]; exact hB0'.ext (X := []) (by (repeat first | exact .refl _ _ | assumption | refine .trans ?_ (by assumption)); first | done | fail) (by simp), by rw [upto_start]; exact hB1'.ext (X := []) (by (repeat first | exact .refl _ _ | assumption | refine .trans ?_ (by assumption)); first | done | fail) (by simp)⟩ ?_
    rintro d E wr ⟨rfl, hd, hdm, er, hBw, hBz⟩
    have hCfr : Cells wr ⟨bal, 0, none⟩ (fc f) := hCf.ext er (by simp; omega)
    by_cases hlt : d < min f.hi 1024
    · obtain ⟨j, rfl⟩ : ∃ j : Nat, d = (j : Int) := ⟨d.toNat, by omega⟩
      have hj : j < 1024 := by omega
      have hjt : j < (tab (upto g f (j : Int))).length := by rw [tab_length]; exact hj
      have hatE : ((rowsV bestC (tab (upto g f (j : Int)))).drop (j * 8)).take 8 = fc ((g j).getD zF) := by rw [rowsV_at bestC_len hjt, tab_get, upto_at]; rfl
      have hl8E := fc_len ((g j).getD zF)
      have hatS : (rowsV sc (tab (upto g f (j : Int))))[j * 1]? = some (.bool (g j).isSome) := by
        have := congrArg (fun c => c[0]?) (rowsV_at sc_len hjt)
        rw [tab_get, upto_at] at this
        simpa using this
      have hCE := hBw.cells
      have hCS := hBz.cells
      have hdec : f.lo ≤ (j : Int) ∧ (j : Int) < f.hi := by omega
      have turn : stepF g f j = some f → ∀ W3, Ext [bb7, bb8] wr W3 → Blk W3 bb7 111 (rowsV bestC ((tab (upto g f (j : Int))).set j (some f))) → Blk W3 bb8 112 (rowsV sc ((tab (upto g f (j : Int))).set j (some f))) →
          Ext [bb7, bb8] W2 W3 ∧ Blk W3 bb7 111 (rowsV bestC (tab (upto g f ((j : Int) + 1)))) ∧ Blk W3 bb8 112 (rowsV sc (tab (upto g f ((j : Int) + 1)))) := fun hst W3 e3 h7 h8 => by
        rw [tab_set, ← hst, ← upto_step] at h7 h8
        exact ⟨er.trans e3, h7, h8⟩
      have stay : stepF g f j = g j → ∀ W3, Ext [] wr W3 →
          Ext [bb7, bb8] W2 W3 ∧ Blk W3 bb7 111 (rowsV bestC (tab (upto g f ((j : Int) + 1)))) ∧ Blk W3 bb8 112 (rowsV sc (tab (upto g f ((j : Int) + 1)))) := fun hst W3 e3 => by
        have hsame : tab (upto g f ((j : Int) + 1)) = tab (upto g f (j : Int)) := by rw [upto_step, tab_same (by rw [upto_at, hst])]
        rw [hsame]
        exact ⟨er.trans e3.up, hBw.ext e3 (by simp), hBz.ext e3 (by simp)⟩
      cases hgj : g j with
      | none =>
        rw [hgj] at hatE hatS hl8E
        have hst : stepF g f j = some f := by unfold stepF dayStep; rw [if_pos hdec, hgj]
        (repeat refine Sx.seq ?_)
        refine Sx.textR ?_
        refine Ox.pure rfl rfl (rp_move rfl rfl) ?_
        refine Ox.pure rfl rfl (by first | exact rp_fieldAddr2 rfl rfl rfl rfl | exact rp_fieldAddr rfl rfl rfl rfl) ?_
        refine Ox.pure rfl rfl (by first | exact rp_fieldAddr2 rfl rfl rfl rfl | exact rp_fieldAddr rfl rfl rfl rfl) ?_
        refine Ox.val rfl rfl (rv_load rfl rfl (by (intro u hu; first | exact Cells.l1 (by assumption) (by (repeat first | exact .refl _ _ | assumption | refine .trans ?_ (by assumption)); first | done | fail) _ rfl rfl | exact Cells.l0 (by assumption) (by (repeat first | exact .refl _ _ | assumption | refine .trans ?_ (by assumption)); first | done | fail) rfl rfl))) ?_
        refine Ox.pure rfl rfl (rp_min rfl rfl rfl) ?_
        refine Ox.pure rfl rfl (by first | exact rp_bin rfl rfl rfl (binI_t (by omega)) | exact rp_bin rfl rfl rfl (binI_f (by omega)) | exact rp_bin rfl rfl rfl rfl) ?_
        refine Ox.nil ?_
        (repeat first | refine thenE_normal ?_ | refine blockE_normal ?_ | refine scopeE_normal ?_)
        (repeat refine Sx.seq ?_); first | refine Sx.cond_true rfl ?_ | refine Sx.cond rfl (fun _ => ?_) (fun h => absurd h (by simp [*]))
        (repeat refine Sx.seq ?_); refine Sx.skip ?_
        (repeat first | refine thenE_normal ?_ | refine blockE_normal ?_ | refine scopeE_normal ?_)
        (repeat refine Sx.seq ?_); refine Sx.block ?_
        (repeat refine Sx.seq ?_)
        refine Sx.walkR rfl (fun _ _ _ _ h => h) [0, 1, 2, 3, 4, 5, 6, 7, 8, 9, 10, 11] [0, 1, 2, 3, 4, 5, 6, 7, 8, 10, 11] (0) (by kernel_rfl) ?_
        intro hq w1 e1; have hz1 := e1.size
        refine Wx.pure hq rfl rfl rfl rfl (rp_move rfl rfl) ?_
        refine Wx.pure hq rfl rfl rfl rfl (rp_indexArr j rfl rfl rfl rfl rfl rfl (by omega)) ?_
        refine Wx.val hq rfl rfl rfl rfl ([]) (rv_load rfl rfl (fun u hu => ((hCS.ext0 (by (repeat first | exact .refl _ _ | assumption | refine .trans ?_ (by assumption)); first | done | fail)).ext0 hu).ld _ rfl hatS)) ?_
        refine Wx.pure hq rfl rfl rfl rfl (rp_not rfl rfl) ?_
        refine Wx.pure hq rfl rfl rfl rfl (rp_move rfl rfl) ?_
        first | (refine Wx.skip hq rfl rfl rfl rfl ?_) | (refine Wx.val hq rfl rfl rfl rfl ([]) (rv_load rfl rfl (by (intro u hu; first | exact Cells.lA (by assumption) (by (repeat first | exact .refl _ _ | assumption | refine .trans ?_ (by assumption)); first | done | fail) rfl rfl | exact Cells.lL (by assumption) (by (repeat first | exact .refl _ _ | assumption | refine .trans ?_ (by assumption)); first | done | fail) rfl rfl (by assumption) | exact Cells.lP (by assumption) (by (repeat first | exact .refl _ _ | assumption | refine .trans ?_ (by assumption)); first | done | fail) _ rfl rfl rfl rfl | exact Cells.lP (by assumption) (by (repeat first | exact .refl _ _ | assumption | refine .trans ?_ (by assumption)); first | done | fail) _ rfl rfl (by assumption) (by assumption)))) ?_)
        first | (refine Wx.skip hq rfl rfl rfl rfl ?_) | (refine Wx.pure hq rfl rfl rfl rfl (rp_move rfl rfl) ?_)
        first | (refine Wx.skip hq rfl rfl rfl rfl ?_) | (refine Wx.pure hq rfl rfl rfl rfl (rp_indexArr j rfl rfl rfl rfl rfl rfl (by omega)) ?_)
        first | (refine Wx.skip hq rfl rfl rfl rfl ?_) | (refine Wx.val hq rfl rfl rfl rfl ([]) (rv_load rfl rfl (by (intro u hu; first | exact Cells.lA (by assumption) (by (repeat first | exact .refl _ _ | assumption | refine .trans ?_ (by assumption)); first | done | fail) rfl rfl | exact Cells.lL (by assumption) (by (repeat first | exact .refl _ _ | assumption | refine .trans ?_ (by assumption)); first | done | fail) rfl rfl (by assumption) | exact Cells.lP (by assumption) (by (repeat first | exact .refl _ _ | assumption | refine .trans ?_ (by assumption)); first | done | fail) _ rfl rfl rfl rfl | exact Cells.lP (by assumption) (by (repeat first | exact .refl _ _ | assumption | refine .trans ?_ (by assumption)); first | done | fail) _ rfl rfl (by assumption) (by assumption)))) ?_)
        refine Wx.actSkip rfl rfl rfl rfl ?_
        first | (refine Wx.skip hq rfl rfl rfl rfl ?_) | (refine Wx.pure hq rfl rfl rfl rfl (by first | exact rp_bin rfl rfl rfl (binI_t (by omega)) | exact rp_bin rfl rfl rfl (binI_f (by omega)) | exact rp_bin rfl rfl rfl rfl) ?_)
        refine Wx.pure hq rfl rfl rfl rfl (by first | exact rp_pick_t rfl rfl rfl | exact rp_pick_f rfl rfl rfl) ?_
        refine Wx.nil ?_
        (repeat first | refine thenE_normal ?_ | refine blockE_normal ?_ | refine scopeE_normal ?_)
        (repeat refine Sx.seq ?_); first | refine Sx.cond_true rfl ?_ | refine Sx.cond rfl (fun _ => ?_) (fun h => absurd h (by simp [*]))
        (repeat refine Sx.seq ?_)
        refine Sx.textR ?_
        refine Ox.pure rfl rfl (rp_move rfl rfl) ?_
        refine Ox.pure rfl rfl (rp_move rfl rfl) ?_
        refine Ox.val rfl rfl (rv_load rfl rfl (by (intro u hu; first | exact Cells.lA (by assumption) (by (repeat first | exact .refl _ _ | assumption | refine .trans ?_ (by assumption)); first | done | fail) rfl rfl | exact Cells.lL (by assumption) (by (repeat first | exact .refl _ _ | assumption | refine .trans ?_ (by assumption)); first | done | fail) rfl rfl (by assumption) | exact Cells.lP (by assumption) (by (repeat first | exact .refl _ _ | assumption | refine .trans ?_ (by assumption)); first | done | fail) _ rfl rfl rfl rfl | exact Cells.lP (by assumption) (by (repeat first | exact .refl _ _ | assumption | refine .trans ?_ (by assumption)); first | done | fail) _ rfl rfl (by assumption) (by assumption)))) ?_
        refine Ox.pure rfl rfl (rp_indexArr j rfl rfl rfl rfl rfl rfl (by omega)) ?_
        refine Ox.act rfl rfl (acts_store_row bestC_len (some f) rfl rfl rfl rfl rfl (hBw.ext (X := []) (by (repeat first | exact .refl _ _ | assumption | refine .trans ?_ (by assumption)); first | done | fail) (by simp)) hjt (bestC_one _)) ?_
        rintro vs7 ws7 ⟨rfl, qs7, hbs7⟩
        refine Ox.pure rfl rfl (rp_indexArr j rfl rfl rfl rfl rfl rfl (by omega)) ?_
        refine Ox.act rfl rfl (acts_store_row sc_len (some f) rfl rfl rfl rfl rfl ((hBz.ext (X := []) (by (repeat first | exact .refl _ _ | assumption | refine .trans ?_ (by assumption)); first | done | fail) (by simp)).ext qs7 (by simp; omega)) hjt (by simp [Value.oneCell'])) ?_
        rintro vs8 ws8 ⟨rfl, qs8, hbs8⟩
        refine Ox.nil ?_
        (repeat first | refine thenE_normal ?_ | refine blockE_normal ?_ | refine scopeE_normal ?_)
        (repeat refine Sx.seq ?_)
        refine Sx.textR ?_
        refine Ox.pure rfl rfl (rp_move rfl rfl) ?_
        refine Ox.pure rfl rfl (by first | exact rp_bin rfl rfl rfl (binI_fit_add (wrap64 (by omega))) | exact rp_bin rfl rfl rfl rfl) ?_
        refine Ox.pure rfl rfl (rp_assign rfl rfl) ?_
        refine Ox.nil ?_
        (repeat first | refine thenE_normal ?_ | refine blockE_normal ?_ | refine scopeE_normal ?_)
        obtain ⟨t1, t2, t3⟩ := turn hst _ (((Ext.up (by (repeat first | exact .refl _ _ | assumption | refine .trans ?_ (by assumption)); first | done | fail)).trans (qs7.mono (by simp))).trans (qs8.mono (by simp))) (hbs7.ext qs8 (by simp; omega)) hbs8
        exact ⟨(j : Int) + 1, _, sub_cons rfl (sub_cons rfl (sub_cons rfl (sub_cons rfl sub_nil))), ⟨rfl, by omega, by omega, t1, t2, t3⟩, by omega⟩
      | some h =>
        rw [hgj] at hatE hatS hl8E
        have hge := cmpF_ge f h
        by_cases h3 : before f h
        · have hneg : ¬ 0 ≤ cmpF f h := fun hh => hge.1 hh h3
          have hst : stepF g f j = g j := by unfold stepF dayStep; rw [if_pos hdec, hgj]; simp [h3]
          (repeat refine Sx.seq ?_)
          refine Sx.textR ?_
          refine Ox.pure rfl rfl (rp_move rfl rfl) ?_
          refine Ox.pure rfl rfl (by first | exact rp_fieldAddr2 rfl rfl rfl rfl | exact rp_fieldAddr rfl rfl rfl rfl) ?_
          refine Ox.pure rfl rfl (by first | exact rp_fieldAddr2 rfl rfl rfl rfl | exact rp_fieldAddr rfl rfl rfl rfl) ?_
          refine Ox.val rfl rfl (rv_load rfl rfl (by (intro u hu; first | exact Cells.l1 (by assumption) (by (repeat first | exact .refl _ _ | assumption | refine .trans ?_ (by assumption)); first | done | fail) _ rfl rfl | exact Cells.l0 (by assumption) (by (repeat first | exact .refl _ _ | assumption | refine .trans ?_ (by assumption)); first | done | fail) rfl rfl))) ?_
          refine Ox.pure rfl rfl (rp_min rfl rfl rfl) ?_
          refine Ox.pure rfl rfl (by first | exact rp_bin rfl rfl rfl (binI_t (by omega)) | exact rp_bin rfl rfl rfl (binI_f (by omega)) | exact rp_bin rfl rfl rfl rfl) ?_
          refine Ox.nil ?_
          (repeat first | refine thenE_normal ?_ | refine blockE_normal ?_ | refine scopeE_normal ?_)
          (repeat refine Sx.seq ?_); first | refine Sx.cond_true rfl ?_ | refine Sx.cond rfl (fun _ => ?_) (fun h => absurd h (by simp [*]))
          (repeat refine Sx.seq ?_); refine Sx.skip ?_
          (repeat first | refine thenE_normal ?_ | refine blockE_normal ?_ | refine scopeE_normal ?_)
          (repeat refine Sx.seq ?_); refine Sx.block ?_
          (repeat refine Sx.seq ?_)
          refine Sx.walkR rfl (fun _ _ _ _ h => h) [0, 1, 2, 3, 4, 5, 6, 7, 8, 9, 10, 11] [0, 1, 2, 3, 4, 5, 6, 7, 8, 10, 11] (0) (by kernel_rfl) ?_
          intro hq w3 e3; have hz3 := e3.size
          refine Wx.pure hq rfl rfl rfl rfl (rp_move rfl rfl) ?_
          refine Wx.pure hq rfl rfl rfl rfl (rp_indexArr j rfl rfl rfl rfl rfl rfl (by omega)) ?_
          refine Wx.val hq rfl rfl rfl rfl ([]) (rv_load rfl rfl (fun u hu => ((hCS.ext0 (by (repeat first | exact .refl _ _ | assumption | refine .trans ?_ (by assumption)); first | done | fail)).ext0 hu).ld _ rfl hatS)) ?_
          refine Wx.pure hq rfl rfl rfl rfl (rp_not rfl rfl) ?_
          refine Wx.pure hq rfl rfl rfl rfl (rp_move rfl rfl) ?_
          first | (refine Wx.skip hq rfl rfl rfl rfl ?_) | (refine Wx.val hq rfl rfl rfl rfl ([]) (rv_load rfl rfl (by (intro u hu; first | exact Cells.lA (by assumption) (by (repeat first | exact .refl _ _ | assumption | refine .trans ?_ (by assumption)); first | done | fail) rfl rfl | exact Cells.lL (by assumption) (by (repeat first | exact .refl _ _ | assumption | refine .trans ?_ (by assumption)); first | done | fail) rfl rfl (by assumption) | exact Cells.lP (by assumption) (by (repeat first | exact .refl _ _ | assumption | refine .trans ?_ (by assumption)); first | done | fail) _ rfl rfl rfl rfl | exact Cells.lP (by assumption) (by (repeat first | exact .refl _ _ | assumption | refine .trans ?_ (by assumption)); first | done | fail) _ rfl rfl (by assumption) (by assumption)))) ?_)
          first | (refine Wx.skip hq rfl rfl rfl rfl ?_) | (refine Wx.pure hq rfl rfl rfl rfl (rp_move rfl rfl) ?_)
          first | (refine Wx.skip hq rfl rfl rfl rfl ?_) | (refine Wx.pure hq rfl rfl rfl rfl (rp_indexArr j rfl rfl rfl rfl rfl rfl (by omega)) ?_)
          first | (refine Wx.skip hq rfl rfl rfl rfl ?_) | (refine Wx.val hq rfl rfl rfl rfl ([]) (rv_load rfl rfl (by (intro u hu; first | exact Cells.lA (by assumption) (by (repeat first | exact .refl _ _ | assumption | refine .trans ?_ (by assumption)); first | done | fail) rfl rfl | exact Cells.lL (by assumption) (by (repeat first | exact .refl _ _ | assumption | refine .trans ?_ (by assumption)); first | done | fail) rfl rfl (by assumption) | exact Cells.lP (by assumption) (by (repeat first | exact .refl _ _ | assumption | refine .trans ?_ (by assumption)); first | done | fail) _ rfl rfl rfl rfl | exact Cells.lP (by assumption) (by (repeat first | exact .refl _ _ | assumption | refine .trans ?_ (by assumption)); first | done | fail) _ rfl rfl (by assumption) (by assumption)))) ?_)
          first | (refine Wx.actSkip rfl rfl rfl rfl ?_) | (refine Wx.actNew rfl rfl rfl rfl (acts_call rfl rfl rfl (compare_at f h _)) ?_; rintro v4 w4 e4 rfl; have hz4 := e4.size)
          first | (refine Wx.skip hq rfl rfl rfl rfl ?_) | (refine Wx.pure hq rfl rfl rfl rfl (by first | exact rp_bin rfl rfl rfl (binI_t (by omega)) | exact rp_bin rfl rfl rfl (binI_f (by omega)) | exact rp_bin rfl rfl rfl rfl) ?_)
          refine Wx.pure hq rfl rfl rfl rfl (by first | exact rp_pick_t rfl rfl rfl | exact rp_pick_f rfl rfl rfl) ?_
          refine Wx.nil ?_
          (repeat first | refine thenE_normal ?_ | refine blockE_normal ?_ | refine scopeE_normal ?_)
          (repeat refine Sx.seq ?_); first | refine Sx.cond_false rfl ?_ | refine Sx.cond rfl (fun h => absurd h (by simp [*])) (fun _ => ?_)
          (repeat refine Sx.seq ?_); refine Sx.skip ?_
          (repeat first | refine thenE_normal ?_ | refine blockE_normal ?_ | refine scopeE_normal ?_)
          (repeat refine Sx.seq ?_)
          refine Sx.textR ?_
          refine Ox.pure rfl rfl (rp_move rfl rfl) ?_
          refine Ox.pure rfl rfl (by first | exact rp_bin rfl rfl rfl (binI_fit_add (wrap64 (by omega))) | exact rp_bin rfl rfl rfl rfl) ?_
          refine Ox.pure rfl rfl (rp_assign rfl rfl) ?_
          refine Ox.nil ?_
          (repeat first | refine thenE_normal ?_ | refine blockE_normal ?_ | refine scopeE_normal ?_)
          exact ⟨(j : Int) + 1, _, sub_cons rfl (sub_cons rfl (sub_cons rfl (sub_cons rfl sub_nil))), ⟨rfl, by omega, by omega, (stay hst _ (by (repeat first | exact .refl _ _ | assumption | refine .trans ?_ (by assumption)); first | done | fail)).1, (stay hst _ (by (repeat first | exact .refl _ _ | assumption | refine .trans ?_ (by assumption)); first | done | fail)).2.1, (stay hst _ (by (repeat first | exact .refl _ _ | assumption | refine .trans ?_ (by assumption)); first | done | fail)).2.2⟩, by omega⟩
        · have hpos : 0 ≤ cmpF f h := hge.2 h3
          have hst : stepF g f j = some f := by unfold stepF dayStep; rw [if_pos hdec, hgj]; simp [h3]
          (repeat refine Sx.seq ?_)
          refine Sx.textR ?_
          refine Ox.pure rfl rfl (rp_move rfl rfl) ?_
          refine Ox.pure rfl rfl (by first | exact rp_fieldAddr2 rfl rfl rfl rfl | exact rp_fieldAddr rfl rfl rfl rfl) ?_
          refine Ox.pure rfl rfl (by first | exact rp_fieldAddr2 rfl rfl rfl rfl | exact rp_fieldAddr rfl rfl rfl rfl) ?_
          refine Ox.val rfl rfl (rv_load rfl rfl (by (intro u hu; first | exact Cells.l1 (by assumption) (by (repeat first | exact .refl _ _ | assumption | refine .trans ?_ (by assumption)); first | done | fail) _ rfl rfl | exact Cells.l0 (by assumption) (by (repeat first | exact .refl _ _ | assumption | refine .trans ?_ (by assumption)); first | done | fail) rfl rfl))) ?_
          refine Ox.pure rfl rfl (rp_min rfl rfl rfl) ?_
          refine Ox.pure rfl rfl (by first | exact rp_bin rfl rfl rfl (binI_t (by omega)) | exact rp_bin rfl rfl rfl (binI_f (by omega)) | exact rp_bin rfl rfl rfl rfl) ?_
          refine Ox.nil ?_
          (repeat first | refine thenE_normal ?_ | refine blockE_normal ?_ | refine scopeE_normal ?_)
          (repeat refine Sx.seq ?_); first | refine Sx.cond_true rfl ?_ | refine Sx.cond rfl (fun _ => ?_) (fun h => absurd h (by simp [*]))
          (repeat refine Sx.seq ?_); refine Sx.skip ?_
          (repeat first | refine thenE_normal ?_ | refine blockE_normal ?_ | refine scopeE_normal ?_)
          (repeat refine Sx.seq ?_); refine Sx.block ?_
          (repeat refine Sx.seq ?_)
          refine Sx.walkR rfl (fun _ _ _ _ h => h) [0, 1, 2, 3, 4, 5, 6, 7, 8, 9, 10, 11] [0, 1, 2, 3, 4, 5, 6, 7, 8, 10, 11] (0) (by kernel_rfl) ?_
          intro hq w5 e5; have hz5 := e5.size
          refine Wx.pure hq rfl rfl rfl rfl (rp_move rfl rfl) ?_
          refine Wx.pure hq rfl rfl rfl rfl (rp_indexArr j rfl rfl rfl rfl rfl rfl (by omega)) ?_
          refine Wx.val hq rfl rfl rfl rfl ([]) (rv_load rfl rfl (fun u hu => ((hCS.ext0 (by (repeat first | exact .refl _ _ | assumption | refine .trans ?_ (by assumption)); first | done | fail)).ext0 hu).ld _ rfl hatS)) ?_
          refine Wx.pure hq rfl rfl rfl rfl (rp_not rfl rfl) ?_
          refine Wx.pure hq rfl rfl rfl rfl (rp_move rfl rfl) ?_
          first | (refine Wx.skip hq rfl rfl rfl rfl ?_) | (refine Wx.val hq rfl rfl rfl rfl ([]) (rv_load rfl rfl (by (intro u hu; first | exact Cells.lA (by assumption) (by (repeat first | exact .refl _ _ | assumption | refine .trans ?_ (by assumption)); first | done | fail) rfl rfl | exact Cells.lL (by assumption) (by (repeat first | exact .refl _ _ | assumption | refine .trans ?_ (by assumption)); first | done | fail) rfl rfl (by assumption) | exact Cells.lP (by assumption) (by (repeat first | exact .refl _ _ | assumption | refine .trans ?_ (by assumption)); first | done | fail) _ rfl rfl rfl rfl | exact Cells.lP (by assumption) (by (repeat first | exact .refl _ _ | assumption | refine .trans ?_ (by assumption)); first | done | fail) _ rfl rfl (by assumption) (by assumption)))) ?_)
          first | (refine Wx.skip hq rfl rfl rfl rfl ?_) | (refine Wx.pure hq rfl rfl rfl rfl (rp_move rfl rfl) ?_)
          first | (refine Wx.skip hq rfl rfl rfl rfl ?_) | (refine Wx.pure hq rfl rfl rfl rfl (rp_indexArr j rfl rfl rfl rfl rfl rfl (by omega)) ?_)
          first | (refine Wx.skip hq rfl rfl rfl rfl ?_) | (refine Wx.val hq rfl rfl rfl rfl ([]) (rv_load rfl rfl (by (intro u hu; first | exact Cells.lA (by assumption) (by (repeat first | exact .refl _ _ | assumption | refine .trans ?_ (by assumption)); first | done | fail) rfl rfl | exact Cells.lL (by assumption) (by (repeat first | exact .refl _ _ | assumption | refine .trans ?_ (by assumption)); first | done | fail) rfl rfl (by assumption) | exact Cells.lP (by assumption) (by (repeat first | exact .refl _ _ | assumption | refine .trans ?_ (by assumption)); first | done | fail) _ rfl rfl rfl rfl | exact Cells.lP (by assumption) (by (repeat first | exact .refl _ _ | assumption | refine .trans ?_ (by assumption)); first | done | fail) _ rfl rfl (by assumption) (by assumption)))) ?_)
          first | (refine Wx.actSkip rfl rfl rfl rfl ?_) | (refine Wx.actNew rfl rfl rfl rfl (acts_call rfl rfl rfl (compare_at f h _)) ?_; rintro v6 w6 e6 rfl; have hz6 := e6.size)
          first | (refine Wx.skip hq rfl rfl rfl rfl ?_) | (refine Wx.pure hq rfl rfl rfl rfl (by first | exact rp_bin rfl rfl rfl (binI_t (by omega)) | exact rp_bin rfl rfl rfl (binI_f (by omega)) | exact rp_bin rfl rfl rfl rfl) ?_)
          refine Wx.pure hq rfl rfl rfl rfl (by first | exact rp_pick_t rfl rfl rfl | exact rp_pick_f rfl rfl rfl) ?_
          refine Wx.nil ?_
          (repeat first | refine thenE_normal ?_ | refine blockE_normal ?_ | refine scopeE_normal ?_)
          (repeat refine Sx.seq ?_); first | refine Sx.cond_true rfl ?_ | refine Sx.cond rfl (fun _ => ?_) (fun h => absurd h (by simp [*]))
          (repeat refine Sx.seq ?_)
          refine Sx.textR ?_
          refine Ox.pure rfl rfl (rp_move rfl rfl) ?_
          refine Ox.pure rfl rfl (rp_move rfl rfl) ?_
          refine Ox.val rfl rfl (rv_load rfl rfl (by (intro u hu; first | exact Cells.lA (by assumption) (by (repeat first | exact .refl _ _ | assumption | refine .trans ?_ (by assumption)); first | done | fail) rfl rfl | exact Cells.lL (by assumption) (by (repeat first | exact .refl _ _ | assumption | refine .trans ?_ (by assumption)); first | done | fail) rfl rfl (by assumption) | exact Cells.lP (by assumption) (by (repeat first | exact .refl _ _ | assumption | refine .trans ?_ (by assumption)); first | done | fail) _ rfl rfl rfl rfl | exact Cells.lP (by assumption) (by (repeat first | exact .refl _ _ | assumption | refine .trans ?_ (by assumption)); first | done | fail) _ rfl rfl (by assumption) (by assumption)))) ?_
          refine Ox.pure rfl rfl (rp_indexArr j rfl rfl rfl rfl rfl rfl (by omega)) ?_
          refine Ox.act rfl rfl (acts_store_row bestC_len (some f) rfl rfl rfl rfl rfl (hBw.ext (X := []) (by (repeat first | exact .refl _ _ | assumption | refine .trans ?_ (by assumption)); first | done | fail) (by simp)) hjt (bestC_one _)) ?_
          rintro vs7 ws7 ⟨rfl, qs7, hbs7⟩
          refine Ox.pure rfl rfl (rp_indexArr j rfl rfl rfl rfl rfl rfl (by omega)) ?_
          refine Ox.act rfl rfl (acts_store_row sc_len (some f) rfl rfl rfl rfl rfl ((hBz.ext (X := []) (by (repeat first | exact .refl _ _ | assumption | refine .trans ?_ (by assumption)); first | done | fail) (by simp)).ext qs7 (by simp; omega)) hjt (by simp [Value.oneCell'])) ?_
          rintro vs8 ws8 ⟨rfl, qs8, hbs8⟩
          refine Ox.nil ?_
          (repeat first | refine thenE_normal ?_ | refine blockE_normal ?_ | refine scopeE_normal ?_)
          (repeat refine Sx.seq ?_)
          refine Sx.textR ?_
          refine Ox.pure rfl rfl (rp_move rfl rfl) ?_
          refine Ox.pure rfl rfl (by first | exact rp_bin rfl rfl rfl (binI_fit_add (wrap64 (by omega))) | exact rp_bin rfl rfl rfl rfl) ?_
          refine Ox.pure rfl rfl (rp_assign rfl rfl) ?_
          refine Ox.nil ?_
          (repeat first | refine thenE_normal ?_ | refine blockE_normal ?_ | refine scopeE_normal ?_)
          obtain ⟨t1, t2, t3⟩ := turn hst _ (((Ext.up (by (repeat first | exact .refl _ _ | assumption | refine .trans ?_ (by assumption)); first | done | fail)).trans (qs7.mono (by simp))).trans (qs8.mono (by simp))) (hbs7.ext qs8 (by simp; omega)) hbs8
          exact ⟨(j : Int) + 1, _, sub_cons rfl (sub_cons rfl (sub_cons rfl (sub_cons rfl sub_nil))), ⟨rfl, by omega, by omega, t1, t2, t3⟩, by omega⟩
    · (repeat refine Sx.seq ?_)
      refine Sx.textR ?_
      refine Ox.pure rfl rfl (rp_move rfl rfl) ?_
      refine Ox.pure rfl rfl (by first | exact rp_fieldAddr2 rfl rfl rfl rfl | exact rp_fieldAddr rfl rfl rfl rfl) ?_
      refine Ox.pure rfl rfl (by first | exact rp_fieldAddr2 rfl rfl rfl rfl | exact rp_fieldAddr rfl rfl rfl rfl) ?_
      refine Ox.val rfl rfl (rv_load rfl rfl (by (intro u hu; first | exact Cells.l1 (by assumption) (by (repeat first | exact .refl _ _ | assumption | refine .trans ?_ (by assumption)); first | done | fail) _ rfl rfl | exact Cells.l0 (by assumption) (by (repeat first | exact .refl _ _ | assumption | refine .trans ?_ (by assumption)); first | done | fail) rfl rfl))) ?_
      refine Ox.pure rfl rfl (rp_min rfl rfl rfl) ?_
      refine Ox.pure rfl rfl (by first | exact rp_bin rfl rfl rfl (binI_t (by omega)) | exact rp_bin rfl rfl rfl (binI_f (by omega)) | exact rp_bin rfl rfl rfl rfl) ?_
      refine Ox.nil ?_
      (repeat first | refine thenE_normal ?_ | refine blockE_normal ?_ | refine scopeE_normal ?_)
      (repeat refine Sx.seq ?_); first | refine Sx.cond_false rfl ?_ | refine Sx.cond rfl (fun h => absurd h (by simp [*])) (fun _ => ?_)
      (repeat refine Sx.seq ?_); refine Sx.exit ?_
      (repeat first | refine thenE_exit ?_ | refine blockE_same ?_ | refine blockE_other rfl ?_ | refine scopeE_exit ?_ | refine thenE_normal ?_ | refine blockE_normal ?_ | refine scopeE_normal ?_)
      have hsn : foldD (fs ++ [f]) = stepF g f := by rw [foldD_snoc, hg]
      have hE6 := upto_end g f hlt
      rw [hE6] at hBw hBz
      exact ⟨rfl, [bb7, bb8], ⟨rfl, (hEW2.trans er).trans (Ext.up (by (repeat first | exact .refl _ _ | assumption | refine .trans ?_ (by assumption)); first | done | fail)), fs ++ [f], by simp, by rw [hsn]; exact hBw.ext (X := []) (by (repeat first | exact .refl _ _ | assumption | refine .trans ?_ (by assumption)); first | done | fail) (by simp), by rw [hsn]; exact hBz.ext (X := []) (by (repeat first | exact .refl _ _ | assumption | refine .trans ?_ (by assumption)); first | done | fail) (by simp)⟩, ⟨[bb7, bb8], er.trans (Ext.up (by (repeat first | exact .refl _ _ | assumption | refine .trans ?_ (by assumption)); first | done | fail)), fun y hy => .inl hy⟩, fun k hk => .inl hk⟩
  · rintro D pre X W' hD hR hDX rfl ⟨rfl, hE, fs, hfs, hB0, hB1⟩
    obtain rfl := map_inj' (fun _ _ => ya_inj) hfs
    have hval : valuesL l k known = tab (fun j => rowO (foldD (ofL l k known) j)) := rfl
    rw [hval]
    generalize foldD (ofL l k known) = g at *
    have hBr' := hBr.ext hE (by simp; omega)
    have hE' : Ext [] w W' := (Ext.up (X := []) e0).join hE (fun y hy => by simp only [List.mem_cons, List.not_mem_nil, or_false] at hy; rcases hy with rfl | rfl <;> exact .inr (by omega))
    have hzE := hE'.size
    have hCE := hB0.cells
    have hCS := hB1.cells
    refine SxG.done (Q := endM _ _ _ D) ?_ endM_done
    have hstart : tab (rowTo g 0) = tab (fun _ => (0 : Int)) := tab_ext fun j _ => by unfold rowTo; rw [if_neg (by omega)]
    (repeat refine Sx.seq ?_)
    refine Sx.textR ?_
    refine Ox.pure rfl rfl (rp_move rfl rfl) ?_
    refine Ox.nil ?_
    (repeat first | refine thenE_normal ?_ | refine blockE_normal ?_ | refine scopeE_normal ?_)
    refine Sx.upto (fun E' w' => (∀ t v, get [(6, .pointer (some ⟨bb6, 0, none⟩))] t = some v → get E' t = some v) ∧ Ext [bb6] W' w' ∧ Blk w' bb6 104 (rowsV ic (tab (fun j => rowO (g j))))) ?_ ?_
    · (repeat refine Sx.seq ?_); refine Sx.block ?_
      refine Sx.loop (ι := Nat) (fun i E wr => E = [(6, .pointer (some ⟨bb6, 0, none⟩)), (7, .pointer (some ⟨bb7, 0, none⟩)), (8, .pointer (some ⟨bb8, 0, none⟩)), (46, .int .i64 (i : Int))] ∧ i ≤ 1024 ∧ Ext [bb6] W' wr ∧ Blk wr bb6 104 (rowsV ic (tab (rowTo g i)))) (fun i => 1024 - i) 0
        (sub_cons rfl (sub_cons rfl (sub_cons rfl (sub_cons rfl sub_nil)))) ⟨rfl, Nat.zero_le _, Ext.refl _ _, by rw [hstart]; exact hBr'⟩ ?_
      rintro i E wr ⟨rfl, hi, er, hBw⟩
      by_cases hlt : i < 1024
      · have hit : i < (tab g).length := by rw [tab_length]; exact hlt
        have hir : i < (tab (rowTo g i)).length := by rw [tab_length]; exact hlt
        have hir2 : i < ((tab (rowTo g i)).set i (-1)).length := by rw [List.length_set, tab_length]; exact hlt
        have hCE' : Cells wr ⟨bb7, 0, none⟩ (rowsV bestC (tab g)) := hCE.ext er (by simp; omega)
        have hCS' : Cells wr ⟨bb8, 0, none⟩ (rowsV sc (tab g)) := hCS.ext er (by simp; omega)
        have hatS : (rowsV sc (tab g))[i * 1]? = some (.bool (g i).isSome) := by
          have := congrArg (fun c => c[0]?) (rowsV_at sc_len hit)
          rw [tab_get] at this
          simpa using this
        cases hgi : g i with
        | none =>
          rw [hgi] at hatS
          have hrt := rowTo_step g i
          rw [hgi] at hrt
          (repeat refine Sx.seq ?_)
          refine Sx.textR ?_
          refine Ox.pure rfl rfl (by first | exact rp_bin rfl rfl rfl (binI_t (by omega)) | exact rp_bin rfl rfl rfl (binI_f (by omega)) | exact rp_bin rfl rfl rfl rfl) ?_
          refine Ox.nil ?_
          (repeat first | refine thenE_normal ?_ | refine blockE_normal ?_ | refine scopeE_normal ?_)
          (repeat refine Sx.seq ?_); first | refine Sx.cond_true rfl ?_ | refine Sx.cond rfl (fun _ => ?_) (fun h => absurd h (by simp [*]))
          (repeat refine Sx.seq ?_); refine Sx.skip ?_
          (repeat first | refine thenE_normal ?_ | refine blockE_normal ?_ | refine scopeE_normal ?_)
          (repeat refine Sx.seq ?_); refine Sx.block ?_
          (repeat refine Sx.seq ?_)
          refine Sx.textR ?_
          refine Ox.pure rfl rfl (rp_move rfl rfl) ?_
          refine Ox.pure rfl rfl (rp_assign rfl rfl) ?_
          refine Ox.nil ?_
          (repeat first | refine thenE_normal ?_ | refine blockE_normal ?_ | refine scopeE_normal ?_)
          (repeat refine Sx.seq ?_)
          refine Sx.textR ?_
          refine Ox.pure rfl rfl (rp_move rfl rfl) ?_
          refine Ox.pure rfl rfl (rp_indexArr i rfl rfl rfl rfl rfl rfl (by omega)) ?_
          refine Ox.act rfl rfl (acts_store_row ic_len (-1) rfl rfl rfl rfl rfl (hBw.ext (X := []) (by (repeat first | exact .refl _ _ | assumption | refine .trans ?_ (by assumption)); first | done | fail) (by simp)) hir (by simp [Value.oneCell'])) ?_
          rintro vs13 ws13 ⟨rfl, qs13, hbs13⟩
          refine Ox.nil ?_
          (repeat first | refine thenE_normal ?_ | refine blockE_normal ?_ | refine scopeE_normal ?_)
          (repeat refine Sx.seq ?_)
          refine Sx.textR ?_
          refine Ox.pure rfl rfl (rp_move rfl rfl) ?_
          refine Ox.pure rfl rfl (rp_indexArr i rfl rfl rfl rfl rfl rfl (by omega)) ?_
          refine Ox.val rfl rfl (rv_load rfl rfl (fun u hu => (((hCS'.ext qs13 (by simp; omega)).ext0 (by (repeat first | exact .refl _ _ | assumption | refine .trans ?_ (by assumption)); first | done | fail)).ext0 hu).ld _ rfl hatS)) ?_
          refine Ox.nil ?_
          (repeat first | refine thenE_normal ?_ | refine blockE_normal ?_ | refine scopeE_normal ?_)
          (repeat refine Sx.seq ?_); first | refine Sx.cond_false rfl ?_ | refine Sx.cond rfl (fun h => absurd h (by simp [*])) (fun _ => ?_)
          (repeat refine Sx.seq ?_); refine Sx.skip ?_
          (repeat first | refine thenE_normal ?_ | refine blockE_normal ?_ | refine scopeE_normal ?_)
          (repeat refine Sx.seq ?_)
          refine Sx.textR ?_
          refine Ox.pure rfl rfl (by first | exact rp_bin rfl rfl rfl (binI_fit_add (wrap64 (by omega))) | exact rp_bin rfl rfl rfl rfl) ?_
          refine Ox.pure rfl rfl (rp_move rfl rfl) ?_
          refine Ox.nil ?_
          (repeat first | refine thenE_normal ?_ | refine blockE_normal ?_ | refine scopeE_normal ?_)
          refine ⟨i + 1, _, sub_cons rfl (sub_cons rfl (sub_cons rfl (sub_cons rfl sub_nil))), ⟨rfl, hlt, (er.trans (Ext.up (by (repeat first | exact .refl _ _ | assumption | refine .trans ?_ (by assumption)); first | done | fail))).trans (qs13.trans (Ext.up (by (repeat first | exact .refl _ _ | assumption | refine .trans ?_ (by assumption)); first | done | fail))), ?_⟩, by omega⟩
          rw [← hrt]
          exact hbs13.ext (X := []) (by (repeat first | exact .refl _ _ | assumption | refine .trans ?_ (by assumption)); first | done | fail) (by simp)
        | some f =>
          rw [hgi] at hatS
          have hrt := rowTo_step g i
          rw [hgi] at hrt
          have hv3 : (bestC ((tab g)[i]'hit))[3]? = some (.int .i64 f.val) := by rw [tab_get, hgi]; rfl
          (repeat refine Sx.seq ?_)
          refine Sx.textR ?_
          refine Ox.pure rfl rfl (by first | exact rp_bin rfl rfl rfl (binI_t (by omega)) | exact rp_bin rfl rfl rfl (binI_f (by omega)) | exact rp_bin rfl rfl rfl rfl) ?_
          refine Ox.nil ?_
          (repeat first | refine thenE_normal ?_ | refine blockE_normal ?_ | refine scopeE_normal ?_)
          (repeat refine Sx.seq ?_); first | refine Sx.cond_true rfl ?_ | refine Sx.cond rfl (fun _ => ?_) (fun h => absurd h (by simp [*]))
          (repeat refine Sx.seq ?_); refine Sx.skip ?_
          (repeat first | refine thenE_normal ?_ | refine blockE_normal ?_ | refine scopeE_normal ?_)
          (repeat refine Sx.seq ?_); refine Sx.block ?_
          (repeat refine Sx.seq ?_)
          refine Sx.textR ?_
          refine Ox.pure rfl rfl (rp_move rfl rfl) ?_
          refine Ox.pure rfl rfl (rp_assign rfl rfl) ?_
          refine Ox.nil ?_
          (repeat first | refine thenE_normal ?_ | refine blockE_normal ?_ | refine scopeE_normal ?_)
          (repeat refine Sx.seq ?_)
          refine Sx.textR ?_
          refine Ox.pure rfl rfl (rp_move rfl rfl) ?_
          refine Ox.pure rfl rfl (rp_indexArr i rfl rfl rfl rfl rfl rfl (by omega)) ?_
          refine Ox.act rfl rfl (acts_store_row ic_len (-1) rfl rfl rfl rfl rfl (hBw.ext (X := []) (by (repeat first | exact .refl _ _ | assumption | refine .trans ?_ (by assumption)); first | done | fail) (by simp)) hir (by simp [Value.oneCell'])) ?_
          rintro vs13 ws13 ⟨rfl, qs13, hbs13⟩
          refine Ox.nil ?_
          (repeat first | refine thenE_normal ?_ | refine blockE_normal ?_ | refine scopeE_normal ?_)
          (repeat refine Sx.seq ?_)
          refine Sx.textR ?_
          refine Ox.pure rfl rfl (rp_move rfl rfl) ?_
          refine Ox.pure rfl rfl (rp_indexArr i rfl rfl rfl rfl rfl rfl (by omega)) ?_
          refine Ox.val rfl rfl (rv_load rfl rfl (fun u hu => (((hCS'.ext qs13 (by simp; omega)).ext0 (by (repeat first | exact .refl _ _ | assumption | refine .trans ?_ (by assumption)); first | done | fail)).ext0 hu).ld _ rfl hatS)) ?_
          refine Ox.nil ?_
          (repeat first | refine thenE_normal ?_ | refine blockE_normal ?_ | refine scopeE_normal ?_)
          (repeat refine Sx.seq ?_); first | refine Sx.cond_true rfl ?_ | refine Sx.cond rfl (fun _ => ?_) (fun h => absurd h (by simp [*]))
          (repeat refine Sx.seq ?_)
          refine Sx.textR ?_
          refine Ox.pure rfl rfl (rp_move rfl rfl) ?_
          refine Ox.pure rfl rfl (rp_move rfl rfl) ?_
          refine Ox.pure rfl rfl (rp_indexArr i rfl rfl rfl rfl rfl rfl (by omega)) ?_
          refine Ox.pure rfl rfl (by first | exact rp_fieldAddr2 rfl rfl rfl rfl | exact rp_fieldAddr rfl rfl rfl rfl) ?_
          refine Ox.val rfl rfl (rv_load rfl rfl (fun u hu => ld_field bestC_len (((hCE'.ext qs13 (by simp; omega)).ext0 (by (repeat first | exact .refl _ _ | assumption | refine .trans ?_ (by assumption)); first | done | fail)).ext0 hu) hit 3 rfl (by decide) hv3)) ?_
          refine Ox.pure rfl rfl (rp_max rfl rfl rfl) ?_
          refine Ox.pure rfl rfl (rp_indexArr i rfl rfl rfl rfl rfl rfl (by omega)) ?_
          refine Ox.act rfl rfl (acts_store_row ic_len (max f.val (-1)) rfl rfl rfl rfl rfl (hbs13.ext (X := []) (by (repeat first | exact .refl _ _ | assumption | refine .trans ?_ (by assumption)); first | done | fail) (by simp)) hir2 (by simp [Value.oneCell'])) ?_
          rintro vs15 ws15 ⟨rfl, qs15, hbs15⟩
          refine Ox.nil ?_
          (repeat first | refine thenE_normal ?_ | refine blockE_normal ?_ | refine scopeE_normal ?_)
          (repeat refine Sx.seq ?_)
          refine Sx.textR ?_
          refine Ox.pure rfl rfl (by first | exact rp_bin rfl rfl rfl (binI_fit_add (wrap64 (by omega))) | exact rp_bin rfl rfl rfl rfl) ?_
          refine Ox.pure rfl rfl (rp_move rfl rfl) ?_
          refine Ox.nil ?_
          (repeat first | refine thenE_normal ?_ | refine blockE_normal ?_ | refine scopeE_normal ?_)
          refine ⟨i + 1, _, sub_cons rfl (sub_cons rfl (sub_cons rfl (sub_cons rfl sub_nil))), ⟨rfl, hlt, ((er.trans (Ext.up (by (repeat first | exact .refl _ _ | assumption | refine .trans ?_ (by assumption)); first | done | fail))).trans (qs13.trans (Ext.up (by (repeat first | exact .refl _ _ | assumption | refine .trans ?_ (by assumption)); first | done | fail)))).trans (qs15.trans (Ext.up (by (repeat first | exact .refl _ _ | assumption | refine .trans ?_ (by assumption)); first | done | fail))), ?_⟩, by omega⟩
          rw [← hrt]
          have := hbs15.ext (X := []) (w' := ws15) (Ext.refl _ _) (by simp)
          rw [List.set_set] at this
          exact this
      · obtain rfl : i = 1024 := by omega
        (repeat refine Sx.seq ?_)
        refine Sx.textR ?_
        refine Ox.pure rfl rfl (by first | exact rp_bin rfl rfl rfl (binI_t (by omega)) | exact rp_bin rfl rfl rfl (binI_f (by omega)) | exact rp_bin rfl rfl rfl rfl) ?_
        refine Ox.nil ?_
        (repeat first | refine thenE_normal ?_ | refine blockE_normal ?_ | refine scopeE_normal ?_)
        (repeat refine Sx.seq ?_); first | refine Sx.cond_false rfl ?_ | refine Sx.cond rfl (fun h => absurd h (by simp [*])) (fun _ => ?_)
        (repeat refine Sx.seq ?_); refine Sx.exit ?_
        (repeat first | refine thenE_exit ?_ | refine blockE_same ?_ | refine blockE_other rfl ?_ | refine scopeE_exit ?_ | refine thenE_normal ?_ | refine blockE_normal ?_ | refine scopeE_normal ?_)
        exact ⟨sub_cons rfl sub_nil, er.trans (Ext.up (by (repeat first | exact .refl _ _ | assumption | refine .trans ?_ (by assumption)); first | done | fail)), by rw [← rowTo_end]; exact hBw.ext (X := []) (by (repeat first | exact .refl _ _ | assumption | refine .trans ?_ (by assumption)); first | done | fail) (by simp)⟩
    · rintro E' w' ⟨hsub, he, hB⟩
      refine thenE_normal (Sx.weaken ?_ hsub)
      have hlen : (rowsV ic (tab (fun j => rowO (g j)))).length = 1024 := by rw [rowsV_length ic_len, tab_length]
      have hCr := hB.cells
      have hRw := hR.ext he (by simp; omega)
      (repeat refine Sx.seq ?_)
      refine Sx.textR ?_
      refine Ox.val rfl rfl (rv_load rfl rfl (by (intro u hu; first | exact Cells.lA (by assumption) (by (repeat first | exact .refl _ _ | assumption | refine .trans ?_ (by assumption)); first | done | fail) rfl rfl | exact Cells.lL (by assumption) (by (repeat first | exact .refl _ _ | assumption | refine .trans ?_ (by assumption)); first | done | fail) rfl rfl (by assumption) | exact Cells.lP (by assumption) (by (repeat first | exact .refl _ _ | assumption | refine .trans ?_ (by assumption)); first | done | fail) _ rfl rfl rfl rfl | exact Cells.lP (by assumption) (by (repeat first | exact .refl _ _ | assumption | refine .trans ?_ (by assumption)); first | done | fail) _ rfl rfl (by assumption) (by assumption)))) ?_
      refine Ox.act rfl rfl (acts_store_all (m := 1024) rfl rfl rfl (hB.ext (X := []) (by (repeat first | exact .refl _ _ | assumption | refine .trans ?_ (by assumption)); first | done | fail) (by simp)) rfl (by show (rowsV ic (tab (fun j => rowO (g j)))).toArray.size = 1024; simpa using hlen) hlen (rowsV_all (by simp [Value.oneCell']) _)) ?_
      rintro vs17 ws17 ⟨rfl, qs17, hbs17⟩
      refine Ox.nil ?_
      (repeat first | refine thenE_normal ?_ | refine blockE_normal ?_ | refine scopeE_normal ?_)
      (repeat refine Sx.seq ?_); refine Sx.ret ?_
      (repeat first | refine thenE_ret ?_ | refine blockE_ret ?_ | refine scopeE_ret ?_)
      have hE17 : Ext [bb6] W' ws17 := he.trans ((Ext.up (by (repeat first | exact .refl _ _ | assumption | refine .trans ?_ (by assumption)); first | done | fail)).trans qs17)
      have hCf : Cells ws17 ⟨bb6, 0, none⟩ (rowsV ic (tab (fun j => rowO (g j)))) := hbs17.cells
      exact endM_ret (.inl rfl) [_] (hR.ext hE17 (by simp; omega)) (fun w' he => ⟨⟨⟨bb6, 0, none⟩, rfl, (hCf.ext he (by simp; omega)).ldL rfl rfl hlen⟩, trivial⟩)
        (fun w' he => ⟨Ext.renew (b := D) (Ext.join (X := []) hE' hE17 (fun y hy => by simp only [List.mem_singleton] at hy; subst hy; exact .inr (by omega))) he (by omega), rfl⟩)

end Go.Proofs.Ytfnekbnlokigcaa
