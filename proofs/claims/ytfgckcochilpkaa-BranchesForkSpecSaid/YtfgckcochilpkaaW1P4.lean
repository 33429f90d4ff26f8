/- Texts of one proof, put together: FactI, FactJ, FactK, FactL, FactM, FactR, FactN, FactO, FactY. -/
import Derived.Test.YtfgckcochilpkaaRows
import Derived.Test.YtfgckcochilpkaaW1P3
/- The facts' walks: the values on all days. -/
set_option linter.unusedVariables false
set_option maxRecDepth 100000
set_option maxHeartbeats 4000000
set_option linter.unusedSimpArgs false
namespace Go.Proofs.Ytfgckcochilpkaa
open Go Go.Eng

/-! ## Tables of 1024 -/
def tab {α : Type} (g : Nat → α) : List α := (List.range 1024).map g
theorem tab_length {α : Type} (g : Nat → α) : (tab g).length = 1024 := by simp [tab]
theorem tab_get {α : Type} (g : Nat → α) {i : Nat} (h : i < (tab g).length) : (tab g)[i] = g i := by simp [tab]
theorem tab_ext {α : Type} {g h : Nat → α} (he : ∀ i, i < 1024 → g i = h i) : tab g = tab h := List.map_congr_left fun i hi => he i (by simpa using hi)
theorem tab_set {α : Type} (g : Nat → α) (i : Nat) (x : α) : (tab g).set i x = tab (fun j => if j = i then x else g j) := by
  apply List.ext_getElem
  · simp [tab]
  · intro j h1 h2
    rw [List.getElem_set, tab_get]
    by_cases h : i = j
    · subst h; rw [if_pos rfl, tab_get, if_pos rfl]
    · rw [if_neg h, tab_get, if_neg (Ne.symm h)]
theorem tab_same {α : Type} {g : Nat → α} {i : Nat} {x : α} (h : g i = x) : tab (fun j => if j = i then x else g j) = tab g := tab_ext fun j _ => by
  by_cases hj : j = i
  · subst hj; simp [h]
  · simp [hj]

abbrev sc (b : Option Fct) : List Value := [.bool b.isSome]
theorem sc_len (b : Option Fct) : (sc b).length = 1 := rfl
theorem ic_len (a : Int) : (ic a).length = 1 := rfl
theorem bestC_len (b : Option Fct) : (bestC b).length = 8 := rfl
theorem bestC_one (b : Option Fct) : ∀ u ∈ bestC b, u.oneCell' = true := fc_one _

def stepF (g : Nat → Option Fct) (f : Fct) (j : Nat) : Option Fct := dayStep (j : Int) (g j) f
/-- The table when the days before d have been looked at. -/
def upto (g : Nat → Option Fct) (f : Fct) (d : Int) (j : Nat) : Option Fct := if (j : Int) < d then stepF g f j else g j
theorem upto_start (g : Nat → Option Fct) (f : Fct) : tab (upto g f (max 0 f.lo)) = tab g := tab_ext fun j _ => by
  unfold upto stepF dayStep
  by_cases h : (j : Int) < max 0 f.lo
  · rw [if_pos h, if_neg (by omega)]
  · rw [if_neg h]
theorem upto_end (g : Nat → Option Fct) (f : Fct) {d : Int} (h : ¬ d < min f.hi 1024) : tab (upto g f d) = tab (stepF g f) := tab_ext fun j hj => by
  unfold upto
  by_cases h2 : (j : Int) < d
  · rw [if_pos h2]
  · rw [if_neg h2]; unfold stepF dayStep; rw [if_neg (by omega)]
theorem upto_step (g : Nat → Option Fct) (f : Fct) (d : Nat) : tab (upto g f ((d : Int) + 1)) = tab (fun j => if j = d then stepF g f d else upto g f d j) := tab_ext fun j _ => by
  unfold upto
  by_cases hj : j = d
  · subst hj; rw [if_pos (by omega), if_pos rfl]
  · rw [if_neg hj]
    by_cases h2 : (j : Int) < (d : Int)
    · rw [if_pos h2, if_pos (by omega)]
    · rw [if_neg h2, if_neg (by omega)]
theorem upto_at (g : Nat → Option Fct) (f : Fct) (d : Nat) : upto g f d d = g d := by unfold upto; rw [if_neg (by omega)]

def foldD (fs : List Fct) (j : Nat) : Option Fct := fs.foldl (dayStep (j : Int)) none
theorem foldD_snoc (fs : List Fct) (f : Fct) : foldD (fs ++ [f]) = stepF (foldD fs) f := by
  funext j; unfold foldD stepF; rw [List.foldl_append]; rfl
def valuesL (l : List Fct) (k : Ky) (known : Int) : List Int := tab (fun j => rowO (bestL l k (j : Int) known))
theorem valuesL_length (l : List Fct) (k : Ky) (known : Int) : (valuesL l k known).length = 1024 := tab_length _

/-- The values when i days have been gone through. -/
def rowTo (g : Nat → Option Fct) (i : Nat) (j : Nat) : Int := if j < i then rowO (g j) else 0
theorem rowTo_step (g : Nat → Option Fct) (i : Nat) : (tab (rowTo g i)).set i (rowO (g i)) = tab (rowTo g (i + 1)) := by
  rw [tab_set]
  refine tab_ext fun j _ => ?_
  unfold rowTo
  by_cases hj : j = i
  · subst hj; simp
  · rw [if_neg hj]
    by_cases h : j < i
    · rw [if_pos h, if_pos (by omega)]
    · rw [if_neg h, if_neg (by omega)]
theorem rowTo_end (g : Nat → Option Fct) : tab (rowTo g 1024) = tab (fun j => rowO (g j)) := tab_ext fun j hj => by unfold rowTo; rw [if_pos hj]

theorem z70 : (zrOf Try.prog 106).map (fun z => z.cells.toList) = some (rowsV ic (tab fun _ => 0)) := by kernel_rfl
theorem z84 : (zrOf Try.prog 116).map (fun z => z.cells.toList) = some (rowsV bestC (tab (foldD []))) := by kernel_rfl
theorem z85 : (zrOf Try.prog 117).map (fun z => z.cells.toList) = some (rowsV sc (tab (foldD []))) := by kernel_rfl


theorem values_at (l : List Fct) (k : Ky) (known : Int) (p : Option Addr) (A : Addr) (c : Nat) (w : World) (hs : SlV fc w p A l c) :
    Calls Try.prog 76 #[.slice p l.length c, .agg (kc k).toArray, .int .i64 known] w (Ret fun r w' => Ext [] w w' ∧ r = .agg (rowsV ic (valuesL l k known)).toArray) := by
  refine calls_of_SxG (args := [.slice p l.length c, .agg (kc k).toArray, .int .i64 known]) Try.func76 rfl rfl ?_
  refine SxG.run ?_
  refine ztx ?_
  refine Ox.act rfl rfl (acts_box rfl rfl) ?_
  rintro vb4 wb4 ⟨eb4, bb4, rfl, hbb4, hBb4⟩
  first | (have hCb4 : Cells wb4 ⟨bb4, 0, none⟩ [_, _, _] := hBb4.cells) | have hCb4 := Blk.cellsL hBb4
  have hlb4 := hBb4.lt
  have hzb4 := eb4.size
  refine Ox.act rfl rfl (acts_alloc_z rfl z70) ?_
  rintro vb6 wb6 ⟨eb6, bb6, rfl, hbb6, hBb6⟩
  have hzb6 := eb6.size
  have hlb6 := hBb6.lt
  refine Ox.fin ?_
  refine ⟨rfl, ?_⟩
  refine SxG.run ?_
  refine ztx ?_
  refine Ox.act rfl rfl (acts_alloc_z rfl z84) ?_
  rintro vb7 wb7 ⟨eb7, bb7, rfl, hbb7, hBb7⟩
  have hzb7 := eb7.size
  have hlb7 := hBb7.lt
  refine Ox.fin ?_
  refine ⟨rfl, ?_⟩
  refine SxG.run ?_
  refine ztx ?_
  refine Ox.act rfl rfl (acts_alloc_z rfl z85) ?_
  rintro vb8 wb8 ⟨eb8, bb8, rfl, hbb8, hBb8⟩
  have hzb8 := eb8.size
  have hlb8 := hBb8.lt
  refine Ox.fin ?_
  refine ⟨rfl, ?_⟩
  refine SxG.seqL ?_
  refine SxG.run ?_
  refine ztx ?_
  refine Ox.pure rfl rfl zmv ?_
  refine Ox.val rfl rfl zra ?_
  refine Ox.pure rfl rfl zmv ?_
  refine Ox.act rfl rfl (acts_call rfl rfl rfl (of_at l k known p c _)) ?_
  rintro vof wof ⟨eof, c1, c2, c3, rfl, hc1, hc2, hc3, hC1, hC2, hC3⟩
  have hzof := eof.size
  refine Ox.fin ?_
  refine ⟨rfl, ?_⟩
  have hBr : Blk wof bb6 106 (rowsV ic (tab fun _ => 0)) := hBb6.ext (X := []) zxc (by simp)
  have hBe : Blk wof bb7 116 (rowsV bestC (tab (foldD []))) := hBb7.ext (X := []) zxc (by simp)
  have hBs : Blk wof bb8 117 (rowsV sc (tab (foldD []))) := hBb8.ext (X := []) zxc (by simp)
  have hsof := hs.ext0 (w' := wof) zxc
  have hnew : w.heap.size ≤ bb6 ∧ w.heap.size ≤ bb7 ∧ w.heap.size ≤ bb8 ∧ w.heap.size ≤ c1 ∧ w.heap.size ≤ c2 ∧ w.heap.size ≤ c3 := by omega
  have hneq : bb6 < bb7 ∧ bb7 < bb8 ∧ bb8 < c1 ∧ bb8 < c2 ∧ bb8 < c3 := by omega
  have hlc : c1 < wof.heap.size ∧ c2 < wof.heap.size ∧ c3 < wof.heap.size := ⟨hC1.lt (by simp), hC2.lt (by simp), hC3.lt (by simp)⟩
  have hlA : 0 < l.length → A.block < w.heap.size := fun h => hs.row.lt (fun e => by have := rowsV_length fc_len l; rw [e] at this; simp at this; omega)
  have e0 : Ext [] w wof := zxc
  have hz0 := e0.size
  have hl6 := hBr.lt
  have hl7 := hBe.lt
  have hl8 := hBs.lt
  refine SxG.range (g := 82) (B := wof.heap.size) (S := OfS l.length A c1 c2 c3) rfl rfl rfl
    (fun pre X W => X = [bb7, bb8] ∧ Ext [bb7, bb8] wof W ∧ ∃ fs : List Fct, pre = fs.map ya ∧ Blk W bb7 116 (rowsV bestC (tab (foldD fs))) ∧ Blk W bb8 117 (rowsV sc (tab (foldD fs)))) ⟨?_, ?_⟩ (Nat.le_refl _) [bb7, bb8] ⟨rfl, Ext.refl _ _, [], rfl, hBe, hBs⟩ ?_ ?_
    (fun W hW => of_iter l k known p A c c1 c2 c3 wof.heap.size W (hsof.ext0 hW) (hC1.ext0 hW) (hC2.ext0 hW) (hC3.ext0 hW)) ?_ ?_ ?_
  · rintro pre X W W' Z ⟨rfl, hE, fs, rfl, hB0, hB1⟩ he hZ
    have h0 : bb7 ∉ Z := fun h => (hZ _ h).2 (by simp)
    have h1 : bb8 ∉ Z := fun h => (hZ _ h).2 (by simp)
    exact ⟨rfl, hE.join he (fun y hy => .inr (hZ y hy).1), fs, rfl, hB0.ext he h0, hB1.ext he h1⟩
  · rintro pre X W ⟨rfl, hE, fs, rfl, hB0, hB1⟩ x hx
    simp only [List.mem_cons, List.not_mem_nil, or_false] at hx
    rcases hx with rfl | rfl
    · exact hB0.lt
    · exact hB1.lt
  · intro x hx hS
    simp only [List.mem_cons, List.not_mem_nil, or_false] at hx
    rcases hS with rfl | rfl | rfl | ⟨h1, rfl⟩
    · omega
    · omega
    · omega
    · have := hlA h1; omega
  · intro x hS
    rcases hS with rfl | rfl | rfl | ⟨h1, rfl⟩
    · omega
    · omega
    · omega
    · have := hlA h1; omega
  · intro pre x hx
    have := hx.subset (show x ∈ pre ++ [x] by simp)
    obtain ⟨f, _, rfl⟩ := List.mem_map.1 this
    rfl
  · rintro pre x X W l' hnx ⟨rfl, hE, fs, rfl, hB0, hB1⟩ hl hl2 hlX
    obtain ⟨f, rfl⟩ := ofL_next hnx
    have hzW := hE.size
    have hl7W := hB0.lt
    have hl8W := hB1.lt
    refine ztx ?_
    refine Ox.act rfl rfl (acts_alloc rfl rfl) ?_
    rintro val wal ⟨eal, bal, rfl, hbal, hBal⟩
    first | (have hCal : Cells wal ⟨bal, 0, none⟩ [_, _, _, _, _, _, _, _] := hBal.cells) | have hCal := Blk.cellsL hBal
    have hlal := hBal.lt
    have hzal := eal.size
    refine Ox.act rfl rfl (acts_store_all rfl rfl rfl hBal rfl (by first | rfl | assumption) (by first | rfl | assumption) (by (first | assumption | exact List.all_eq_true.mp rfl | simp [Value.cells, Value.oneCell']))) ?_
    rintro vst wst ⟨rfl, qst, hBst⟩
    have est := Ext.renew eal qst hbal
    have hzst := est.size
    have hlst := hBst.lt
    first | (have hCst : Cells wst ⟨bal, 0, none⟩ [_, _, _, _, _, _, _, _] := hBst.cells) | have hCst := Blk.cellsL hBst
    refine Ox.fin ?_
    refine ⟨rfl, zxc, fun W2 e2 => ?_⟩
    have hz2 := e2.size
    have hCf : Cells W2 ⟨bal, 0, none⟩ (fc f) := Cells.ext (cs := fc f) hCst e2 (by simp; omega)
    have hB0' := (hB0.ext est (by simp)).ext e2 (by simp; omega)
    have hB1' := (hB1.ext est (by simp)).ext e2 (by simp; omega)
    have hEW2 : Ext [bb7, bb8] wof W2 := (hE.trans est.up).join e2 (fun y hy => by simp only [List.mem_singleton] at hy; subst hy; exact .inr (by omega))
    generalize hg : foldD fs = g at *
    refine zbl ?_
    refine ztx ?_
    refine Ox.pure rfl rfl zfa ?_
    refine Ox.pure rfl rfl zfa ?_
    refine Ox.val rfl rfl zrs ?_
    refine Ox.pure rfl rfl (rp_max rfl rfl rfl) ?_
    refine Ox.pure rfl rfl zas ?_
    refine Ox.fin ?_
    refine zbl ?_
    refine Sx.loop (ι := Int) (fun d E wr => E = [(7, .pointer (some ⟨bb7, 0, none⟩)), (8, .pointer (some ⟨bb8, 0, none⟩)), (9, .pointer (some ⟨bal, 0, none⟩)), (10, .int .i64 d)] ∧ max 0 f.lo ≤ d ∧ d ≤ max (max 0 f.lo) (min f.hi 1024) ∧ Ext [bb7, bb8] W2 wr ∧ Blk wr bb7 116 (rowsV bestC (tab (upto g f d))) ∧ Blk wr bb8 117 (rowsV sc (tab (upto g f d)))) (fun d => (1024 - d).toNat) (max 0 f.lo)
      (sub_cons rfl (sub_cons rfl (sub_cons rfl (sub_cons rfl sub_nil)))) ⟨rfl, Int.le_refl _, by omega, Ext.up zxc, by rw [upto_start]; exact hB0'.ext (X := []) zxc (by simp), by rw [upto_start]; exact hB1'.ext (X := []) zxc (by simp)⟩ ?_
    rintro d E wr ⟨rfl, hd, hdm, er, hBw, hBz⟩
    have hCfr : Cells wr ⟨bal, 0, none⟩ (fc f) := hCf.ext er (by simp; omega)
    by_cases hlt : d < min f.hi 1024
    · obtain ⟨j, rfl⟩ : ∃ j : Nat, d = (j : Int) := ⟨d.toNat, by omega⟩
      have hj : j < 1024 := by omega
      have hjt : j < (tab (upto g f (j : Int))).length := by rw [tab_length]; exact hj
      have hatE : ((rowsV bestC (tab (upto g f (j : Int)))).drop (j * 8)).take 8 = fc ((g j).getD zF) := by rw [rowsV_at bestC_len hjt, tab_get, upto_at]; rfl
      have hl8E := fc_len ((g j).getD zF)
      have hatS : (rowsV sc (tab (upto g f (j : Int))))[j * 1]? = some (.bool (g j).isSome) := by
        have := congrArg (fun c => c[0]?) (rowsV_at sc_len hjt)
        rw [tab_get, upto_at] at this
        simpa using this
      have hCE := hBw.cells
      have hCS := hBz.cells
      have hdec : f.lo ≤ (j : Int) ∧ (j : Int) < f.hi := by omega
      have turn : stepF g f j = some f → ∀ W3, Ext [bb7, bb8] wr W3 → Blk W3 bb7 116 (rowsV bestC ((tab (upto g f (j : Int))).set j (some f))) → Blk W3 bb8 117 (rowsV sc ((tab (upto g f (j : Int))).set j (some f))) →
          Ext [bb7, bb8] W2 W3 ∧ Blk W3 bb7 116 (rowsV bestC (tab (upto g f ((j : Int) + 1)))) ∧ Blk W3 bb8 117 (rowsV sc (tab (upto g f ((j : Int) + 1)))) := fun hst W3 e3 h7 h8 => by
        rw [tab_set, ← hst, ← upto_step] at h7 h8
        exact ⟨er.trans e3, h7, h8⟩
      have stay : stepF g f j = g j → ∀ W3, Ext [] wr W3 →
          Ext [bb7, bb8] W2 W3 ∧ Blk W3 bb7 116 (rowsV bestC (tab (upto g f ((j : Int) + 1)))) ∧ Blk W3 bb8 117 (rowsV sc (tab (upto g f ((j : Int) + 1)))) := fun hst W3 e3 => by
        have hsame : tab (upto g f ((j : Int) + 1)) = tab (upto g f (j : Int)) := by rw [upto_step, tab_same (by rw [upto_at, hst])]
        rw [hsame]
        exact ⟨er.trans e3.up, hBw.ext e3 (by simp), hBz.ext e3 (by simp)⟩
      cases hgj : g j with
      | none =>
        rw [hgj] at hatE hatS hl8E
        have hst : stepF g f j = some f := by unfold stepF dayStep; rw [if_pos hdec, hgj]
        refine ztx ?_
        refine Ox.pure rfl rfl zmv ?_
        refine Ox.pure rfl rfl zfa ?_
        refine Ox.pure rfl rfl zfa ?_
        refine Ox.val rfl rfl zrs ?_
        refine Ox.pure rfl rfl (rp_min rfl rfl rfl) ?_
        refine Ox.pure rfl rfl zbc ?_
        refine Ox.fin ?_
        refine zct ?_
        refine zsk ?_
        refine zbl ?_
        (repeat refine Sx.seq ?_)
        refine Sx.walkR rfl (fun _ _ _ _ h => h) [0, 1, 2, 3, 4, 5, 6, 7, 8, 9, 10, 11] [0, 1, 2, 3, 4, 5, 6, 7, 8, 10, 11] (0) (by kernel_rfl) ?_
        intro hq w1 e1; have hz1 := e1.size
        refine Wx.pure hq rfl rfl rfl rfl zmv ?_
        refine Wx.pure hq rfl rfl rfl rfl (rp_indexArr j rfl rfl rfl rfl rfl rfl (by omega)) ?_
        refine Wx.val hq rfl rfl rfl rfl ([]) (rv_load rfl rfl (fun u hu => ((hCS.ext0 zxc).ext0 hu).ld _ rfl hatS)) ?_
        refine Wx.pure hq rfl rfl rfl rfl (rp_not rfl rfl) ?_
        refine Wx.pure hq rfl rfl rfl rfl zmv ?_
        first | (refine Wx.skip hq rfl rfl rfl rfl ?_) | (refine Wx.val hq rfl rfl rfl rfl ([]) zra ?_)
        first | (refine Wx.skip hq rfl rfl rfl rfl ?_) | (refine Wx.pure hq rfl rfl rfl rfl zmv ?_)
        first | (refine Wx.skip hq rfl rfl rfl rfl ?_) | (refine Wx.pure hq rfl rfl rfl rfl (rp_indexArr j rfl rfl rfl rfl rfl rfl (by omega)) ?_)
        first | (refine Wx.skip hq rfl rfl rfl rfl ?_) | (refine Wx.val hq rfl rfl rfl rfl ([]) zra ?_)
        refine Wx.actSkip rfl rfl rfl rfl ?_
        first | (refine Wx.skip hq rfl rfl rfl rfl ?_) | (refine Wx.pure hq rfl rfl rfl rfl zbc ?_)
        refine Wx.pure hq rfl rfl rfl rfl zpk ?_
        refine Wx.fin ?_
        refine zct ?_
        refine ztx ?_
        refine Ox.pure rfl rfl zmv ?_
        refine Ox.pure rfl rfl zmv ?_
        refine Ox.val rfl rfl zra ?_
        refine Ox.pure rfl rfl (rp_indexArr j rfl rfl rfl rfl rfl rfl (by omega)) ?_
        refine Ox.act rfl rfl (acts_store_row bestC_len (some f) rfl rfl rfl rfl rfl (hBw.ext (X := []) zxc (by simp)) hjt (bestC_one _)) ?_
        rintro vs7 ws7 ⟨rfl, qs7, hbs7⟩
        refine Ox.pure rfl rfl (rp_indexArr j rfl rfl rfl rfl rfl rfl (by omega)) ?_
        refine Ox.act rfl rfl (acts_store_row sc_len (some f) rfl rfl rfl rfl rfl ((hBz.ext (X := []) zxc (by simp)).ext qs7 (by simp; omega)) hjt (by simp [Value.oneCell'])) ?_
        rintro vs8 ws8 ⟨rfl, qs8, hbs8⟩
        refine Ox.fin ?_
        refine ztx ?_
        refine Ox.pure rfl rfl zmv ?_
        refine Ox.pure rfl rfl zba ?_
        refine Ox.pure rfl rfl zas ?_
        refine Ox.fin ?_
        obtain ⟨t1, t2, t3⟩ := turn hst _ (((Ext.up zxc).trans (qs7.mono (by simp))).trans (qs8.mono (by simp))) (hbs7.ext qs8 (by simp; omega)) hbs8
        exact ⟨(j : Int) + 1, _, sub_cons rfl (sub_cons rfl (sub_cons rfl (sub_cons rfl sub_nil))), ⟨rfl, by omega, by omega, t1, t2, t3⟩, by omega⟩
      | some h =>
        rw [hgj] at hatE hatS hl8E
        have hge := cmpF_ge f h
        by_cases h3 : before f h
        · have hneg : ¬ 0 ≤ cmpF f h := fun hh => hge.1 hh h3
          have hst : stepF g f j = g j := by unfold stepF dayStep; rw [if_pos hdec, hgj]; simp [h3]
          refine ztx ?_
          refine Ox.pure rfl rfl zmv ?_
          refine Ox.pure rfl rfl zfa ?_
          refine Ox.pure rfl rfl zfa ?_
          refine Ox.val rfl rfl zrs ?_
          refine Ox.pure rfl rfl (rp_min rfl rfl rfl) ?_
          refine Ox.pure rfl rfl zbc ?_
          refine Ox.fin ?_
          refine zct ?_
          refine zsk ?_
          refine zbl ?_
          (repeat refine Sx.seq ?_)
          refine Sx.walkR rfl (fun _ _ _ _ h => h) [0, 1, 2, 3, 4, 5, 6, 7, 8, 9, 10, 11] [0, 1, 2, 3, 4, 5, 6, 7, 8, 10, 11] (0) (by kernel_rfl) ?_
          intro hq w3 e3; have hz3 := e3.size
          refine Wx.pure hq rfl rfl rfl rfl zmv ?_
          refine Wx.pure hq rfl rfl rfl rfl (rp_indexArr j rfl rfl rfl rfl rfl rfl (by omega)) ?_
          refine Wx.val hq rfl rfl rfl rfl ([]) (rv_load rfl rfl (fun u hu => ((hCS.ext0 zxc).ext0 hu).ld _ rfl hatS)) ?_
          refine Wx.pure hq rfl rfl rfl rfl (rp_not rfl rfl) ?_
          refine Wx.pure hq rfl rfl rfl rfl zmv ?_
          first | (refine Wx.skip hq rfl rfl rfl rfl ?_) | (refine Wx.val hq rfl rfl rfl rfl ([]) zra ?_)
          first | (refine Wx.skip hq rfl rfl rfl rfl ?_) | (refine Wx.pure hq rfl rfl rfl rfl zmv ?_)
          first | (refine Wx.skip hq rfl rfl rfl rfl ?_) | (refine Wx.pure hq rfl rfl rfl rfl (rp_indexArr j rfl rfl rfl rfl rfl rfl (by omega)) ?_)
          first | (refine Wx.skip hq rfl rfl rfl rfl ?_) | (refine Wx.val hq rfl rfl rfl rfl ([]) zra ?_)
          first | (refine Wx.actSkip rfl rfl rfl rfl ?_) | (refine Wx.actNew rfl rfl rfl rfl (acts_call rfl rfl rfl (compare_at f h _)) ?_; rintro v4 w4 e4 rfl; have hz4 := e4.size)
          first | (refine Wx.skip hq rfl rfl rfl rfl ?_) | (refine Wx.pure hq rfl rfl rfl rfl zbc ?_)
          refine Wx.pure hq rfl rfl rfl rfl zpk ?_
          refine Wx.fin ?_
          refine zcf ?_
          refine zsk ?_
          refine ztx ?_
          refine Ox.pure rfl rfl zmv ?_
          refine Ox.pure rfl rfl zba ?_
          refine Ox.pure rfl rfl zas ?_
          refine Ox.fin ?_
          exact ⟨(j : Int) + 1, _, sub_cons rfl (sub_cons rfl (sub_cons rfl (sub_cons rfl sub_nil))), ⟨rfl, by omega, by omega, (stay hst _ zxc).1, (stay hst _ zxc).2.1, (stay hst _ zxc).2.2⟩, by omega⟩
        · have hpos : 0 ≤ cmpF f h := hge.2 h3
          have hst : stepF g f j = some f := by unfold stepF dayStep; rw [if_pos hdec, hgj]; simp [h3]
          refine ztx ?_
          refine Ox.pure rfl rfl zmv ?_
          refine Ox.pure rfl rfl zfa ?_
          refine Ox.pure rfl rfl zfa ?_
          refine Ox.val rfl rfl zrs ?_
          refine Ox.pure rfl rfl (rp_min rfl rfl rfl) ?_
          refine Ox.pure rfl rfl zbc ?_
          refine Ox.fin ?_
          refine zct ?_
          refine zsk ?_
          refine zbl ?_
          (repeat refine Sx.seq ?_)
          refine Sx.walkR rfl (fun _ _ _ _ h => h) [0, 1, 2, 3, 4, 5, 6, 7, 8, 9, 10, 11] [0, 1, 2, 3, 4, 5, 6, 7, 8, 10, 11] (0) (by kernel_rfl) ?_
          intro hq w5 e5; have hz5 := e5.size
          refine Wx.pure hq rfl rfl rfl rfl zmv ?_
          refine Wx.pure hq rfl rfl rfl rfl (rp_indexArr j rfl rfl rfl rfl rfl rfl (by omega)) ?_
          refine Wx.val hq rfl rfl rfl rfl ([]) (rv_load rfl rfl (fun u hu => ((hCS.ext0 zxc).ext0 hu).ld _ rfl hatS)) ?_
          refine Wx.pure hq rfl rfl rfl rfl (rp_not rfl rfl) ?_
          refine Wx.pure hq rfl rfl rfl rfl zmv ?_
          first | (refine Wx.skip hq rfl rfl rfl rfl ?_) | (refine Wx.val hq rfl rfl rfl rfl ([]) zra ?_)
          first | (refine Wx.skip hq rfl rfl rfl rfl ?_) | (refine Wx.pure hq rfl rfl rfl rfl zmv ?_)
          first | (refine Wx.skip hq rfl rfl rfl rfl ?_) | (refine Wx.pure hq rfl rfl rfl rfl (rp_indexArr j rfl rfl rfl rfl rfl rfl (by omega)) ?_)
          first | (refine Wx.skip hq rfl rfl rfl rfl ?_) | (refine Wx.val hq rfl rfl rfl rfl ([]) zra ?_)
          first | (refine Wx.actSkip rfl rfl rfl rfl ?_) | (refine Wx.actNew rfl rfl rfl rfl (acts_call rfl rfl rfl (compare_at f h _)) ?_; rintro v6 w6 e6 rfl; have hz6 := e6.size)
          first | (refine Wx.skip hq rfl rfl rfl rfl ?_) | (refine Wx.pure hq rfl rfl rfl rfl zbc ?_)
          refine Wx.pure hq rfl rfl rfl rfl zpk ?_
          refine Wx.fin ?_
          refine zct ?_
          refine ztx ?_
          refine Ox.pure rfl rfl zmv ?_
          refine Ox.pure rfl rfl zmv ?_
          refine Ox.val rfl rfl zra ?_
          refine Ox.pure rfl rfl (rp_indexArr j rfl rfl rfl rfl rfl rfl (by omega)) ?_
          refine Ox.act rfl rfl (acts_store_row bestC_len (some f) rfl rfl rfl rfl rfl (hBw.ext (X := []) zxc (by simp)) hjt (bestC_one _)) ?_
          rintro vs7 ws7 ⟨rfl, qs7, hbs7⟩
          refine Ox.pure rfl rfl (rp_indexArr j rfl rfl rfl rfl rfl rfl (by omega)) ?_
          refine Ox.act rfl rfl (acts_store_row sc_len (some f) rfl rfl rfl rfl rfl ((hBz.ext (X := []) zxc (by simp)).ext qs7 (by simp; omega)) hjt (by simp [Value.oneCell'])) ?_
          rintro vs8 ws8 ⟨rfl, qs8, hbs8⟩
          refine Ox.fin ?_
          refine ztx ?_
          refine Ox.pure rfl rfl zmv ?_
          refine Ox.pure rfl rfl zba ?_
          refine Ox.pure rfl rfl zas ?_
          refine Ox.fin ?_
          obtain ⟨t1, t2, t3⟩ := turn hst _ (((Ext.up zxc).trans (qs7.mono (by simp))).trans (qs8.mono (by simp))) (hbs7.ext qs8 (by simp; omega)) hbs8
          exact ⟨(j : Int) + 1, _, sub_cons rfl (sub_cons rfl (sub_cons rfl (sub_cons rfl sub_nil))), ⟨rfl, by omega, by omega, t1, t2, t3⟩, by omega⟩
    · refine ztx ?_
      refine Ox.pure rfl rfl zmv ?_
      refine Ox.pure rfl rfl zfa ?_
      refine Ox.pure rfl rfl zfa ?_
      refine Ox.val rfl rfl zrs ?_
      refine Ox.pure rfl rfl (rp_min rfl rfl rfl) ?_
      refine Ox.pure rfl rfl zbc ?_
      refine Ox.fin ?_
      refine zcf ?_
      refine zex ?_
      have hsn : foldD (fs ++ [f]) = stepF g f := by rw [foldD_snoc, hg]
      have hE6 := upto_end g f hlt
      rw [hE6] at hBw hBz
      exact ⟨rfl, [bb7, bb8], ⟨rfl, (hEW2.trans er).trans (Ext.up zxc), fs ++ [f], by simp, by rw [hsn]; exact hBw.ext (X := []) zxc (by simp), by rw [hsn]; exact hBz.ext (X := []) zxc (by simp)⟩, ⟨[bb7, bb8], er.trans (Ext.up zxc), fun y hy => .inl hy⟩, fun k hk => .inl hk⟩
  · rintro D pre X W' hD hR hDX rfl ⟨rfl, hE, fs, hfs, hB0, hB1⟩
    obtain rfl := map_inj' (fun _ _ => ya_inj) hfs
    have hval : valuesL l k known = tab (fun j => rowO (foldD (ofL l k known) j)) := rfl
    rw [hval]
    generalize foldD (ofL l k known) = g at *
    have hBr' := hBr.ext hE (by simp; omega)
    have hE' : Ext [] w W' := (Ext.up (X := []) e0).join hE (fun y hy => by simp only [List.mem_cons, List.not_mem_nil, or_false] at hy; rcases hy with rfl | rfl <;> exact .inr (by omega))
    have hzE := hE'.size
    have hCE := hB0.cells
    have hCS := hB1.cells
    refine SxG.done (Q := endM _ _ _ D) ?_ endM_done
    have hstart : tab (rowTo g 0) = tab (fun _ => (0 : Int)) := tab_ext fun j _ => by unfold rowTo; rw [if_neg (by omega)]
    refine ztx ?_
    refine Ox.pure rfl rfl zmv ?_
    refine Ox.fin ?_
    refine Sx.upto (fun E' w' => (∀ t v, get [(6, .pointer (some ⟨bb6, 0, none⟩))] t = some v → get E' t = some v) ∧ Ext [bb6] W' w' ∧ Blk w' bb6 106 (rowsV ic (tab (fun j => rowO (g j))))) ?_ ?_
    · refine zbl ?_
      refine Sx.loop (ι := Nat) (fun i E wr => E = [(6, .pointer (some ⟨bb6, 0, none⟩)), (7, .pointer (some ⟨bb7, 0, none⟩)), (8, .pointer (some ⟨bb8, 0, none⟩)), (46, .int .i64 (i : Int))] ∧ i ≤ 1024 ∧ Ext [bb6] W' wr ∧ Blk wr bb6 106 (rowsV ic (tab (rowTo g i)))) (fun i => 1024 - i) 0
        (sub_cons rfl (sub_cons rfl (sub_cons rfl (sub_cons rfl sub_nil)))) ⟨rfl, Nat.zero_le _, Ext.refl _ _, by rw [hstart]; exact hBr'⟩ ?_
      rintro i E wr ⟨rfl, hi, er, hBw⟩
      by_cases hlt : i < 1024
      · have hit : i < (tab g).length := by rw [tab_length]; exact hlt
        have hir : i < (tab (rowTo g i)).length := by rw [tab_length]; exact hlt
        have hir2 : i < ((tab (rowTo g i)).set i (-1)).length := by rw [List.length_set, tab_length]; exact hlt
        have hCE' : Cells wr ⟨bb7, 0, none⟩ (rowsV bestC (tab g)) := hCE.ext er (by simp; omega)
        have hCS' : Cells wr ⟨bb8, 0, none⟩ (rowsV sc (tab g)) := hCS.ext er (by simp; omega)
        have hatS : (rowsV sc (tab g))[i * 1]? = some (.bool (g i).isSome) := by
          have := congrArg (fun c => c[0]?) (rowsV_at sc_len hit)
          rw [tab_get] at this
          simpa using this
        cases hgi : g i with
        | none =>
          rw [hgi] at hatS
          have hrt := rowTo_step g i
          rw [hgi] at hrt
          refine ztx ?_
          refine Ox.pure rfl rfl zbc ?_
          refine Ox.fin ?_
          refine zct ?_
          refine zsk ?_
          refine zbl ?_
          refine ztx ?_
          refine Ox.pure rfl rfl zmv ?_
          refine Ox.pure rfl rfl zas ?_
          refine Ox.fin ?_
          refine ztx ?_
          refine Ox.pure rfl rfl zmv ?_
          refine Ox.pure rfl rfl (rp_indexArr i rfl rfl rfl rfl rfl rfl (by omega)) ?_
          refine Ox.act rfl rfl (acts_store_row ic_len (-1) rfl rfl rfl rfl rfl (hBw.ext (X := []) zxc (by simp)) hir (by simp [Value.oneCell'])) ?_
          rintro vs13 ws13 ⟨rfl, qs13, hbs13⟩
          refine Ox.fin ?_
          refine ztx ?_
          refine Ox.pure rfl rfl zmv ?_
          refine Ox.pure rfl rfl (rp_indexArr i rfl rfl rfl rfl rfl rfl (by omega)) ?_
          refine Ox.val rfl rfl (rv_load rfl rfl (fun u hu => (((hCS'.ext qs13 (by simp; omega)).ext0 zxc).ext0 hu).ld _ rfl hatS)) ?_
          refine Ox.fin ?_
          refine zcf ?_
          refine zsk ?_
          refine ztx ?_
          refine Ox.pure rfl rfl zba ?_
          refine Ox.pure rfl rfl zmv ?_
          refine Ox.fin ?_
          refine ⟨i + 1, _, sub_cons rfl (sub_cons rfl (sub_cons rfl (sub_cons rfl sub_nil))), ⟨rfl, hlt, (er.trans (Ext.up zxc)).trans (qs13.trans (Ext.up zxc)), ?_⟩, by omega⟩
          rw [← hrt]
          exact hbs13.ext (X := []) zxc (by simp)
        | some f =>
          rw [hgi] at hatS
          have hrt := rowTo_step g i
          rw [hgi] at hrt
          have hv3 : (bestC ((tab g)[i]'hit))[3]? = some (.int .i64 f.val) := by rw [tab_get, hgi]; rfl
          refine ztx ?_
          refine Ox.pure rfl rfl zbc ?_
          refine Ox.fin ?_
          refine zct ?_
          refine zsk ?_
          refine zbl ?_
          refine ztx ?_
          refine Ox.pure rfl rfl zmv ?_
          refine Ox.pure rfl rfl zas ?_
          refine Ox.fin ?_
          refine ztx ?_
          refine Ox.pure rfl rfl zmv ?_
          refine Ox.pure rfl rfl (rp_indexArr i rfl rfl rfl rfl rfl rfl (by omega)) ?_
          refine Ox.act rfl rfl (acts_store_row ic_len (-1) rfl rfl rfl rfl rfl (hBw.ext (X := []) zxc (by simp)) hir (by simp [Value.oneCell'])) ?_
          rintro vs13 ws13 ⟨rfl, qs13, hbs13⟩
          refine Ox.fin ?_
          refine ztx ?_
          refine Ox.pure rfl rfl zmv ?_
          refine Ox.pure rfl rfl (rp_indexArr i rfl rfl rfl rfl rfl rfl (by omega)) ?_
          refine Ox.val rfl rfl (rv_load rfl rfl (fun u hu => (((hCS'.ext qs13 (by simp; omega)).ext0 zxc).ext0 hu).ld _ rfl hatS)) ?_
          refine Ox.fin ?_
          refine zct ?_
          refine ztx ?_
          refine Ox.pure rfl rfl zmv ?_
          refine Ox.pure rfl rfl zmv ?_
          refine Ox.pure rfl rfl (rp_indexArr i rfl rfl rfl rfl rfl rfl (by omega)) ?_
          refine Ox.pure rfl rfl zfa ?_
          refine Ox.val rfl rfl (rv_load rfl rfl (fun u hu => ld_field bestC_len (((hCE'.ext qs13 (by simp; omega)).ext0 zxc).ext0 hu) hit 3 rfl (by decide) hv3)) ?_
          refine Ox.pure rfl rfl (rp_max rfl rfl rfl) ?_
          refine Ox.pure rfl rfl (rp_indexArr i rfl rfl rfl rfl rfl rfl (by omega)) ?_
          refine Ox.act rfl rfl (acts_store_row ic_len (max f.val (-1)) rfl rfl rfl rfl rfl (hbs13.ext (X := []) zxc (by simp)) hir2 (by simp [Value.oneCell'])) ?_
          rintro vs15 ws15 ⟨rfl, qs15, hbs15⟩
          refine Ox.fin ?_
          refine ztx ?_
          refine Ox.pure rfl rfl zba ?_
          refine Ox.pure rfl rfl zmv ?_
          refine Ox.fin ?_
          refine ⟨i + 1, _, sub_cons rfl (sub_cons rfl (sub_cons rfl (sub_cons rfl sub_nil))), ⟨rfl, hlt, ((er.trans (Ext.up zxc)).trans (qs13.trans (Ext.up zxc))).trans (qs15.trans (Ext.up zxc)), ?_⟩, by omega⟩
          rw [← hrt]
          have := hbs15.ext (X := []) (w' := ws15) (Ext.refl _ _) (by simp)
          rw [List.set_set] at this
          exact this
      · obtain rfl : i = 1024 := by omega
        refine ztx ?_
        refine Ox.pure rfl rfl zbc ?_
        refine Ox.fin ?_
        refine zcf ?_
        refine zex ?_
        exact ⟨sub_cons rfl sub_nil, er.trans (Ext.up zxc), by rw [← rowTo_end]; exact hBw.ext (X := []) zxc (by simp)⟩
    · rintro E' w' ⟨hsub, he, hB⟩
      refine thenE_normal (Sx.weaken ?_ hsub)
      have hlen : (rowsV ic (tab (fun j => rowO (g j)))).length = 1024 := by rw [rowsV_length ic_len, tab_length]
      have hCr := hB.cells
      have hRw := hR.ext he (by simp; omega)
      refine ztx ?_
      refine Ox.val rfl rfl zra ?_
      refine Ox.act rfl rfl (acts_store_all (m := 1024) rfl rfl rfl (hB.ext (X := []) zxc (by simp)) rfl (by show (rowsV ic (tab (fun j => rowO (g j)))).toArray.size = 1024; simpa using hlen) hlen (rowsV_all (by simp [Value.oneCell']) _)) ?_
      rintro vs17 ws17 ⟨rfl, qs17, hbs17⟩
      refine Ox.fin ?_
      refine zrt ?_
      have hE17 : Ext [bb6] W' ws17 := he.trans ((Ext.up zxc).trans qs17)
      have hCf : Cells ws17 ⟨bb6, 0, none⟩ (rowsV ic (tab (fun j => rowO (g j)))) := hbs17.cells
      exact endM_ret (.inl rfl) [_] (hR.ext hE17 (by simp; omega)) (fun w' he => ⟨⟨⟨bb6, 0, none⟩, rfl, (hCf.ext he (by simp; omega)).ldL rfl rfl hlen⟩, trivial⟩)
        (fun w' he => ⟨Ext.renew (b := D) (Ext.join (X := []) hE' hE17 (fun y hy => by simp only [List.mem_singleton] at hy; subst hy; exact .inr (by omega))) he (by omega), rfl⟩)

end Go.Proofs.Ytfgckcochilpkaa

/- The facts' walks: points. -/
set_option linter.unusedVariables false
set_option maxRecDepth 100000
set_option maxHeartbeats 4000000
set_option linter.unusedSimpArgs false
namespace Go.Proofs.Ytfgckcochilpkaa
open Go Go.Eng

/-- The points of n days from d on. -/
def ptsN (g : Int → Int × Bool) : Int → Nat → List Pt
  | _, 0 => []
  | d, n + 1 => (if (g d).2 then [(d, (g d).1)] else []) ++ ptsN g (d + 1) n
theorem ptsN_step (g : Int → Int × Bool) {d e : Int} (h : d < e) : ptsN g d (e - d).toNat = (if (g d).2 then [(d, (g d).1)] else []) ++ ptsN g (d + 1) (e - (d + 1)).toNat := by
  rw [show (e - d).toNat = (e - (d + 1)).toNat + 1 by omega, ptsN]
theorem ptsN_end (g : Int → Int × Bool) {d e : Int} (h : ¬ d < e) : ptsN g d (e - d).toNat = [] := by
  rw [show (e - d).toNat = 0 by omega, ptsN]
def pointsL (l : List Fct) (k : Ky) (lo hi known : Int) : List Pt := ptsN (fun d => atL l k d known) (max 0 lo) (min hi 1024 - max 0 lo).toNat
theorem ptsN_le (g : Int → Int × Bool) : ∀ (n : Nat) (d : Int), (ptsN g d n).length ≤ n
  | 0, d => by simp [ptsN]
  | n + 1, d => by
    rw [ptsN, List.length_append]
    have := ptsN_le g n (d + 1)
    split <;> simp <;> omega
theorem pointsL_le (l : List Fct) (k : Ky) (lo hi known : Int) : (pointsL l k lo hi known).length ≤ 1024 := by
  have := ptsN_le (fun d => atL l k d known) (min hi 1024 - max 0 lo).toNat (max 0 lo)
  unfold pointsL; omega

def OwnP (base : Nat) (w : World) (v : Value) (l : List Pt) : Prop := w.ownsRow base 104 2 v l.length (rowsV pc l)
theorem OwnP.sl {base : Nat} {w : World} {v : Value} {l : List Pt} (h : OwnP base w v l) (hl : l.length ≤ 1000000) : ∃ p cap A, v = .slice p l.length cap ∧ SlV pc w p A l cap ∧ (0 < l.length → base ≤ A.block ∧ A.block < w.heap.size) := SlV.of_own h (by omega)
theorem OwnP.snoc {base : Nat} {w w' : World} {v v' : Value} {l : List Pt} {q : Pt} (h : Grew base 104 2 w v (l.length + 1) (rowsV pc l ++ pc q) v' w') : OwnP base w' v' (l ++ [q]) := by
  have := h.own
  unfold OwnP
  rw [List.length_append, rowsV_append, rowsV_one]
  exact this

theorem points_at (l : List Fct) (k : Ky) (lo hi known : Int) (p : Option Addr) (A : Addr) (c : Nat) (w : World) (hs : SlV fc w p A l c) :
    Calls Try.prog 57 #[.slice p l.length c, .agg (kc k).toArray, .int .i64 lo, .int .i64 hi, .int .i64 known] w (Ret fun r w' => Ext [] w w' ∧ OwnP w.heap.size w' r (pointsL l k lo hi known)) := by
  refine calls_of_Sx (args := [.slice p l.length c, .agg (kc k).toArray, .int .i64 lo, .int .i64 hi, .int .i64 known]) Try.func57 rfl rfl ?_
  have hvl : (rowsV ic (valuesL l k known)).length = 1024 := by rw [rowsV_length ic_len, valuesL_length]
  refine ztx ?_
  refine Ox.act rfl rfl (acts_box rfl rfl) ?_
  rintro v1 w1 ⟨e1, b1, rfl, hb1, hB1⟩
  first | (have hC1 : Cells w1 ⟨b1, 0, none⟩ [_, _, _] := hB1.cells) | have hC1 := Blk.cellsL hB1
  have hl1 := hB1.lt
  have hz1 := e1.size
  refine Ox.pure rfl rfl zas ?_
  refine Ox.fin ?_
  refine ztx ?_
  refine Ox.pure rfl rfl zmv ?_
  refine Ox.val rfl rfl zra ?_
  refine Ox.pure rfl rfl zmv ?_
  refine Ox.act rfl rfl (acts_call rfl rfl rfl (values_at l k known p A c _ (hs.ext0 zxc))) ?_
  rintro v2 w2 ⟨e2, rfl⟩
  have hz2 := e2.size
  refine Ox.act rfl rfl (acts_alloc_z rfl z70) ?_
  rintro val wal ⟨eal, bal, rfl, hbal, hBal⟩
  have hzal := eal.size
  have hlal := hBal.lt
  refine Ox.act rfl rfl (acts_store_all (m := 1024) rfl rfl rfl hBal rfl (by show (rowsV ic (valuesL l k known)).toArray.size = 1024; simpa using hvl) (by rw [rowsV_length ic_len, tab_length]) (rowsV_all (by simp [Value.oneCell']) _)) ?_
  rintro vst wst ⟨rfl, qst, hBst⟩
  have est := Ext.renew eal qst hbal; have hzst := est.size
  refine Ox.fin ?_
  refine ztx ?_
  refine Ox.pure rfl rfl zmv ?_
  refine Ox.pure rfl rfl (rp_max rfl rfl rfl) ?_
  refine Ox.pure rfl rfl zas ?_
  refine Ox.fin ?_
  refine zbl ?_
  have hCr : Cells wst ⟨bal, 0, none⟩ (rowsV ic (valuesL l k known)) := hBst.cells
  refine Sx.loop (ι := Int × Value × List Pt) (fun i E wr => E = [(3, .int .i64 hi), (10, i.2.1), (11, .pointer (some ⟨bal, 0, none⟩)), (12, .int .i64 i.1)] ∧ max 0 lo ≤ i.1 ∧ i.1 ≤ max (max 0 lo) (min hi 1024) ∧ Ext [] wst wr ∧ OwnP wst.heap.size wr i.2.1 i.2.2 ∧
      i.2.2 ++ ptsN (fun d => atL l k d known) i.1 (min hi 1024 - i.1).toNat = pointsL l k lo hi known) (fun i => (1024 - i.1).toNat) (max 0 lo, nilS, [])
    (sub_cons rfl (sub_cons rfl (sub_cons rfl (sub_cons rfl sub_nil)))) ⟨rfl, Int.le_refl _, by dsimp only; omega, zxc, World.ownsRow_nil _ _ _ _, rfl⟩ ?_
  rintro ⟨d, v, acc⟩ E wr ⟨rfl, hd, hdm, er, hown, hacc⟩
  dsimp only at hd hdm hown hacc ⊢
  have hz := er.size
  by_cases hlt : d < min hi 1024
  · obtain ⟨j, rfl⟩ : ∃ j : Nat, d = (j : Int) := ⟨d.toNat, by omega⟩
    have hjv : j < (valuesL l k known).length := by rw [valuesL_length]; omega
    have hlen := congrArg List.length hacc
    have hple := pointsL_le l k lo hi known
    rw [List.length_append] at hlen
    rw [ptsN_step _ hlt] at hacc
    have hvj : (valuesL l k known)[j] = rowO (bestL l k (j : Int) known) := by simp [valuesL, tab]
    have hcell : (rowsV ic (valuesL l k known))[j * 1]? = some (.int .i64 (rowO (bestL l k (j : Int) known))) := by
      have := congrArg (fun c => c[0]?) (rowsV_at ic_len hjv)
      rw [hvj] at this
      simpa using this
    obtain ⟨hr1, hr2, hr3⟩ := rowO_val (bestL l k (j : Int) known)
    have hat : atL l k (j : Int) known = valO (bestL l k (j : Int) known) := rfl
    rw [hat] at hacc
    generalize bestL l k (j : Int) known = b at *
    by_cases hpos : 0 ≤ rowO b
    · rw [if_pos (hr1.1 hpos), hr2 hpos] at hacc
      refine ztx ?_
      refine Ox.pure rfl rfl zmv ?_
      refine Ox.pure rfl rfl zmv ?_
      refine Ox.pure rfl rfl (rp_min rfl rfl rfl) ?_
      refine Ox.pure rfl rfl zbc ?_
      refine Ox.fin ?_
      refine zct ?_
      refine zsk ?_
      refine zbl ?_
      refine ztx ?_
      refine Ox.pure rfl rfl zmv ?_
      refine Ox.pure rfl rfl (rp_indexArr j rfl rfl rfl rfl rfl rfl (by omega)) ?_
      refine Ox.val rfl rfl (rv_load rfl rfl (fun u hu => ((hCr.ext0 zxc).ext0 hu).ld _ rfl hcell)) ?_
      refine Ox.pure rfl rfl zbc ?_
      refine Ox.fin ?_
      refine zct ?_
      refine ztx ?_
      refine Ox.pure rfl rfl zmv ?_
      refine Ox.pure rfl rfl zmv ?_
      refine Ox.pure rfl rfl zmv ?_
      refine Ox.pure rfl rfl (rp_indexArr j rfl rfl rfl rfl rfl rfl (by omega)) ?_
      refine Ox.val rfl rfl (rv_load rfl rfl (fun u hu => ((hCr.ext0 zxc).ext0 hu).ld _ rfl hcell)) ?_
      refine Ox.pure rfl rfl (rp_buildS (ps := [(0, .tmp 30), (1, .tmp 33)]) rfl rfl rfl rfl rfl) ?_
      refine Ox.act rfl rfl (acts_buildSlice (ps := [(0, .tmp 34)]) rfl rfl rfl rfl rfl rfl rfl rfl) ?_
      rintro vbs wbs ⟨ebs, bbs, rfl, hbbs, hBbs⟩
      first | (have hCbs : Cells wbs ⟨bbs, 0, none⟩ [_, _] := hBbs.cells) | have hCbs := Blk.cellsL hBbs
      have hlbs := hBbs.lt
      have hzbs := ebs.size
      refine Ox.act rfl rfl (acts_append (e := 104) (size := 2) (bytes := 16) rfl rfl rfl rfl (own_keep0 hown zxc) (source_slice rfl rfl (fun _ => rfl) hCbs (by simp [Value.oneCell'])) (by first | omega | (dsimp only; omega)) (by first | omega | (dsimp only; omega)) (by omega)) ?_
      rintro vap wap hgap
      refine Ox.pure rfl rfl zas ?_
      refine Ox.fin ?_
      refine ztx ?_
      refine Ox.pure rfl rfl zmv ?_
      refine Ox.pure rfl rfl zba ?_
      refine Ox.pure rfl rfl zas ?_
      refine Ox.fin ?_
      refine ⟨((j : Int) + 1, vap, acc ++ [((j : Int), rowO b)]), _, sub_cons rfl (sub_cons rfl (sub_cons rfl (sub_cons rfl sub_nil))), ⟨rfl, by dsimp only; omega, by dsimp only; omega, hgap.ext0 zxc (fun g hg => (own_lt hown g (by simp [hg])).1), OwnP.snoc hgap, by rw [← hacc]; simp⟩, by dsimp only; omega⟩
    · rw [if_neg (fun h => hpos (hr1.2 h)), List.nil_append] at hacc
      refine ztx ?_
      refine Ox.pure rfl rfl zmv ?_
      refine Ox.pure rfl rfl zmv ?_
      refine Ox.pure rfl rfl (rp_min rfl rfl rfl) ?_
      refine Ox.pure rfl rfl zbc ?_
      refine Ox.fin ?_
      refine zct ?_
      refine zsk ?_
      refine zbl ?_
      refine ztx ?_
      refine Ox.pure rfl rfl zmv ?_
      refine Ox.pure rfl rfl (rp_indexArr j rfl rfl rfl rfl rfl rfl (by omega)) ?_
      refine Ox.val rfl rfl (rv_load rfl rfl (fun u hu => ((hCr.ext0 zxc).ext0 hu).ld _ rfl hcell)) ?_
      refine Ox.pure rfl rfl zbc ?_
      refine Ox.fin ?_
      refine zcf ?_
      refine zsk ?_
      refine ztx ?_
      refine Ox.pure rfl rfl zmv ?_
      refine Ox.pure rfl rfl zba ?_
      refine Ox.pure rfl rfl zas ?_
      refine Ox.fin ?_
      exact ⟨((j : Int) + 1, v, acc), _, sub_cons rfl (sub_cons rfl (sub_cons rfl (sub_cons rfl sub_nil))), ⟨rfl, by dsimp only; omega, by dsimp only; omega, zxc, own_keep0 hown zxc, hacc⟩, by dsimp only; omega⟩
  · rw [ptsN_end _ hlt, List.append_nil] at hacc
    refine ztx ?_
    refine Ox.pure rfl rfl zmv ?_
    refine Ox.pure rfl rfl zmv ?_
    refine Ox.pure rfl rfl (rp_min rfl rfl rfl) ?_
    refine Ox.pure rfl rfl zbc ?_
    refine Ox.fin ?_
    refine zcf ?_
    refine zex ?_
    refine ztx ?_
    refine Ox.pure rfl rfl zmv ?_
    refine Ox.pure rfl rfl zas ?_
    refine Ox.fin ?_
    refine zrt ?_
    exact endE_ret [_] ⟨rfl, trivial⟩ ⟨zxc, by rw [← hacc]; exact own_base (own_keep0 hown zxc) (by omega)⟩

end Go.Proofs.Ytfgckcochilpkaa

/- The facts' walks: the facts up to a time. -/
set_option linter.unusedVariables false
set_option maxRecDepth 100000
set_option maxHeartbeats 4000000
set_option linter.unusedSimpArgs false
namespace Go.Proofs.Ytfgckcochilpkaa
open Go Go.Eng

theorem filter_take_step {α : Type} {q : α → Bool} {l : List α} {j : Nat} (hj : j < l.length) : (l.take (j + 1)).filter q = (l.take j).filter q ++ (if q l[j] then [l[j]] else []) := by
  rw [← List.take_append_getElem hj, List.filter_append]
  congr 1
  by_cases h : q l[j] = true
  · rw [if_pos h, List.filter_cons_of_pos h]; rfl
  · rw [if_neg h, List.filter_cons_of_neg h]; rfl
theorem set_take {α : Type} {r : List α} {i : Nat} (hi : i < r.length) (a : α) : (r.set i a).take (i + 1) = r.take i ++ [a] := by
  have h2 : i < (r.set i a).length := by rw [List.length_set]; exact hi
  rw [← List.take_append_getElem h2, List.take_set_of_le (Nat.le_refl i), List.getElem_set_self]

/-- The facts up to a time. -/
def uptoL (l : List Fct) (known : Int) : List Fct := l.filter fun f => decide (f.known ≤ known)

end Go.Proofs.Ytfgckcochilpkaa

/- The facts' walks: what was read. -/
set_option linter.unusedVariables false
set_option maxRecDepth 100000
set_option maxHeartbeats 4000000
set_option linter.unusedSimpArgs false
namespace Go.Proofs.Ytfgckcochilpkaa
open Go Go.Eng

structure Rd where
  key : Ky
  lo : Int
  hi : Int
abbrev rc (r : Rd) : List Value := [.int .i64 r.key.k, .int .i64 r.key.s, .int .i64 r.key.o, .int .i64 r.lo, .int .i64 r.hi]
theorem rc_len (r : Rd) : (rc r).length = 5 := rfl
theorem rc_one (r : Rd) : ∀ u ∈ rc r, u.oneCell' = true := by simp [rc, Value.oneCell']
def alike1 (l : List Fct) (r : Rd) (bef aft : Int) : Prop := pointsL l r.key r.lo r.hi bef = pointsL l r.key r.lo r.hi aft
instance (l : List Fct) (r : Rd) (bef aft : Int) : Decidable (alike1 l r bef aft) := inferInstanceAs (Decidable (_ = _))
def alikeL (l : List Fct) (reads : List Rd) (bef aft : Int) : Bool := reads.all fun r => decide (alike1 l r bef aft)
theorem all_take_step {α : Type} {q : α → Bool} {l : List α} {i : Nat} (hi : i < l.length) (h : (l.take i).all q = true) (h2 : q l[i] = true) : (l.take (i + 1)).all q = true := by
  rw [← List.take_append_getElem hi, List.all_append, h]; simp [h2]
theorem all_no {α : Type} {q : α → Bool} {l : List α} {i : Nat} (hi : i < l.length) (h2 : q l[i] = false) : l.all q = false := by
  rw [Bool.eq_false_iff]; intro h
  have := List.all_eq_true.1 h _ (List.getElem_mem hi)
  rw [h2] at this; cases this

end Go.Proofs.Ytfgckcochilpkaa

/- The facts' walks: the keys' order, the keys of facts. -/
set_option linter.unusedVariables false
set_option maxRecDepth 100000
set_option maxHeartbeats 4000000
set_option linter.unusedSimpArgs false
namespace Go.Proofs.Ytfgckcochilpkaa
open Go Go.Eng

def lessK (a b : Ky) : Prop := a.k < b.k ∨ a.k = b.k ∧ (a.s < b.s ∨ a.s = b.s ∧ a.o < b.o)
instance (a b : Ky) : Decidable (lessK a b) := inferInstanceAs (Decidable (_ ∨ _))
def cmpK (a b : Ky) : Int := orL [cmpI a.k b.k, cmpI a.s b.s, cmpI a.o b.o]
theorem cmpK_lt (a b : Ky) : cmpK a b < 0 ↔ lessK a b := by
  unfold cmpK lessK
  simp only [orL]
  have h1 := cmpI_cases a.k b.k
  have h2 := cmpI_cases a.s b.s
  have h3 := cmpI_cases a.o b.o
  split
  · split
    · split <;> omega
    · omega
  · omega
theorem lessK_irrefl (a : Ky) : ¬ lessK a a := by unfold lessK; omega
theorem lessK_trans {a b c : Ky} (h1 : lessK a b) (h2 : lessK b c) : lessK a c := by unfold lessK at *; omega
theorem lessK_total {a b : Ky} (h1 : ¬ lessK a b) (h2 : a ≠ b) : lessK b a := by
  rw [ne_eq, Ky.eq_iff] at h2
  unfold lessK at *; omega

theorem ref_LessKey (a b : Ky) (w : World) : Calls Try.prog 29 #[.agg (kc a).toArray, .agg (kc b).toArray] w (Ret fun r w' => Ext [] w w' ∧ r = .bool (decide (lessK a b))) := by
  refine calls_of_Sx (args := [.agg (kc a).toArray, .agg (kc b).toArray]) Try.func29 rfl rfl ?_
  by_cases h1 : a.k = b.k; rotate_left
  · by_cases h2 : a.k < b.k
    · refine ztx ?_
      refine Ox.act rfl rfl (acts_box rfl rfl) ?_
      rintro vbx wbx ⟨ebx, bbx, rfl, hbbx, hBbx⟩
      first | (have hCbx : Cells wbx ⟨bbx, 0, none⟩ [_, _, _] := hBbx.cells) | have hCbx := Blk.cellsL hBbx
      have hlbx := hBbx.lt
      have hzbx := ebx.size
      refine Ox.act rfl rfl (acts_box rfl rfl) ?_
      rintro vby wby ⟨eby, bby, rfl, hbby, hBby⟩
      first | (have hCby : Cells wby ⟨bby, 0, none⟩ [_, _, _] := hBby.cells) | have hCby := Blk.cellsL hBby
      have hlby := hBby.lt
      have hzby := eby.size
      refine Ox.pure rfl rfl zas ?_
      refine Ox.fin ?_
      refine ztx ?_
      refine Ox.pure rfl rfl zfa ?_
      refine Ox.val rfl rfl zrs ?_
      refine Ox.pure rfl rfl zfa ?_
      refine Ox.val rfl rfl zrs ?_
      refine Ox.pure rfl rfl zbc ?_
      refine Ox.fin ?_
      refine zct ?_
      refine ztx ?_
      refine Ox.pure rfl rfl zfa ?_
      refine Ox.val rfl rfl zrs ?_
      refine Ox.pure rfl rfl zfa ?_
      refine Ox.val rfl rfl zrs ?_
      refine Ox.pure rfl rfl zbc ?_
      refine Ox.pure rfl rfl zas ?_
      refine Ox.fin ?_
      refine zrt ?_
      exact endE_ret [_] ⟨rfl, trivial⟩ ⟨zxc, congrArg Value.bool (decide_eq_true (by unfold lessK; omega)).symm⟩
    · refine ztx ?_
      refine Ox.act rfl rfl (acts_box rfl rfl) ?_
      rintro vbx wbx ⟨ebx, bbx, rfl, hbbx, hBbx⟩
      first | (have hCbx : Cells wbx ⟨bbx, 0, none⟩ [_, _, _] := hBbx.cells) | have hCbx := Blk.cellsL hBbx
      have hlbx := hBbx.lt
      have hzbx := ebx.size
      refine Ox.act rfl rfl (acts_box rfl rfl) ?_
      rintro vby wby ⟨eby, bby, rfl, hbby, hBby⟩
      first | (have hCby : Cells wby ⟨bby, 0, none⟩ [_, _, _] := hBby.cells) | have hCby := Blk.cellsL hBby
      have hlby := hBby.lt
      have hzby := eby.size
      refine Ox.pure rfl rfl zas ?_
      refine Ox.fin ?_
      refine ztx ?_
      refine Ox.pure rfl rfl zfa ?_
      refine Ox.val rfl rfl zrs ?_
      refine Ox.pure rfl rfl zfa ?_
      refine Ox.val rfl rfl zrs ?_
      refine Ox.pure rfl rfl zbc ?_
      refine Ox.fin ?_
      refine zct ?_
      refine ztx ?_
      refine Ox.pure rfl rfl zfa ?_
      refine Ox.val rfl rfl zrs ?_
      refine Ox.pure rfl rfl zfa ?_
      refine Ox.val rfl rfl zrs ?_
      refine Ox.pure rfl rfl zbc ?_
      refine Ox.pure rfl rfl zas ?_
      refine Ox.fin ?_
      refine zrt ?_
      exact endE_ret [_] ⟨rfl, trivial⟩ ⟨zxc, congrArg Value.bool (decide_eq_false (by unfold lessK; omega)).symm⟩
  by_cases h3 : a.s = b.s; rotate_left
  · by_cases h2 : a.s < b.s
    · refine ztx ?_
      refine Ox.act rfl rfl (acts_box rfl rfl) ?_
      rintro vbx wbx ⟨ebx, bbx, rfl, hbbx, hBbx⟩
      first | (have hCbx : Cells wbx ⟨bbx, 0, none⟩ [_, _, _] := hBbx.cells) | have hCbx := Blk.cellsL hBbx
      have hlbx := hBbx.lt
      have hzbx := ebx.size
      refine Ox.act rfl rfl (acts_box rfl rfl) ?_
      rintro vby wby ⟨eby, bby, rfl, hbby, hBby⟩
      first | (have hCby : Cells wby ⟨bby, 0, none⟩ [_, _, _] := hBby.cells) | have hCby := Blk.cellsL hBby
      have hlby := hBby.lt
      have hzby := eby.size
      refine Ox.pure rfl rfl zas ?_
      refine Ox.fin ?_
      refine ztx ?_
      refine Ox.pure rfl rfl zfa ?_
      refine Ox.val rfl rfl zrs ?_
      refine Ox.pure rfl rfl zfa ?_
      refine Ox.val rfl rfl zrs ?_
      refine Ox.pure rfl rfl zbc ?_
      refine Ox.fin ?_
      refine zcf ?_
      refine zsk ?_
      refine ztx ?_
      refine Ox.pure rfl rfl zfa ?_
      refine Ox.val rfl rfl zrs ?_
      refine Ox.pure rfl rfl zfa ?_
      refine Ox.val rfl rfl zrs ?_
      refine Ox.pure rfl rfl zbc ?_
      refine Ox.fin ?_
      refine zct ?_
      refine ztx ?_
      refine Ox.pure rfl rfl zfa ?_
      refine Ox.val rfl rfl zrs ?_
      refine Ox.pure rfl rfl zfa ?_
      refine Ox.val rfl rfl zrs ?_
      refine Ox.pure rfl rfl zbc ?_
      refine Ox.pure rfl rfl zas ?_
      refine Ox.fin ?_
      refine zrt ?_
      exact endE_ret [_] ⟨rfl, trivial⟩ ⟨zxc, congrArg Value.bool (decide_eq_true (by unfold lessK; omega)).symm⟩
    · refine ztx ?_
      refine Ox.act rfl rfl (acts_box rfl rfl) ?_
      rintro vbx wbx ⟨ebx, bbx, rfl, hbbx, hBbx⟩
      first | (have hCbx : Cells wbx ⟨bbx, 0, none⟩ [_, _, _] := hBbx.cells) | have hCbx := Blk.cellsL hBbx
      have hlbx := hBbx.lt
      have hzbx := ebx.size
      refine Ox.act rfl rfl (acts_box rfl rfl) ?_
      rintro vby wby ⟨eby, bby, rfl, hbby, hBby⟩
      first | (have hCby : Cells wby ⟨bby, 0, none⟩ [_, _, _] := hBby.cells) | have hCby := Blk.cellsL hBby
      have hlby := hBby.lt
      have hzby := eby.size
      refine Ox.pure rfl rfl zas ?_
      refine Ox.fin ?_
      refine ztx ?_
      refine Ox.pure rfl rfl zfa ?_
      refine Ox.val rfl rfl zrs ?_
      refine Ox.pure rfl rfl zfa ?_
      refine Ox.val rfl rfl zrs ?_
      refine Ox.pure rfl rfl zbc ?_
      refine Ox.fin ?_
      refine zcf ?_
      refine zsk ?_
      refine ztx ?_
      refine Ox.pure rfl rfl zfa ?_
      refine Ox.val rfl rfl zrs ?_
      refine Ox.pure rfl rfl zfa ?_
      refine Ox.val rfl rfl zrs ?_
      refine Ox.pure rfl rfl zbc ?_
      refine Ox.fin ?_
      refine zct ?_
      refine ztx ?_
      refine Ox.pure rfl rfl zfa ?_
      refine Ox.val rfl rfl zrs ?_
      refine Ox.pure rfl rfl zfa ?_
      refine Ox.val rfl rfl zrs ?_
      refine Ox.pure rfl rfl zbc ?_
      refine Ox.pure rfl rfl zas ?_
      refine Ox.fin ?_
      refine zrt ?_
      exact endE_ret [_] ⟨rfl, trivial⟩ ⟨zxc, congrArg Value.bool (decide_eq_false (by unfold lessK; omega)).symm⟩
  by_cases h2 : a.o < b.o
  · refine ztx ?_
    refine Ox.act rfl rfl (acts_box rfl rfl) ?_
    rintro vbx wbx ⟨ebx, bbx, rfl, hbbx, hBbx⟩
    first | (have hCbx : Cells wbx ⟨bbx, 0, none⟩ [_, _, _] := hBbx.cells) | have hCbx := Blk.cellsL hBbx
    have hlbx := hBbx.lt
    have hzbx := ebx.size
    refine Ox.act rfl rfl (acts_box rfl rfl) ?_
    rintro vby wby ⟨eby, bby, rfl, hbby, hBby⟩
    first | (have hCby : Cells wby ⟨bby, 0, none⟩ [_, _, _] := hBby.cells) | have hCby := Blk.cellsL hBby
    have hlby := hBby.lt
    have hzby := eby.size
    refine Ox.pure rfl rfl zas ?_
    refine Ox.fin ?_
    refine ztx ?_
    refine Ox.pure rfl rfl zfa ?_
    refine Ox.val rfl rfl zrs ?_
    refine Ox.pure rfl rfl zfa ?_
    refine Ox.val rfl rfl zrs ?_
    refine Ox.pure rfl rfl zbc ?_
    refine Ox.fin ?_
    refine zcf ?_
    refine zsk ?_
    refine ztx ?_
    refine Ox.pure rfl rfl zfa ?_
    refine Ox.val rfl rfl zrs ?_
    refine Ox.pure rfl rfl zfa ?_
    refine Ox.val rfl rfl zrs ?_
    refine Ox.pure rfl rfl zbc ?_
    refine Ox.fin ?_
    refine zcf ?_
    refine zsk ?_
    refine ztx ?_
    refine Ox.pure rfl rfl zfa ?_
    refine Ox.val rfl rfl zrs ?_
    refine Ox.pure rfl rfl zfa ?_
    refine Ox.val rfl rfl zrs ?_
    refine Ox.pure rfl rfl zbc ?_
    refine Ox.pure rfl rfl zas ?_
    refine Ox.fin ?_
    refine zrt ?_
    exact endE_ret [_] ⟨rfl, trivial⟩ ⟨zxc, congrArg Value.bool (decide_eq_true (by unfold lessK; omega)).symm⟩
  · refine ztx ?_
    refine Ox.act rfl rfl (acts_box rfl rfl) ?_
    rintro vbx wbx ⟨ebx, bbx, rfl, hbbx, hBbx⟩
    first | (have hCbx : Cells wbx ⟨bbx, 0, none⟩ [_, _, _] := hBbx.cells) | have hCbx := Blk.cellsL hBbx
    have hlbx := hBbx.lt
    have hzbx := ebx.size
    refine Ox.act rfl rfl (acts_box rfl rfl) ?_
    rintro vby wby ⟨eby, bby, rfl, hbby, hBby⟩
    first | (have hCby : Cells wby ⟨bby, 0, none⟩ [_, _, _] := hBby.cells) | have hCby := Blk.cellsL hBby
    have hlby := hBby.lt
    have hzby := eby.size
    refine Ox.pure rfl rfl zas ?_
    refine Ox.fin ?_
    refine ztx ?_
    refine Ox.pure rfl rfl zfa ?_
    refine Ox.val rfl rfl zrs ?_
    refine Ox.pure rfl rfl zfa ?_
    refine Ox.val rfl rfl zrs ?_
    refine Ox.pure rfl rfl zbc ?_
    refine Ox.fin ?_
    refine zcf ?_
    refine zsk ?_
    refine ztx ?_
    refine Ox.pure rfl rfl zfa ?_
    refine Ox.val rfl rfl zrs ?_
    refine Ox.pure rfl rfl zfa ?_
    refine Ox.val rfl rfl zrs ?_
    refine Ox.pure rfl rfl zbc ?_
    refine Ox.fin ?_
    refine zcf ?_
    refine zsk ?_
    refine ztx ?_
    refine Ox.pure rfl rfl zfa ?_
    refine Ox.val rfl rfl zrs ?_
    refine Ox.pure rfl rfl zfa ?_
    refine Ox.val rfl rfl zrs ?_
    refine Ox.pure rfl rfl zbc ?_
    refine Ox.pure rfl rfl zas ?_
    refine Ox.fin ?_
    refine zrt ?_
    exact endE_ret [_] ⟨rfl, trivial⟩ ⟨zxc, congrArg Value.bool (decide_eq_false (by unfold lessK; omega)).symm⟩

/-! ## The keys of facts -/
/-- A key laid into the keys before it. -/
def insAt (out : List Ky) (k : Ky) (n : Nat) : List Ky := out.take n ++ k :: out.drop n
/-- Where it belongs. -/
def Place (out : List Ky) (k : Ky) (n : Nat) : Prop := n ≤ out.length ∧ (∀ j, (h : j < out.length) → j < n → lessK out[j] k) ∧ (∀ h : n < out.length, ¬ lessK out[n] k)
def placeOf (out : List Ky) (k : Ky) : Nat := (out.takeWhile fun x => decide (lessK x k)).length
theorem placeOf_eq : ∀ {out : List Ky} {k : Ky} {n : Nat}, Place out k n → placeOf out k = n
  | [], k, n, h => by have := h.1; simp at this; subst this; rfl
  | x :: l, k, n, h => by
    by_cases hx : lessK x k
    · cases n with
      | zero => exact absurd hx (h.2.2 (by simp))
      | succ n =>
        have := placeOf_eq (out := l) (k := k) (n := n) ⟨by have := h.1; simp at this; omega, fun j hj hn => h.2.1 (j + 1) (by simp; omega) (by omega), fun hn => h.2.2 (by simp; omega)⟩
        unfold placeOf at this ⊢
        rw [List.takeWhile_cons_of_pos (by simpa using hx), List.length_cons, this]
    · cases n with
      | zero => unfold placeOf; rw [List.takeWhile_cons_of_neg (by simpa using hx)]; rfl
      | succ n => exact absurd (h.2.1 0 (by simp) (by omega)) hx
def insK (out : List Ky) (k : Ky) : List Ky := if out[placeOf out k]? = some k then out else insAt out k (placeOf out k)
theorem insK_have {out : List Ky} {k : Ky} {n : Nat} (h : Place out k n) (hn : n < out.length) (he : out[n] = k) : insK out k = out := by
  unfold insK; rw [placeOf_eq h, if_pos (by rw [List.getElem?_eq_getElem hn, he])]
theorem insK_new {out : List Ky} {k : Ky} {n : Nat} (h : Place out k n) (hn : ∀ hn : n < out.length, out[n] ≠ k) : insK out k = insAt out k n := by
  unfold insK; rw [placeOf_eq h, if_neg]
  intro he
  obtain ⟨h1, h2⟩ := List.getElem?_eq_some_iff.1 he
  exact hn h1 h2
def keysL (l : List Fct) : List Ky := l.foldl (fun o f => insK o f.key) []
theorem insK_length (out : List Ky) (k : Ky) : (insK out k).length ≤ out.length + 1 := by
  unfold insK insAt
  split
  · omega
  · simp; omega
theorem keysL_take {l : List Fct} {i : Nat} (hi : i < l.length) : keysL (l.take (i + 1)) = insK (keysL (l.take i)) l[i].key := by
  unfold keysL
  rw [← List.take_append_getElem hi, List.foldl_append]; rfl
theorem keysL_le (l : List Fct) (i : Nat) : (keysL (l.take i)).length ≤ i := by
  induction i with
  | zero => simp [keysL]
  | succ i ih =>
    by_cases hi : i < l.length
    · rw [keysL_take hi]
      have := insK_length (keysL (l.take i)) l[i].key
      omega
    · rw [List.take_of_length_le (by omega)] at ih ⊢; omega
theorem keysL_length (l : List Fct) : (keysL l).length ≤ l.length := by
  have := keysL_le l l.length
  rwa [List.take_length] at this

abbrev OwnK (base : Nat) (w : World) (v : Value) (l : List Ky) : Prop := w.ownsRow base 38 3 v l.length (rowsV kc l)

theorem ref_Keys (l : List Fct) (p : Option Addr) (A : Addr) (c : Nat) (w : World) (hs : SlV fc w p A l c) (hl : l.length ≤ 1000000) :
    Calls Try.prog 73 #[.slice p l.length c] w (Ret fun r w' => Ext [] w w' ∧ OwnK w.heap.size w' r (keysL l)) := by
  have hp := hs.ptr
  have hrow := hs.row
  refine calls_of_Sx (args := [.slice p l.length c]) Try.func73 rfl rfl ?_
  refine ztx ?_
  refine Ox.pure rfl rfl zas ?_
  refine Ox.fin ?_
  refine ztx ?_
  refine Ox.act rfl rfl (acts_buildSlice (ps := []) rfl rfl rfl rfl rfl rfl rfl rfl) ?_
  rintro vb0 wb0 ⟨eb0, bb0, rfl, hbb0, hBb0⟩
  first | (have hCb0 : Cells wb0 ⟨bb0, 0, none⟩ [] := hBb0.cells) | have hCb0 := Blk.cellsL hBb0
  have hlb0 := hBb0.lt
  have hzb0 := eb0.size
  refine Ox.pure rfl rfl zas ?_
  refine Ox.fin ?_
  refine ztx ?_
  refine Ox.pure rfl rfl zas ?_
  refine Ox.fin ?_
  refine zbl ?_
  have ho0 : wb0.ownsRow w.heap.size 38 3 (.slice (some ⟨bb0, 0, none⟩) 0 0) 0 [] := own_built (size := 3) (len := 0) hBb0 (by omega) rfl (by decide)
  refine Sx.loop (ι := Nat × Value) (fun i E wr => E = [(0, .slice p l.length c), (3, i.2), (4, .int .i64 (i.1 : Int))] ∧ i.1 ≤ l.length ∧ Ext [] w wr ∧ OwnK w.heap.size wr i.2 (keysL (l.take i.1))) (fun i => l.length - i.1) (0, .slice (some ⟨bb0, 0, none⟩) 0 0)
    (sub_cons rfl (sub_cons rfl (sub_cons rfl sub_nil))) ⟨rfl, Nat.zero_le _, zxc, own_keep0 ho0 zxc⟩ ?_
  rintro ⟨i, v⟩ E wr ⟨rfl, hi, er, hown⟩
  dsimp only at hi hown ⊢
  have hz := er.size
  by_cases hlt : i < l.length
  · have hat := rowsV_at fc_len hlt
    have hl8 := fc_len l[i]
    have hkl := keysL_le l i
    have hks := keysL_take hlt
    generalize hK : keysL (l.take i) = K at *
    generalize hki : l[i].key = ki at *
    obtain ⟨q, kcap, B, rfl, hsK, hlK⟩ := SlV.of_own hown (by omega)
    have hqK := hsK.ptr
    have hrowK := hsK.row
    have hleK := hsK.le
    have hsmK := hsK.small
    have hLk : ∀ u, Ext [] wr u → Ld Try.prog u 38 (A.add (i * 8 + 0)) (.agg (kc ki).toArray) := fun u hu => by
      have := (hrow.ext0 (er.trans hu)).ldP (P := Try.prog) (t := 38) (m := 3) (cs' := kc ki) (i * 8) rfl rfl (by
        have h9 := congrArg (fun x => x.take 3) hat
        simp only [List.take_take] at h9
        rw [← hki]
        exact h9) rfl
      exact this
    have hD : ∀ n, n ≤ K.length → ∀ u, Ext [] wr u → Src Try.prog 3 48 (.slice (if kcap = n then q else q.map (·.add (n * 3))) (K.length - n) (kcap - n)) (K.length - n) (rowsV kc (K.drop n)) u := fun n hn u hu => by
      have := SlV.src (P := Try.prog) (enc := kc) (m := 3) (w := u) (tx := 48) (p := if kcap = n then q else q.map (·.add (n * 3))) (A := B.add (n * 3)) (l := K.drop n) (cap := kcap - n)
        ⟨fun h => by rw [List.length_drop] at h; rw [if_neg (by omega), hqK (by omega)]; rfl, by rw [← rowsV_drop kc_len]; exact (hrowK.ext0 hu).drop _, by rw [List.length_drop]; omega, by omega, by rw [List.length_drop]; omega⟩ rfl kc_len kc_one
      rwa [List.length_drop] at this
    refine ztx ?_
    refine Ox.pure rfl rfl zmv ?_
    refine Ox.pure rfl rfl zmv ?_
    refine Ox.pure rfl rfl (rp_lenS rfl rfl rfl) ?_
    refine Ox.pure rfl rfl zbc ?_
    refine Ox.fin ?_
    refine zct ?_
    refine zsk ?_
    refine zbl ?_
    refine ztx ?_
    refine Ox.pure rfl rfl zas ?_
    refine Ox.fin ?_
    refine Sx.seq (Sx.upto (fun E' w' => ∃ n : Nat, (∀ t u, get [(0, .slice p l.length c), (3, .slice q K.length kcap), (4, .int .i64 (i : Int)), (5, .int .i64 (n : Int))] t = some u → get E' t = some u) ∧ Place K ki n ∧ Ext [] wr w') ?_ ?_)
    · refine zbl ?_
      refine Sx.loop (ι := Nat) (fun n E wk => E = [(0, .slice p l.length c), (3, .slice q K.length kcap), (4, .int .i64 (i : Int)), (5, .int .i64 (n : Int))] ∧ n ≤ K.length ∧ (∀ j, (h : j < K.length) → j < n → lessK K[j] ki) ∧ Ext [] wr wk) (fun n => K.length - n) 0
        (sub_cons rfl (sub_cons rfl (sub_cons rfl (sub_cons rfl sub_nil)))) ⟨rfl, Nat.zero_le _, fun j _ h => by omega, zxc⟩ ?_
      rintro n E wk ⟨rfl, hn, hall, ek⟩
      by_cases hlt2 : n < K.length
      · have hatK := rowsV_at kc_len hlt2
        have hl3 := kc_len K[n]
        by_cases hless : lessK K[n] ki
        · have hdt := decide_eq_true hless
          (repeat refine Sx.seq ?_)
          refine Sx.walkR rfl (fun _ _ _ _ h => h) [0, 1, 2, 3, 4, 5, 6, 7, 8, 9, 10, 11, 12, 13, 14, 15] [0, 1, 2, 3, 4, 5, 6, 7, 8, 9, 10, 11, 12, 13, 15] (0) (by kernel_rfl) ?_
          intro hq w1 e1; have hz1 := e1.size
          refine Wx.pure hq rfl rfl rfl rfl zmv ?_
          refine Wx.pure hq rfl rfl rfl rfl zmv ?_
          refine Wx.pure hq rfl rfl rfl rfl (rp_lenS rfl rfl rfl) ?_
          refine Wx.pure hq rfl rfl rfl rfl zbc ?_
          refine Wx.pure hq rfl rfl rfl rfl zmv ?_
          first | (refine Wx.skip hq rfl rfl rfl rfl ?_) | (refine Wx.pure hq rfl rfl rfl rfl zmv ?_)
          first | (refine Wx.skip hq rfl rfl rfl rfl ?_) | (refine Wx.pure hq rfl rfl rfl rfl zmv ?_)
          first | (refine Wx.skip hq rfl rfl rfl rfl ?_) | (refine Wx.pure hq rfl rfl rfl rfl zix ?_)
          first | (refine Wx.skip hq rfl rfl rfl rfl ?_) | (refine Wx.val hq rfl rfl rfl rfl ([]) zra ?_)
          first | (refine Wx.skip hq rfl rfl rfl rfl ?_) | (refine Wx.pure hq rfl rfl rfl rfl zmv ?_)
          first | (refine Wx.skip hq rfl rfl rfl rfl ?_) | (refine Wx.pure hq rfl rfl rfl rfl zmv ?_)
          first | (refine Wx.skip hq rfl rfl rfl rfl ?_) | (refine Wx.pure hq rfl rfl rfl rfl zix ?_)
          first | (refine Wx.skip hq rfl rfl rfl rfl ?_) | (refine Wx.pure hq rfl rfl rfl rfl zfa ?_)
          first | (refine Wx.skip hq rfl rfl rfl rfl ?_) | (refine Wx.val hq rfl rfl rfl rfl ([]) (rv_load rfl rfl (fun u hu => hLk u zxc)) ?_)
          first | (refine Wx.actSkip rfl rfl rfl rfl ?_) | (refine Wx.actNew rfl rfl rfl rfl (acts_call rfl rfl rfl (ref_LessKey K[n] ki _)) ?_; rintro v2 w2 e2 rfl; have hz2 := e2.size; rw [decide_eq_true hless])
          refine Wx.pure hq rfl rfl rfl rfl zpk ?_
          refine Wx.fin ?_
          refine zct ?_
          refine zsk ?_
          refine zbl ?_
          refine ztx ?_
          refine Ox.pure rfl rfl zmv ?_
          refine Ox.pure rfl rfl zba ?_
          refine Ox.pure rfl rfl zas ?_
          refine Ox.fin ?_
          exact ⟨n + 1, _, sub_cons rfl (sub_cons rfl (sub_cons rfl (sub_cons rfl sub_nil))), ⟨rfl, hlt2, fun j h1 h2 => by
            rcases Nat.lt_or_ge j n with h3 | h3
            · exact hall j h1 h3
            · obtain rfl : j = n := by omega
              exact hless, zxc⟩, by omega⟩
        · 
          (repeat refine Sx.seq ?_)
          refine Sx.walkR rfl (fun _ _ _ _ h => h) [0, 1, 2, 3, 4, 5, 6, 7, 8, 9, 10, 11, 12, 13, 14, 15] [0, 1, 2, 3, 4, 5, 6, 7, 8, 9, 10, 11, 12, 13, 15] (0) (by kernel_rfl) ?_
          intro hq w3 e3; have hz3 := e3.size
          refine Wx.pure hq rfl rfl rfl rfl zmv ?_
          refine Wx.pure hq rfl rfl rfl rfl zmv ?_
          refine Wx.pure hq rfl rfl rfl rfl (rp_lenS rfl rfl rfl) ?_
          refine Wx.pure hq rfl rfl rfl rfl zbc ?_
          refine Wx.pure hq rfl rfl rfl rfl zmv ?_
          first | (refine Wx.skip hq rfl rfl rfl rfl ?_) | (refine Wx.pure hq rfl rfl rfl rfl zmv ?_)
          first | (refine Wx.skip hq rfl rfl rfl rfl ?_) | (refine Wx.pure hq rfl rfl rfl rfl zmv ?_)
          first | (refine Wx.skip hq rfl rfl rfl rfl ?_) | (refine Wx.pure hq rfl rfl rfl rfl zix ?_)
          first | (refine Wx.skip hq rfl rfl rfl rfl ?_) | (refine Wx.val hq rfl rfl rfl rfl ([]) zra ?_)
          first | (refine Wx.skip hq rfl rfl rfl rfl ?_) | (refine Wx.pure hq rfl rfl rfl rfl zmv ?_)
          first | (refine Wx.skip hq rfl rfl rfl rfl ?_) | (refine Wx.pure hq rfl rfl rfl rfl zmv ?_)
          first | (refine Wx.skip hq rfl rfl rfl rfl ?_) | (refine Wx.pure hq rfl rfl rfl rfl zix ?_)
          first | (refine Wx.skip hq rfl rfl rfl rfl ?_) | (refine Wx.pure hq rfl rfl rfl rfl zfa ?_)
          first | (refine Wx.skip hq rfl rfl rfl rfl ?_) | (refine Wx.val hq rfl rfl rfl rfl ([]) (rv_load rfl rfl (fun u hu => hLk u zxc)) ?_)
          first | (refine Wx.actSkip rfl rfl rfl rfl ?_) | (refine Wx.actNew rfl rfl rfl rfl (acts_call rfl rfl rfl (ref_LessKey K[n] ki _)) ?_; rintro v4 w4 e4 rfl; have hz4 := e4.size; rw [decide_eq_false hless])
          refine Wx.pure hq rfl rfl rfl rfl zpk ?_
          refine Wx.fin ?_
          refine zcf ?_
          refine zex ?_
          exact ⟨n, sub_cons rfl (sub_cons rfl (sub_cons rfl (sub_cons rfl sub_nil))), ⟨hn, hall, fun _ => hless⟩, zxc⟩
      · (repeat refine Sx.seq ?_)
        refine Sx.walkR rfl (fun _ _ _ _ h => h) [0, 1, 2, 3, 4, 5, 6, 7, 8, 9, 10, 11, 12, 13, 14, 15] [0, 1, 2, 3, 4, 5, 6, 7, 8, 9, 10, 11, 12, 13, 15] (0) (by kernel_rfl) ?_
        intro hq w5 e5; have hz5 := e5.size
        refine Wx.pure hq rfl rfl rfl rfl zmv ?_
        refine Wx.pure hq rfl rfl rfl rfl zmv ?_
        refine Wx.pure hq rfl rfl rfl rfl (rp_lenS rfl rfl rfl) ?_
        refine Wx.pure hq rfl rfl rfl rfl zbc ?_
        refine Wx.pure hq rfl rfl rfl rfl zmv ?_
        first | (refine Wx.skip hq rfl rfl rfl rfl ?_) | (refine Wx.pure hq rfl rfl rfl rfl zmv ?_)
        first | (refine Wx.skip hq rfl rfl rfl rfl ?_) | (refine Wx.pure hq rfl rfl rfl rfl zmv ?_)
        first | (refine Wx.skip hq rfl rfl rfl rfl ?_) | (refine Wx.pure hq rfl rfl rfl rfl zix ?_)
        first | (refine Wx.skip hq rfl rfl rfl rfl ?_) | (refine Wx.val hq rfl rfl rfl rfl ([]) zra ?_)
        first | (refine Wx.skip hq rfl rfl rfl rfl ?_) | (refine Wx.pure hq rfl rfl rfl rfl zmv ?_)
        first | (refine Wx.skip hq rfl rfl rfl rfl ?_) | (refine Wx.pure hq rfl rfl rfl rfl zmv ?_)
        first | (refine Wx.skip hq rfl rfl rfl rfl ?_) | (refine Wx.pure hq rfl rfl rfl rfl zix ?_)
        first | (refine Wx.skip hq rfl rfl rfl rfl ?_) | (refine Wx.pure hq rfl rfl rfl rfl zfa ?_)
        first | (refine Wx.skip hq rfl rfl rfl rfl ?_) | (refine Wx.val hq rfl rfl rfl rfl ([]) (rv_load rfl rfl (fun u hu => hLk u zxc)) ?_)
        first | (refine Wx.actSkip rfl rfl rfl rfl ?_) | (refine Wx.actNew rfl rfl rfl rfl (acts_call rfl rfl rfl (ref_LessKey K[n] ki _)) ?_; rintro v6 w6 e6 rfl; have hz6 := e6.size; rw [decide_eq_false hless])
        refine Wx.pure hq rfl rfl rfl rfl zpk ?_
        refine Wx.fin ?_
        refine zcf ?_
        refine zex ?_
        exact ⟨n, sub_cons rfl (sub_cons rfl (sub_cons rfl (sub_cons rfl sub_nil))), ⟨hn, hall, fun h => absurd h hlt2⟩, zxc⟩
    · rintro E' wn ⟨n, hsub, hpl, en⟩
      refine thenE_normal (Sx.weaken ?_ hsub)
      have hn := hpl.1
      have hzn := en.size
      have hKt : ∀ u, Ext [] wr u → Cells u (B.add 0) (rowsV kc (K.take n)) := fun u hu => by rw [addr_add0]; have := (hrowK.ext0 hu).take (n * 3); rwa [rowsV_take kc_len] at this
      have hfin : ∀ v u, u.ownsRow w.heap.size 38 3 v (n - 0 + (ki :: K.drop n).length) (rowsV kc (K.take n) ++ rowsV kc (ki :: K.drop n)) → OwnK w.heap.size u v (insAt K ki n) := fun v u h => by
        rw [← rowsV_append] at h
        unfold OwnK insAt
        rw [show (K.take n ++ ki :: K.drop n).length = n - 0 + (ki :: K.drop n).length by rw [List.length_append, List.length_take, Nat.min_eq_left hn]; rfl]
        exact h
      rcases Nat.lt_or_ge n K.length with hlt2 | hge
      · have hatK := rowsV_at kc_len hlt2
        have hl3 := kc_len K[n]
        by_cases he : K[n] = ki
        · (repeat refine Sx.seq ?_)
          refine Sx.walkR rfl (fun _ _ _ _ h => h) [0, 1, 2, 3, 4, 5, 6, 7, 8, 9, 10, 11, 12, 13, 14, 15] [0, 1, 2, 3, 4, 5, 6, 7, 8, 9, 10, 11, 12, 13, 14, 15] (0) (by kernel_rfl) ?_
          intro hq w7 e7; have hz7 := e7.size
          refine Wx.pure hq rfl rfl rfl rfl zmv ?_
          refine Wx.pure hq rfl rfl rfl rfl zmv ?_
          refine Wx.pure hq rfl rfl rfl rfl (rp_lenS rfl rfl rfl) ?_
          refine Wx.pure hq rfl rfl rfl rfl zbc ?_
          refine Wx.pure hq rfl rfl rfl rfl zmv ?_
          first | (refine Wx.skip hq rfl rfl rfl rfl ?_) | (refine Wx.pure hq rfl rfl rfl rfl zmv ?_)
          first | (refine Wx.skip hq rfl rfl rfl rfl ?_) | (refine Wx.pure hq rfl rfl rfl rfl zmv ?_)
          first | (refine Wx.skip hq rfl rfl rfl rfl ?_) | (refine Wx.pure hq rfl rfl rfl rfl zix ?_)
          first | (refine Wx.skip hq rfl rfl rfl rfl ?_) | (refine Wx.val hq rfl rfl rfl rfl ([]) zra ?_)
          first | (refine Wx.skip hq rfl rfl rfl rfl ?_) | (refine Wx.pure hq rfl rfl rfl rfl zmv ?_)
          first | (refine Wx.skip hq rfl rfl rfl rfl ?_) | (refine Wx.pure hq rfl rfl rfl rfl zmv ?_)
          first | (refine Wx.skip hq rfl rfl rfl rfl ?_) | (refine Wx.pure hq rfl rfl rfl rfl zix ?_)
          first | (refine Wx.skip hq rfl rfl rfl rfl ?_) | (refine Wx.pure hq rfl rfl rfl rfl zfa ?_)
          first | (refine Wx.skip hq rfl rfl rfl rfl ?_) | (refine Wx.val hq rfl rfl rfl rfl ([]) (rv_load rfl rfl (fun u hu => hLk u zxc)) ?_)
          first | (refine Wx.skip hq rfl rfl rfl rfl ?_) | (refine Wx.pure hq rfl rfl rfl rfl (by first | exact rp_eqA_t rfl egKy rfl rfl (eqKy K[n] ki) (by assumption) | exact rp_eqA_f rfl egKy rfl rfl (eqKy K[n] ki) (by assumption)) ?_)
          refine Wx.pure hq rfl rfl rfl rfl zpk ?_
          refine Wx.fin ?_
          refine zct ?_
          refine zex ?_
          refine ztx ?_
          refine Ox.pure rfl rfl zmv ?_
          refine Ox.pure rfl rfl zba ?_
          refine Ox.pure rfl rfl zas ?_
          refine Ox.fin ?_
          exact ⟨(i + 1, .slice q K.length kcap), _, sub_cons rfl (sub_cons rfl (sub_cons rfl sub_nil)), ⟨rfl, hlt, zxc, by dsimp only; rw [hks, insK_have hpl hlt2 he]; exact own_keep0 hown zxc⟩, by dsimp only; omega⟩
        · (repeat refine Sx.seq ?_)
          refine Sx.walkR rfl (fun _ _ _ _ h => h) [0, 1, 2, 3, 4, 5, 6, 7, 8, 9, 10, 11, 12, 13, 14, 15] [0, 1, 2, 3, 4, 5, 6, 7, 8, 9, 10, 11, 12, 13, 14, 15] (0) (by kernel_rfl) ?_
          intro hq w8 e8; have hz8 := e8.size
          refine Wx.pure hq rfl rfl rfl rfl zmv ?_
          refine Wx.pure hq rfl rfl rfl rfl zmv ?_
          refine Wx.pure hq rfl rfl rfl rfl (rp_lenS rfl rfl rfl) ?_
          refine Wx.pure hq rfl rfl rfl rfl zbc ?_
          refine Wx.pure hq rfl rfl rfl rfl zmv ?_
          first | (refine Wx.skip hq rfl rfl rfl rfl ?_) | (refine Wx.pure hq rfl rfl rfl rfl zmv ?_)
          first | (refine Wx.skip hq rfl rfl rfl rfl ?_) | (refine Wx.pure hq rfl rfl rfl rfl zmv ?_)
          first | (refine Wx.skip hq rfl rfl rfl rfl ?_) | (refine Wx.pure hq rfl rfl rfl rfl zix ?_)
          first | (refine Wx.skip hq rfl rfl rfl rfl ?_) | (refine Wx.val hq rfl rfl rfl rfl ([]) zra ?_)
          first | (refine Wx.skip hq rfl rfl rfl rfl ?_) | (refine Wx.pure hq rfl rfl rfl rfl zmv ?_)
          first | (refine Wx.skip hq rfl rfl rfl rfl ?_) | (refine Wx.pure hq rfl rfl rfl rfl zmv ?_)
          first | (refine Wx.skip hq rfl rfl rfl rfl ?_) | (refine Wx.pure hq rfl rfl rfl rfl zix ?_)
          first | (refine Wx.skip hq rfl rfl rfl rfl ?_) | (refine Wx.pure hq rfl rfl rfl rfl zfa ?_)
          first | (refine Wx.skip hq rfl rfl rfl rfl ?_) | (refine Wx.val hq rfl rfl rfl rfl ([]) (rv_load rfl rfl (fun u hu => hLk u zxc)) ?_)
          first | (refine Wx.skip hq rfl rfl rfl rfl ?_) | (refine Wx.pure hq rfl rfl rfl rfl (by first | exact rp_eqA_t rfl egKy rfl rfl (eqKy K[n] ki) (by assumption) | exact rp_eqA_f rfl egKy rfl rfl (eqKy K[n] ki) (by assumption)) ?_)
          refine Wx.pure hq rfl rfl rfl rfl zpk ?_
          refine Wx.fin ?_
          refine zcf ?_
          refine zsk ?_
          (repeat refine Sx.seq ?_)
          refine Sx.walkR rfl (fun _ _ _ _ h => h) [0, 1, 2, 3, 4, 6, 7, 8, 5, 9, 10] [0, 1, 2, 3, 4, 6, 7, 8, 10] (0) (by kernel_rfl) ?_
          intro hq w9 e9; have hz9 := e9.size
          refine Wx.pure hq rfl rfl rfl rfl zmv ?_
          refine Wx.pure hq rfl rfl rfl rfl zmv ?_
          refine Wx.pure hq rfl rfl rfl rfl zix ?_
          refine Wx.pure hq rfl rfl rfl rfl zfa ?_
          refine Wx.val hq rfl rfl rfl rfl ([]) (rv_load rfl rfl (fun u hu => hLk u zxc)) ?_
          refine Wx.pure hq rfl rfl rfl rfl zmv ?_
          refine Wx.pure hq rfl rfl rfl rfl zmv ?_
          refine Wx.pure hq rfl rfl rfl rfl (rp_sliceS n K.length rfl rfl rfl rfl rfl rfl (.inr ⟨_, rfl⟩) (.inl ⟨rfl, rfl⟩) hn hleK) ?_
          refine Wx.actNew rfl rfl rfl rfl (acts_buildSlice (ps := [(0, .tmp 52)]) rfl rfl rfl rfl rfl rfl rfl rfl) ?_
          rintro vbs wbs ebs ⟨bbs, rfl, hbbs, hBbs⟩
          first | (have hCbs : Cells wbs ⟨bbs, 0, none⟩ [_, _, _] := hBbs.cells) | have hCbs := Blk.cellsL hBbs
          have hlbs := hBbs.lt
          have hzbs := ebs.size
          refine Wx.actLast rfl rfl rfl rfl (by kernel_rfl) (acts_append (e := 38) (size := 3) (bytes := 24) rfl rfl rfl rfl (own_keep0 (show wbs.ownsRow wr.heap.size 38 3 (.slice (some ⟨bbs, 0, none⟩) 1 1) 1 (rowsV kc [ki]) from own_built (size := 3) (len := 1) hBbs (by omega) rfl (by decide)) zxc) (hD n hn _ zxc) (by first | omega | (dsimp only; omega)) (by first | omega | (dsimp only; omega)) (by omega)) ?_
          rintro va1 wa1 hga1
          have ea1 : Ext [] wr wa1 := hga1.ext0 zxc (fun g hg => by simp [Value.ownBlock] at hg; omega)
          have hza1 := ea1.size
          have ho1 : wa1.ownsRow wr.heap.size 38 3 va1 (ki :: K.drop n).length (rowsV kc (ki :: K.drop n)) := by have h9 := hga1.own; rw [← rowsV_append] at h9; rw [show (ki :: K.drop n).length = 1 + (K.length - n) by simp; omega]; exact h9
          obtain ⟨p1, k1, A1, rfl, hsr2, hlr2⟩ := SlV.of_own ho1 (by simp; omega)
          refine Wx.pure hq rfl rfl rfl rfl zas ?_
          refine Wx.fin ?_
          refine ztx ?_
          refine Ox.pure rfl rfl zmv ?_
          refine Ox.pure rfl rfl zmv ?_
          refine Ox.pure rfl rfl zmv ?_
          refine Ox.pure rfl rfl (rp_slice3 0 n n rfl rfl rfl rfl rfl rfl rfl (.inl ⟨rfl, rfl⟩) ⟨_, rfl⟩ ⟨_, rfl⟩ (by omega) (by omega) (by omega)) ?_
          refine Ox.pure rfl rfl zmv ?_
          refine Ox.act rfl rfl (acts_append_full (e := 38) (size := 3) (bytes := 24) (A := B.add 0) (xs := rowsV kc (K.take n)) rfl rfl rfl rfl (fun h0 => by rw [if_neg (by omega), hqK (by omega)]; rfl) (by rw [rowsV_length kc_len, List.length_take, Nat.min_eq_left hn]; rfl) (hKt _ zxc) (hsr2.src rfl kc_len kc_one) (by simp) (by simp; omega) (by simp; omega) w.heap.size (by omega)) ?_
          rintro va2 wa2 ⟨howna2, ea2⟩
          refine Ox.pure rfl rfl zas ?_
          refine Ox.fin ?_
          refine ztx ?_
          refine Ox.pure rfl rfl zmv ?_
          refine Ox.pure rfl rfl zba ?_
          refine Ox.pure rfl rfl zas ?_
          refine Ox.fin ?_
          exact ⟨(i + 1, va2), _, sub_cons rfl (sub_cons rfl (sub_cons rfl sub_nil)), ⟨rfl, hlt, zxc, by dsimp only; rw [hks, insK_new hpl (fun _ => he)]; exact own_keep0 (hfin _ _ howna2) zxc⟩, by dsimp only; omega⟩
      · (repeat refine Sx.seq ?_)
        refine Sx.walkR rfl (fun _ _ _ _ h => h) [0, 1, 2, 3, 4, 5, 6, 7, 8, 9, 10, 11, 12, 13, 14, 15] [0, 1, 2, 3, 4, 5, 6, 7, 8, 9, 10, 11, 12, 13, 14, 15] (0) (by kernel_rfl) ?_
        intro hq w10 e10; have hz10 := e10.size
        refine Wx.pure hq rfl rfl rfl rfl zmv ?_
        refine Wx.pure hq rfl rfl rfl rfl zmv ?_
        refine Wx.pure hq rfl rfl rfl rfl (rp_lenS rfl rfl rfl) ?_
        refine Wx.pure hq rfl rfl rfl rfl zbc ?_
        refine Wx.pure hq rfl rfl rfl rfl zmv ?_
        first | (refine Wx.skip hq rfl rfl rfl rfl ?_) | (refine Wx.pure hq rfl rfl rfl rfl zmv ?_)
        first | (refine Wx.skip hq rfl rfl rfl rfl ?_) | (refine Wx.pure hq rfl rfl rfl rfl zmv ?_)
        first | (refine Wx.skip hq rfl rfl rfl rfl ?_) | (refine Wx.pure hq rfl rfl rfl rfl zix ?_)
        first | (refine Wx.skip hq rfl rfl rfl rfl ?_) | (refine Wx.val hq rfl rfl rfl rfl ([]) zra ?_)
        first | (refine Wx.skip hq rfl rfl rfl rfl ?_) | (refine Wx.pure hq rfl rfl rfl rfl zmv ?_)
        first | (refine Wx.skip hq rfl rfl rfl rfl ?_) | (refine Wx.pure hq rfl rfl rfl rfl zmv ?_)
        first | (refine Wx.skip hq rfl rfl rfl rfl ?_) | (refine Wx.pure hq rfl rfl rfl rfl zix ?_)
        first | (refine Wx.skip hq rfl rfl rfl rfl ?_) | (refine Wx.pure hq rfl rfl rfl rfl zfa ?_)
        first | (refine Wx.skip hq rfl rfl rfl rfl ?_) | (refine Wx.val hq rfl rfl rfl rfl ([]) (rv_load rfl rfl (fun u hu => hLk u zxc)) ?_)
        first | (refine Wx.skip hq rfl rfl rfl rfl ?_) | (refine Wx.pure hq rfl rfl rfl rfl (by first | exact rp_eqA_t rfl egKy rfl rfl (eqKy K[n] ki) (by assumption) | exact rp_eqA_f rfl egKy rfl rfl (eqKy K[n] ki) (by assumption)) ?_)
        refine Wx.pure hq rfl rfl rfl rfl zpk ?_
        refine Wx.fin ?_
        refine zcf ?_
        refine zsk ?_
        (repeat refine Sx.seq ?_)
        refine Sx.walkR rfl (fun _ _ _ _ h => h) [0, 1, 2, 3, 4, 6, 7, 8, 5, 9, 10] [0, 1, 2, 3, 4, 6, 7, 8, 10] (0) (by kernel_rfl) ?_
        intro hq w11 e11; have hz11 := e11.size
        refine Wx.pure hq rfl rfl rfl rfl zmv ?_
        refine Wx.pure hq rfl rfl rfl rfl zmv ?_
        refine Wx.pure hq rfl rfl rfl rfl zix ?_
        refine Wx.pure hq rfl rfl rfl rfl zfa ?_
        refine Wx.val hq rfl rfl rfl rfl ([]) (rv_load rfl rfl (fun u hu => hLk u zxc)) ?_
        refine Wx.pure hq rfl rfl rfl rfl zmv ?_
        refine Wx.pure hq rfl rfl rfl rfl zmv ?_
        refine Wx.pure hq rfl rfl rfl rfl (rp_sliceS n K.length rfl rfl rfl rfl rfl rfl (.inr ⟨_, rfl⟩) (.inl ⟨rfl, rfl⟩) hn hleK) ?_
        refine Wx.actNew rfl rfl rfl rfl (acts_buildSlice (ps := [(0, .tmp 52)]) rfl rfl rfl rfl rfl rfl rfl rfl) ?_
        rintro vbs wbs ebs ⟨bbs, rfl, hbbs, hBbs⟩
        first | (have hCbs : Cells wbs ⟨bbs, 0, none⟩ [_, _, _] := hBbs.cells) | have hCbs := Blk.cellsL hBbs
        have hlbs := hBbs.lt
        have hzbs := ebs.size
        refine Wx.actLast rfl rfl rfl rfl (by kernel_rfl) (acts_append (e := 38) (size := 3) (bytes := 24) rfl rfl rfl rfl (own_keep0 (show wbs.ownsRow wr.heap.size 38 3 (.slice (some ⟨bbs, 0, none⟩) 1 1) 1 (rowsV kc [ki]) from own_built (size := 3) (len := 1) hBbs (by omega) rfl (by decide)) zxc) (hD n hn _ zxc) (by first | omega | (dsimp only; omega)) (by first | omega | (dsimp only; omega)) (by omega)) ?_
        rintro va1 wa1 hga1
        have ea1 : Ext [] wr wa1 := hga1.ext0 zxc (fun g hg => by simp [Value.ownBlock] at hg; omega)
        have hza1 := ea1.size
        have ho1 : wa1.ownsRow wr.heap.size 38 3 va1 (ki :: K.drop n).length (rowsV kc (ki :: K.drop n)) := by have h9 := hga1.own; rw [← rowsV_append] at h9; rw [show (ki :: K.drop n).length = 1 + (K.length - n) by simp; omega]; exact h9
        obtain ⟨p1, k1, A1, rfl, hsr2, hlr2⟩ := SlV.of_own ho1 (by simp; omega)
        refine Wx.pure hq rfl rfl rfl rfl zas ?_
        refine Wx.fin ?_
        refine ztx ?_
        refine Ox.pure rfl rfl zmv ?_
        refine Ox.pure rfl rfl zmv ?_
        refine Ox.pure rfl rfl zmv ?_
        refine Ox.pure rfl rfl (rp_slice3 0 n n rfl rfl rfl rfl rfl rfl rfl (.inl ⟨rfl, rfl⟩) ⟨_, rfl⟩ ⟨_, rfl⟩ (by omega) (by omega) (by omega)) ?_
        refine Ox.pure rfl rfl zmv ?_
        refine Ox.act rfl rfl (acts_append_full (e := 38) (size := 3) (bytes := 24) (A := B.add 0) (xs := rowsV kc (K.take n)) rfl rfl rfl rfl (fun h0 => by rw [if_neg (by omega), hqK (by omega)]; rfl) (by rw [rowsV_length kc_len, List.length_take, Nat.min_eq_left hn]; rfl) (hKt _ zxc) (hsr2.src rfl kc_len kc_one) (by simp) (by simp; omega) (by simp; omega) w.heap.size (by omega)) ?_
        rintro va2 wa2 ⟨howna2, ea2⟩
        refine Ox.pure rfl rfl zas ?_
        refine Ox.fin ?_
        refine ztx ?_
        refine Ox.pure rfl rfl zmv ?_
        refine Ox.pure rfl rfl zba ?_
        refine Ox.pure rfl rfl zas ?_
        refine Ox.fin ?_
        exact ⟨(i + 1, va2), _, sub_cons rfl (sub_cons rfl (sub_cons rfl sub_nil)), ⟨rfl, hlt, zxc, by dsimp only; rw [hks, insK_new hpl (fun h => by omega)]; exact own_keep0 (hfin _ _ howna2) zxc⟩, by dsimp only; omega⟩
  · rw [List.take_of_length_le (by omega)] at hown
    refine ztx ?_
    refine Ox.pure rfl rfl zmv ?_
    refine Ox.pure rfl rfl zmv ?_
    refine Ox.pure rfl rfl (rp_lenS rfl rfl rfl) ?_
    refine Ox.pure rfl rfl zbc ?_
    refine Ox.fin ?_
    refine zcf ?_
    refine zex ?_
    refine ztx ?_
    refine Ox.pure rfl rfl zmv ?_
    refine Ox.pure rfl rfl zas ?_
    refine Ox.fin ?_
    refine zrt ?_
    exact endE_ret [_] ⟨rfl, trivial⟩ ⟨zxc, own_keep0 hown zxc⟩

end Go.Proofs.Ytfgckcochilpkaa

/- Plain: the keys of facts, sorted. No program in sight. -/
set_option linter.unusedVariables false
set_option linter.unusedSimpArgs false
namespace Go.Proofs.Ytfgckcochilpkaa
open Go Go.Eng

theorem insK_cons (x : Ky) (l : List Ky) (k : Ky) : insK (x :: l) k = if lessK x k then x :: insK l k else if x = k then x :: l else k :: x :: l := by
  by_cases h : lessK x k
  · have hp : placeOf (x :: l) k = placeOf l k + 1 := by
      unfold placeOf; rw [List.takeWhile_cons_of_pos (by simpa using h)]; rfl
    rw [if_pos h]
    unfold insK insAt
    rw [hp, List.getElem?_cons_succ]
    split
    · rfl
    · simp
  · have hp : placeOf (x :: l) k = 0 := by
      unfold placeOf; rw [List.takeWhile_cons_of_neg (by simpa using h)]; rfl
    rw [if_neg h]
    unfold insK insAt
    rw [hp]
    by_cases he : x = k
    · simp [he]
    · simp [he]
theorem mem_insK {y : Ky} : ∀ {l : List Ky} {k : Ky}, y ∈ insK l k ↔ y = k ∨ y ∈ l
  | [], k => by simp [insK, insAt, placeOf]
  | x :: l, k => by
    rw [insK_cons]
    split
    · rw [List.mem_cons, mem_insK (l := l), List.mem_cons]
      constructor
      · rintro (h | h | h)
        · exact .inr (.inl h)
        · exact .inl h
        · exact .inr (.inr h)
      · rintro (h | h | h)
        · exact .inr (.inl h)
        · exact .inl h
        · exact .inr (.inr h)
    · split
      · rename_i he
        subst he
        constructor
        · exact .inr
        · rintro (h | h)
          · simp [h]
          · exact h
      · rw [List.mem_cons]
theorem insK_sorted : ∀ {l : List Ky} {k : Ky}, l.Pairwise lessK → (insK l k).Pairwise lessK
  | [], k, _ => by simp [insK, insAt, placeOf]
  | x :: l, k, h => by
    obtain ⟨h1, h2⟩ := List.pairwise_cons.1 h
    rw [insK_cons]
    split
    · rename_i hx
      refine List.pairwise_cons.2 ⟨fun y hy => ?_, insK_sorted h2⟩
      rcases mem_insK.1 hy with rfl | hy
      · exact hx
      · exact h1 y hy
    · split
      · exact h
      · rename_i hx he
        have hkx := lessK_total hx he
        refine List.pairwise_cons.2 ⟨fun y hy => ?_, h⟩
        rcases List.mem_cons.1 hy with rfl | hy
        · exact hkx
        · exact lessK_trans hkx (h1 y hy)
theorem keysL_spec (l : List Fct) : (keysL l).Pairwise lessK ∧ ∀ k, k ∈ keysL l ↔ ∃ f ∈ l, f.key = k := by
  have key : ∀ (m : List Fct) (o : List Ky), o.Pairwise lessK → (m.foldl (fun o f => insK o f.key) o).Pairwise lessK ∧ ∀ k, k ∈ m.foldl (fun o f => insK o f.key) o ↔ k ∈ o ∨ ∃ f ∈ m, f.key = k := by
    intro m
    induction m with
    | nil => intro o ho; exact ⟨ho, fun k => by simp⟩
    | cons f m ih =>
      intro o ho
      obtain ⟨h1, h2⟩ := ih (insK o f.key) (insK_sorted ho)
      refine ⟨h1, fun k => ?_⟩
      rw [List.foldl_cons, h2, mem_insK]
      constructor
      · rintro ((h | h) | ⟨g, h3, h4⟩)
        · exact .inr ⟨f, by simp, h.symm⟩
        · exact .inl h
        · exact .inr ⟨g, by simp [h3], h4⟩
      · rintro (h | ⟨g, h3, h4⟩)
        · exact .inl (.inr h)
        · rcases List.mem_cons.1 h3 with rfl | h3
          · exact .inl (.inl h4.symm)
          · exact .inr ⟨g, h3, h4⟩
  obtain ⟨h1, h2⟩ := key l [] List.Pairwise.nil
  exact ⟨h1, fun k => by rw [show keysL l = l.foldl (fun o f => insK o f.key) [] from rfl, h2]; simp⟩

theorem sorted_nodup {l : List Ky} (h : l.Pairwise lessK) : l.Nodup := h.imp fun h e => by subst e; exact lessK_irrefl _ h
theorem sorted_unique {a b : List Ky} (ha : a.Pairwise lessK) (hb : b.Pairwise lessK) (h : ∀ k, k ∈ a ↔ k ∈ b) : a = b := by
  have hp : a.Perm b := (List.perm_ext_iff_of_nodup (sorted_nodup ha) (sorted_nodup hb)).2 h
  exact hp.eq_of_pairwise (le := lessK) (fun x y _ _ h1 h2 => absurd (lessK_trans h1 h2) (lessK_irrefl x)) ha hb

/-- The map of the keys. -/
def keyM (l : List Fct) : List (Ky × Unit) := l.foldl (fun m f => putL m f.key ()) []
theorem keyM_take {l : List Fct} {i : Nat} (hi : i < l.length) : keyM (l.take (i + 1)) = putL (keyM (l.take i)) l[i].key () := by
  unfold keyM
  rw [← List.take_append_getElem hi, List.foldl_append]; rfl
theorem putL_fst (m : List (Ky × Unit)) (k : Ky) : (putL m k ()).map Prod.fst = if k ∈ m.map Prod.fst then m.map Prod.fst else m.map Prod.fst ++ [k] := by
  unfold putL
  cases h : Eng.look m k with
  | none =>
    have h1 := look_none.1 h
    rw [if_neg (fun hm => by obtain ⟨x, hx, rfl⟩ := List.mem_map.1 hm; exact h1 x hx rfl)]
    simp
  | some r =>
    obtain ⟨h1, h2⟩ := look_some h
    rw [if_pos (List.mem_map.2 ⟨m[r.1], List.getElem_mem h1, by rw [h2]⟩)]
    show (m.set r.1 (k, ())).map Prod.fst = _
    have : (k, ()) = m[r.1] := by rw [h2]
    rw [this, List.set_getElem_self]
theorem keyM_spec (l : List Fct) : ((keyM l).map Prod.fst).Nodup ∧ ∀ k, k ∈ (keyM l).map Prod.fst ↔ ∃ f ∈ l, f.key = k := by
  have key : ∀ (m : List Fct) (o : List (Ky × Unit)), (o.map Prod.fst).Nodup → ((m.foldl (fun o f => putL o f.key ()) o).map Prod.fst).Nodup ∧ ∀ k, k ∈ (m.foldl (fun o f => putL o f.key ()) o).map Prod.fst ↔ k ∈ o.map Prod.fst ∨ ∃ f ∈ m, f.key = k := by
    intro m
    induction m with
    | nil => intro o ho; exact ⟨ho, fun k => by simp⟩
    | cons f m ih =>
      intro o ho
      have hn : ((putL o f.key ()).map Prod.fst).Nodup := by
        rw [putL_fst]
        split
        · exact ho
        · rename_i hm
          rw [List.nodup_append]
          exact ⟨ho, by simp, fun a ha c hc => by simp only [List.mem_singleton] at hc; subst hc; rintro rfl; exact hm ha⟩
      obtain ⟨h1, h2⟩ := ih (putL o f.key ()) hn
      refine ⟨h1, fun k => ?_⟩
      rw [List.foldl_cons, h2, putL_fst]
      have hmem : k ∈ (if f.key ∈ o.map Prod.fst then o.map Prod.fst else o.map Prod.fst ++ [f.key]) ↔ k ∈ o.map Prod.fst ∨ f.key = k := by
        split
        · rename_i hm
          constructor
          · exact .inl
          · rintro (h | h)
            · exact h
            · exact h ▸ hm
        · rw [List.mem_append, List.mem_singleton]
          constructor
          · rintro (h | h)
            · exact .inl h
            · exact .inr h.symm
          · rintro (h | h)
            · exact .inl h
            · exact .inr h.symm
      rw [hmem]
      constructor
      · rintro ((h | h) | ⟨g, h3, h4⟩)
        · exact .inl h
        · exact .inr ⟨f, by simp, h⟩
        · exact .inr ⟨g, by simp [h3], h4⟩
      · rintro (h | ⟨g, h3, h4⟩)
        · exact .inl (.inl h)
        · rcases List.mem_cons.1 h3 with rfl | h3
          · exact .inl (.inr h4)
          · exact .inr ⟨g, h3, h4⟩
  obtain ⟨h1, h2⟩ := key l [] (by simp)
  exact ⟨h1, fun k => by rw [show keyM l = l.foldl (fun o f => putL o f.key ()) [] from rfl, h2]; simp⟩
theorem keyM_set (l : List Fct) : keyM l = ((keyM l).map Prod.fst).map fun k => (k, ()) := by
  rw [List.map_map]
  conv => lhs; rw [← List.map_id (keyM l)]
  exact List.map_congr_left fun x _ => by cases x; rfl
theorem keys_sorted {l : List Fct} {ks : List Ky} (hp : ks.Perm ((keyM l).map Prod.fst)) (hs : ks.Pairwise (fun a b => ¬ lessK b a)) : ks = keysL l := by
  obtain ⟨h1, h2⟩ := keyM_spec l
  obtain ⟨h3, h4⟩ := keysL_spec l
  have hn : ks.Nodup := hp.nodup_iff.2 h1
  refine sorted_unique ?_ h3 fun k => ?_
  · refine (hs.and hn).imp fun ⟨h5, h6⟩ => ?_
    exact lessK_total h5 (Ne.symm h6)
  · rw [hp.mem_iff, h2, h4]
theorem keyM_length (l : List Fct) : ((keyM l).map Prod.fst).length ≤ l.length := by
  have key : ∀ (m : List Fct) (o : List (Ky × Unit)), ((m.foldl (fun o f => putL o f.key ()) o).map Prod.fst).length ≤ o.length + m.length := by
    intro m
    induction m with
    | nil => intro o; simp
    | cons f m ih =>
      intro o
      have h1 := ih (putL o f.key ())
      have h2 : (putL o f.key ()).length ≤ o.length + 1 := by
        unfold putL; split <;> simp
      rw [List.foldl_cons]
      simp only [List.length_cons]
      omega
  have := key l []
  simp only [List.length_nil, Nat.zero_add] at this
  exact this

end Go.Proofs.Ytfgckcochilpkaa

/- The facts' walks: what differs. -/
set_option linter.unusedVariables false
set_option maxRecDepth 100000
set_option maxHeartbeats 4000000
set_option linter.unusedSimpArgs false
namespace Go.Proofs.Ytfgckcochilpkaa
open Go Go.Eng

def diffL (l : List Fct) (k : Ky) (bef aft : Int) (day : Int) : Prop := atL l k day bef ≠ atL l k day aft
instance (l : List Fct) (k : Ky) (bef aft day : Int) : Decidable (diffL l k bef aft day) := inferInstanceAs (Decidable (¬ (_ = _)))

/-! ## Differences as they lie -/
structure Df where
  key : Ky
  days : List Pt
  p : Option Addr
  c : Nat
abbrev dfc (d : Df) : List Value := [.int .i64 d.key.k, .int .i64 d.key.s, .int .i64 d.key.o, .slice d.p d.days.length d.c]
theorem dfc_len (d : Df) : (dfc d).length = 4 := rfl
theorem dfc_one (d : Df) : ∀ u ∈ dfc d, u.oneCell' = true := by simp [dfc, Value.oneCell']
abbrev Dv := Ky × List Pt
def Df.val (d : Df) : Dv := (d.key, d.days)
def DfIn (w : World) (l : List Df) : Prop := ∀ d ∈ l, ∃ A, SlV pc w d.p A d.days d.c
theorem DfIn.ext0 {w w' : World} {l : List Df} (h : DfIn w l) (he : Ext [] w w') : DfIn w' l := fun d hd => (h d hd).imp fun _ hs => hs.ext0 he

theorem ld_sub {α : Type} {enc : α → List Value} {m : Nat} (h : ∀ a, (enc a).length = m) {P : Program} {w : World} {t : TypeId} {A : Addr} {l : List α} (hc : Cells w A (rowsV enc l)) {i : Nat} (hi : i < l.length) (off : Nat) {sub : List Value} (ht : aggOf P t = some true) (hm : szOf P t = some sub.length) (ho : off + sub.length ≤ m) (hv : ((enc l[i]).drop off).take sub.length = sub) : Ld P w t (A.add (i * m + off)) (.agg sub.toArray) := by
  refine hc.ldP (i * m + off) ht hm ?_ rfl
  have := rowsV_at h hi
  rw [← this] at hv
  rw [List.drop_take, List.drop_drop, List.take_take, Nat.min_eq_left (by omega)] at hv
  exact hv

theorem eqSp (a b : Pt) (w : World) : (Op.equalIn (9999 + 1) 40 (.agg (pc a).toArray) (.agg (pc b).toArray)).run Try.prog w = .ok (decide (a = b)) w := by
  rw [eqs rfl (by kernel_rfl) (eqf_int (by decide) rfl rfl rfl rfl (eqf_int (by decide) rfl rfl rfl rfl (eqf_nil _ _ _ _)))]
  obtain ⟨a1, a2⟩ := a
  obtain ⟨b1, b2⟩ := b
  simp [Bool.decide_and]
theorem egSp : Try.prog.eqGuardType Try.prog.depth 40 = false := by kernel_rfl

theorem map_take_step {α β : Type} {f : α → β} {l m : List α} {i : Nat} (h1 : i < l.length) (h2 : i < m.length) (h : (l.take i).map f = (m.take i).map f) (he : f l[i] = f m[i]) : (l.take (i + 1)).map f = (m.take (i + 1)).map f := by
  rw [← List.take_append_getElem h1, ← List.take_append_getElem h2, List.map_append, List.map_append, h]
  simp [he]
theorem map_ne_at {α β : Type} {f : α → β} {l m : List α} {i : Nat} (h1 : i < l.length) (h2 : i < m.length) (he : f l[i] ≠ f m[i]) : l.map f ≠ m.map f := fun h => he (by
  have := congrArg (fun x => x[i]?) h
  simpa [h1, h2] using this)

end Go.Proofs.Ytfgckcochilpkaa

/- The facts' walks: what has changed, by the reference. -/
set_option linter.unusedVariables false
set_option maxRecDepth 100000
set_option maxHeartbeats 4000000
set_option linter.unusedSimpArgs false
namespace Go.Proofs.Ytfgckcochilpkaa
open Go Go.Eng

/-! ## Days that are joined -/
def dayAdd (days : List Pt) (j : Nat) : List Pt :=
  if h : 0 < days.length then
    if (days[days.length - 1]'(by omega)).2 = (j : Int) then days.set (days.length - 1) ((days[days.length - 1]'(by omega)).1, (j : Int) + 1) else days ++ [((j : Int), (j : Int) + 1)]
  else days ++ [((j : Int), (j : Int) + 1)]
theorem dayAdd_join {days : List Pt} {j : Nat} (h : 0 < days.length) (he : (days[days.length - 1]'(by omega)).2 = (j : Int)) : dayAdd days j = days.set (days.length - 1) ((days[days.length - 1]'(by omega)).1, (j : Int) + 1) := by
  unfold dayAdd; rw [dif_pos h, if_pos he]
theorem dayAdd_new {days : List Pt} {j : Nat} (he : ∀ h : 0 < days.length, (days[days.length - 1]'(by omega)).2 ≠ (j : Int)) : dayAdd days j = days ++ [((j : Int), (j : Int) + 1)] := by
  unfold dayAdd
  by_cases h : 0 < days.length
  · rw [dif_pos h, if_neg (he h)]
  · rw [dif_neg h]
theorem dayAdd_length (days : List Pt) (j : Nat) : (dayAdd days j).length ≤ days.length + 1 := by
  unfold dayAdd
  split
  · split <;> simp
  · simp
def daysTo (l : List Fct) (k : Ky) (bef aft : Int) : Nat → List Pt
  | 0 => []
  | j + 1 => if diffL l k bef aft (j : Int) then dayAdd (daysTo l k bef aft j) j else daysTo l k bef aft j
theorem daysTo_le (l : List Fct) (k : Ky) (bef aft : Int) : ∀ j, (daysTo l k bef aft j).length ≤ j
  | 0 => by simp [daysTo]
  | j + 1 => by
    have := daysTo_le l k bef aft j
    have h2 := dayAdd_length (daysTo l k bef aft j) j
    unfold daysTo
    split <;> omega
def entryL (l : List Fct) (bef aft : Int) (k : Ky) : List Dv := if 0 < (daysTo l k bef aft 1024).length then [(k, daysTo l k bef aft 1024)] else []
def changedL (l : List Fct) (bef aft : Int) : List Dv := (keysL l).flatMap (entryL l bef aft)
theorem flatMap_take_step {α β : Type} {f : α → List β} {l : List α} {i : Nat} (hi : i < l.length) : (l.take (i + 1)).flatMap f = (l.take i).flatMap f ++ f l[i] := by
  rw [← List.take_append_getElem hi, List.flatMap_append]; simp

abbrev OwnSp (base : Nat) (w : World) (v : Value) (l : List Pt) : Prop := w.ownsRow base 40 2 v l.length (rowsV pc l)
end Go.Proofs.Ytfgckcochilpkaa

/- Facts: plain laws about what is computed, no program in sight. -/
set_option linter.unusedVariables false
set_option maxRecDepth 100000
set_option linter.unusedSimpArgs false
namespace Go.Proofs.Ytfgckcochilpkaa
open Go Go.Eng

/-! ## Earlier knowledge -/
theorem ofL_upto (l : List Fct) (k : Ky) {known later : Int} (h : known ≤ later) : ofL (uptoL l known) k later = ofL l k known := by
  unfold ofL uptoL
  rw [List.filter_filter]
  refine List.filter_congr fun f _ => ?_
  rw [← Bool.decide_and]
  exact decide_eq_decide.2 ⟨fun ⟨⟨a, _⟩, c⟩ => ⟨a, c⟩, fun ⟨a, c⟩ => ⟨⟨a, by omega⟩, c⟩⟩
theorem atL_upto (l : List Fct) (k : Ky) (day : Int) {known later : Int} (h : known ≤ later) : atL (uptoL l known) k day later = atL l k day known := by
  unfold atL bestL; rw [ofL_upto l k h]
theorem uptoL_le (l : List Fct) (known : Int) : (uptoL l known).length ≤ l.length := List.length_filter_le _ _

/-! ## Later facts -/
section
variable {l more : List Fct} {known : Int} (h : ∀ f ∈ more, known < f.known)
include h
theorem ofL_more (k : Ky) {t : Int} (ht : t ≤ known) : ofL (l ++ more) k t = ofL l k t := by
  unfold ofL
  have e : more.filter (fun f => decide (f.key = k ∧ f.known ≤ t)) = [] := List.filter_eq_nil_iff.2 (fun f hf => by have := h f hf; simp only [decide_eq_true_eq]; omega)
  rw [List.filter_append, e, List.append_nil]
theorem atL_more (k : Ky) (day : Int) {t : Int} (ht : t ≤ known) : atL (l ++ more) k day t = atL l k day t := by
  unfold atL bestL; rw [ofL_more h k ht]
theorem pointsL_more (k : Ky) (lo hi : Int) {t : Int} (ht : t ≤ known) : pointsL (l ++ more) k lo hi t = pointsL l k lo hi t := by
  unfold pointsL
  rw [show (fun d => atL (l ++ more) k d t) = fun d => atL l k d t from funext fun d => atL_more h k d ht]
theorem uptoL_more : uptoL (l ++ more) known = uptoL l known := by
  unfold uptoL
  have e : more.filter (fun f => decide (f.known ≤ known)) = [] := List.filter_eq_nil_iff.2 (fun f hf => by have := h f hf; simp only [decide_eq_true_eq]; omega)
  rw [List.filter_append, e, List.append_nil]
theorem daysTo_more (k : Ky) {a b : Int} (ha : a ≤ known) (hb : b ≤ known) : ∀ j, daysTo (l ++ more) k a b j = daysTo l k a b j
  | 0 => rfl
  | j + 1 => by
    have hd : diffL (l ++ more) k a b (j : Int) = diffL l k a b (j : Int) := by unfold diffL; rw [atL_more h k _ ha, atL_more h k _ hb]
    unfold daysTo
    rw [daysTo_more k ha hb j]
    simp only [hd]
theorem entryL_more {a b : Int} (ha : a ≤ known) (hb : b ≤ known) : entryL (l ++ more) a b = entryL l a b := funext fun k => by
  unfold entryL; rw [daysTo_more h k ha hb]
end
theorem flat_insK {g : Ky → List Dv} {out : List Ky} {k : Ky} (hs : out.Pairwise lessK) (h : g k = [] ∨ k ∈ out) : (insK out k).flatMap g = out.flatMap g := by
  by_cases hk : k ∈ out
  · rw [sorted_unique (insK_sorted hs) hs (fun y => by rw [mem_insK]; exact ⟨fun h => h.elim (fun e => e ▸ hk) id, .inr⟩)]
  · have hg := h.resolve_right hk
    unfold insK
    split
    · rfl
    · unfold insAt
      rw [List.flatMap_append, List.flatMap_cons, hg, List.nil_append, ← List.flatMap_append, List.take_append_drop]
theorem flat_foldl {g : Ky → List Dv} : ∀ {fs : List Fct} {out : List Ky}, out.Pairwise lessK → (∀ f ∈ fs, g f.key = [] ∨ f.key ∈ out) → (fs.foldl (fun o f => insK o f.key) out).flatMap g = out.flatMap g
  | [], out, _, _ => rfl
  | f :: fs, out, hs, h => by
    rw [List.foldl_cons, flat_foldl (insK_sorted hs) (fun x hx => (h x (List.mem_cons_of_mem _ hx)).imp id fun hm => mem_insK.2 (.inr hm)), flat_insK hs (h f List.mem_cons_self)]
theorem diffL_key {l : List Fct} {k : Ky} {bef aft day : Int} (h : diffL l k bef aft day) : k ∈ keysL l := by
  refine Classical.byContradiction fun hn => h ?_
  have hno : ∀ f ∈ l, f.key ≠ k := fun f hf he => hn (((keysL_spec l).2 k).2 ⟨f, hf, he⟩)
  have ho : ∀ t, ofL l k t = [] := fun t => List.filter_eq_nil_iff.2 fun f hf => by
    have := hno f hf
    simp only [decide_eq_true_eq]
    exact fun x => this x.1
  unfold atL bestL
  rw [ho, ho]
theorem daysTo_nil {l : List Fct} {k : Ky} {bef aft : Int} (h : ∀ d, ¬ diffL l k bef aft d) : ∀ j, daysTo l k bef aft j = []
  | 0 => rfl
  | j + 1 => by unfold daysTo; rw [if_neg (h _), daysTo_nil h j]
theorem entryL_nil {l : List Fct} {k : Ky} {bef aft : Int} (h : k ∉ keysL l) : entryL l bef aft k = [] := by
  unfold entryL
  rw [daysTo_nil (fun d hd => h (diffL_key hd))]
  rfl
theorem changedL_more {l more : List Fct} {known a b : Int} (h : ∀ f ∈ more, known < f.known) (ha : a ≤ known) (hb : b ≤ known) : changedL (l ++ more) a b = changedL l a b := by
  unfold changedL
  rw [entryL_more h ha hb]
  unfold keysL
  rw [List.foldl_append]
  refine flat_foldl (keysL_spec l).1 fun f hf => ?_
  by_cases hk : f.key ∈ keysL l
  · exact .inr hk
  · exact .inl (entryL_nil hk)

/-! ## The last fact counts -/
def Cand (k : Ky) (day known : Int) (f : Fct) : Prop := f.key = k ∧ f.lo ≤ day ∧ day < f.hi ∧ f.known ≤ known
instance (k : Ky) (day known : Int) (f : Fct) : Decidable (Cand k day known f) := by unfold Cand; infer_instance
/-- After l[b] no other one of the first i comes. -/
def LastIn (l : List Fct) (k : Ky) (day known : Int) (i b : Nat) : Prop :=
  ∃ h : b < l.length, b < i ∧ Cand k day known l[b] ∧ ∀ j, (hj : j < l.length) → j < i → Cand k day known l[j] → ¬ before l[b] l[j] ∧ (b < j → before l[j] l[b])
theorem best_last (l : List Fct) (k : Ky) (day known : Int) : ∀ i, i ≤ l.length →
    (bestL (l.take i) k day known = none ∧ ∀ j, (hj : j < l.length) → j < i → ¬ Cand k day known l[j]) ∨
    ∃ b, ∃ h : b < l.length, bestL (l.take i) k day known = some l[b] ∧ LastIn l k day known i b
  | 0, _ => .inl ⟨rfl, fun j hj h => absurd h (by omega)⟩
  | i + 1, hi => by
    have ih := best_last l k day known i (by omega)
    rw [bestL_take (by omega)]
    by_cases hc : Cand k day known (l[i]'(by omega))
    · have hc' := hc
      obtain ⟨h1, h2, h3, h4⟩ := hc'
      rw [if_pos ⟨h1, h4⟩]
      unfold dayStep
      rw [if_pos ⟨h2, h3⟩]
      rcases ih with ⟨hb, hn⟩ | ⟨b, hb, hbs, _, hbi, hcb, hl⟩
      · rw [hb]
        refine .inr ⟨i, by omega, rfl, by omega, by omega, hc, fun j hj hji hcj => ?_⟩
        by_cases hji2 : j = i
        · subst hji2
          exact ⟨fun h => by unfold before at h; omega, fun h => by omega⟩
        · exact absurd hcj (hn j hj (by omega))
      · rw [hbs]
        simp only
        by_cases hbf : before (l[i]'(by omega)) l[b]
        · rw [if_pos hbf]
          refine .inr ⟨b, hb, rfl, hb, by omega, hcb, fun j hj hji hcj => ?_⟩
          by_cases hji2 : j = i
          · subst hji2
            exact ⟨fun h => by unfold before at h hbf; omega, fun _ => hbf⟩
          · exact hl j hj (by omega) hcj
        · rw [if_neg hbf]
          refine .inr ⟨i, by omega, rfl, by omega, by omega, hc, fun j hj hji hcj => ?_⟩
          by_cases hji2 : j = i
          · subst hji2
            exact ⟨fun h => by unfold before at h; omega, fun h => by omega⟩
          · have := (hl j hj (by omega) hcj).1
            exact ⟨fun h => by unfold before at this hbf h; omega, fun h => by omega⟩
    · have hsame : (if (l[i]'(by omega)).key = k ∧ (l[i]'(by omega)).known ≤ known then dayStep day (bestL (l.take i) k day known) (l[i]'(by omega)) else bestL (l.take i) k day known) = bestL (l.take i) k day known := by
        split
        · rename_i h
          unfold dayStep
          rw [if_neg (fun h2 => hc ⟨h.1, h2.1, h2.2, h.2⟩)]
        · rfl
      rw [hsame]
      rcases ih with ⟨hb, hn⟩ | ⟨b, hb, hbs, _, hbi, hcb, hl⟩
      · refine .inl ⟨hb, fun j hj hji => ?_⟩
        by_cases hji2 : j = i
        · subst hji2; exact hc
        · exact hn j hj (by omega)
      · refine .inr ⟨b, hb, hbs, hb, by omega, hcb, fun j hj hji hcj => ?_⟩
        by_cases hji2 : j = i
        · subst hji2; exact absurd hcj hc
        · exact hl j hj (by omega) hcj
theorem last_unique {l : List Fct} {k : Ky} {day known : Int} {i a b : Nat} (ha : LastIn l k day known i a) (hb : LastIn l k day known i b) : a = b := by
  obtain ⟨a1, a2, a3, a4⟩ := ha
  obtain ⟨b1, b2, b3, b4⟩ := hb
  have h1 := a4 b b1 b2 b3
  have h2 := b4 a a1 a2 a3
  by_cases h : a < b
  · exact absurd (h1.2 h) h2.1
  · by_cases h3 : b < a
    · exact absurd (h2.2 h3) h1.1
    · omega
theorem best_of_last {l : List Fct} {k : Ky} {day known : Int} {i : Nat} (h : LastIn l k day known l.length i) : ∃ hi : i < l.length, bestL l k day known = some l[i] := by
  have := best_last l k day known l.length (Nat.le_refl _)
  rw [List.take_length] at this
  rcases this with ⟨_, hn⟩ | ⟨b, hb, hbs, hl⟩
  · exact absurd h.choose_spec.2.1 (hn i h.choose h.choose)
  · have e := last_unique h hl
    subst e
    exact ⟨hb, hbs⟩

/-! ## Points, day by day -/
def restL (g : Int → Int × Bool) (lo hi d : Int) : List Pt := ptsN g (max d (max 0 lo)) (min hi 1024 - max d (max 0 lo)).toNat
theorem restL_zero (l : List Fct) (k : Ky) (lo hi known : Int) : restL (fun d => atL l k d known) lo hi 0 = pointsL l k lo hi known := by
  unfold restL pointsL; rw [show max 0 (max 0 lo) = max 0 lo by omega]
theorem restL_end (g : Int → Int × Bool) (lo hi : Int) : restL g lo hi 1024 = [] := by
  unfold restL; exact ptsN_end g (by omega)
theorem restL_skip (g : Int → Int × Bool) {lo hi d : Int} (hd : 0 ≤ d ∧ d < 1024) (h : (g d).2 = false ∨ d < lo ∨ hi ≤ d) : restL g lo hi d = restL g lo hi (d + 1) := by
  unfold restL
  by_cases h1 : d < lo
  · rw [show max (d + 1) (max 0 lo) = max d (max 0 lo) by omega]
  · rw [show max (d + 1) (max 0 lo) = d + 1 by omega, show max d (max 0 lo) = d by omega]
    by_cases h2 : d < min hi 1024
    · have h3 : (g d).2 = false := by rcases h with h | h | h; exact h; omega; omega
      rw [ptsN_step g h2, h3]
      rfl
    · rw [ptsN_end g h2, ptsN_end g (by omega)]
theorem restL_take (g : Int → Int × Bool) {lo hi d : Int} (hd : 0 ≤ d ∧ d < 1024) (h : (g d).2 = true) (h1 : lo ≤ d) (h2 : d < hi) : restL g lo hi d = (d, (g d).1) :: restL g lo hi (d + 1) := by
  unfold restL
  rw [show max (d + 1) (max 0 lo) = d + 1 by omega, show max d (max 0 lo) = d by omega, ptsN_step g (by omega), h]
  rfl
theorem drop_cons {α : Type} {l m : List α} {n : Nat} {a : α} (h : l.drop n = a :: m) : ∃ hn : n < l.length, l[n] = a ∧ l.drop (n + 1) = m := by
  have hn : n < l.length := by
    have := congrArg List.length h
    simp only [List.length_drop, List.length_cons] at this; omega
  rw [List.drop_eq_getElem_cons hn] at h
  injection h with h1 h2
  exact ⟨hn, h1, h2⟩

/-! ## Alike -/
theorem ptsN_succ (g : Int → Int × Bool) (d : Int) (n : Nat) : ptsN g d (n + 1) = (if (g d).2 then [(d, (g d).1)] else []) ++ ptsN g (d + 1) n := rfl
theorem ptsN_ge (g : Int → Int × Bool) : ∀ (n : Nat) (d : Int), ∀ q ∈ ptsN g d n, d ≤ q.1
  | 0, d, q, h => by cases h
  | n + 1, d, q, h => by
    rw [ptsN_succ] at h
    rcases List.mem_append.1 h with h | h
    · split at h
      · rw [List.mem_singleton.1 h]; exact Int.le_refl _
      · cases h
    · have := ptsN_ge g n (d + 1) q h; omega
theorem ptsN_eq {g h : Int → Int × Bool} (hg : ∀ e, (g e).2 = false → (g e).1 = 0) (hh : ∀ e, (h e).2 = false → (h e).1 = 0) : ∀ (n : Nat) (d : Int), ptsN g d n = ptsN h d n ↔ ∀ e, d ≤ e → e < d + n → g e = h e
  | 0, d => by constructor; (intro _ e h1 h2; exfalso; omega); (intro _; rfl)
  | n + 1, d => by
    have ih := ptsN_eq hg hh n (d + 1)
    have key : ptsN g d (n + 1) = ptsN h d (n + 1) ↔ g d = h d ∧ ptsN g (d + 1) n = ptsN h (d + 1) n := by
      rw [ptsN_succ, ptsN_succ]
      cases h1 : (g d).2 <;> cases h2 : (h d).2 <;> simp only [if_true, if_false, Bool.false_eq_true, List.nil_append, List.cons_append]
      · exact ⟨fun x => ⟨Prod.ext ((hg d h1).trans (hh d h2).symm) (h1.trans h2.symm), x⟩, fun x => x.2⟩
      · refine ⟨fun x => ?_, fun x => ?_⟩
        · have := ptsN_ge g n (d + 1) (d, (h d).1) (by rw [x]; exact List.mem_cons_self)
          simp only at this; omega
        · rw [x.1, h2] at h1; cases h1
      · refine ⟨fun x => ?_, fun x => ?_⟩
        · have := ptsN_ge h n (d + 1) (d, (g d).1) (by rw [← x]; exact List.mem_cons_self)
          simp only at this; omega
        · rw [x.1, h2] at h1; cases h1
      · refine ⟨fun x => ?_, fun x => ?_⟩
        · injection x with x1 x2
          injection x1 with _ x3
          exact ⟨Prod.ext x3 (h1.trans h2.symm), x2⟩
        · rw [x.1, x.2]
    rw [key, ih]
    constructor
    · rintro ⟨h1, h2⟩ e he1 he2
      by_cases he : e = d
      · rw [he]; exact h1
      · exact h2 e (by omega) (by omega)
    · exact fun h1 => ⟨h1 d (by omega) (by omega), fun e he1 he2 => h1 e (by omega) (by omega)⟩
theorem valO_zero (b : Option Fct) : (valO b).2 = false → (valO b).1 = 0 := by
  cases b with
  | none => exact fun _ => rfl
  | some f =>
    have e : valO (some f) = (if f.val < 0 then (0, false) else (f.val, true)) := rfl
    rw [e]
    split
    · exact fun _ => rfl
    · exact fun h => by cases h
theorem alike_days (l : List Fct) (r : Rd) (bef aft : Int) : alike1 l r bef aft ↔ ∀ e, max 0 r.lo ≤ e → e < min r.hi 1024 → ¬ diffL l r.key bef aft e := by
  unfold alike1 pointsL diffL
  rw [ptsN_eq (g := fun d => atL l r.key d bef) (h := fun d => atL l r.key d aft) (fun e => valO_zero _) (fun e => valO_zero _)]
  constructor
  · intro h e h1 h2 hn
    exact hn (h e h1 (by omega))
  · intro h e h1 h2
    exact Classical.byContradiction fun hn => h e h1 (by omega) hn

/-! ## The days that differ, as spans -/
structure SpansOf (D : Int → Prop) (j : Nat) (ds : List Pt) : Prop where
  ok : ∀ s ∈ ds, 0 ≤ s.1 ∧ s.1 < s.2 ∧ s.2 ≤ (j : Int)
  sep : ds.Pairwise fun s t => s.2 < t.1
  cov : ∀ d : Int, (0 ≤ d ∧ d < j ∧ D d) ↔ ∃ s ∈ ds, s.1 ≤ d ∧ d < s.2
theorem dayAdd_last (ds : List Pt) (s : Pt) (j : Nat) : dayAdd (ds ++ [s]) j = if s.2 = (j : Int) then ds ++ [(s.1, (j : Int) + 1)] else ds ++ [s] ++ [((j : Int), (j : Int) + 1)] := by
  have hl : (ds ++ [s])[(ds ++ [s]).length - 1]'(by simp) = s := by
    rw [List.getElem_append_right (by simp)]
    simp
  by_cases h : s.2 = (j : Int)
  · rw [if_pos h, dayAdd_join (by simp) (by rw [hl]; exact h), hl, List.set_append_right _ _ (by simp)]
    simp
  · rw [if_neg h, dayAdd_new (fun _ => by rw [hl]; exact h)]
theorem spans_of (l : List Fct) (k : Ky) (bef aft : Int) : ∀ j, SpansOf (diffL l k bef aft) j (daysTo l k bef aft j)
  | 0 => ⟨fun s h => (by cases h), .nil, fun d => ⟨fun h => (by omega), fun ⟨s, h, _⟩ => (by cases h)⟩⟩
  | j + 1 => by
    obtain ⟨ok, sep, cov⟩ := spans_of l k bef aft j
    unfold daysTo
    by_cases hd : diffL l k bef aft (j : Int)
    · rw [if_pos hd]
      rcases List.eq_nil_or_concat (daysTo l k bef aft j) with h0 | ⟨ds, s, h0⟩
      · rw [h0] at cov ⊢
        have : dayAdd [] j = [((j : Int), (j : Int) + 1)] := rfl
        rw [this]
        refine ⟨fun s hs => ?_, List.pairwise_singleton _ _, fun d => ?_⟩
        · rw [List.mem_singleton.1 hs]; refine ⟨?_, ?_, ?_⟩ <;> simp only <;> omega
        · have := cov d
          constructor
          · rintro ⟨h1, h2, h3⟩
            by_cases hdj : d = j
            · exact ⟨_, List.mem_singleton.2 rfl, by simp only; omega, by simp only; omega⟩
            · obtain ⟨s, hs, _⟩ := this.1 ⟨h1, by omega, h3⟩; cases hs
          · rintro ⟨s, hs, h1, h2⟩
            rw [List.mem_singleton.1 hs] at h1 h2
            simp only at h1 h2
            have : d = j := by omega
            subst this
            exact ⟨by omega, by omega, hd⟩
      · rw [h0] at ok sep cov ⊢
        rw [List.concat_eq_append] at ok sep cov ⊢
        rw [dayAdd_last]
        rw [List.pairwise_append] at sep
        obtain ⟨sp1, _, sp2⟩ := sep
        have oks := ok s (by simp)
        by_cases hs2 : s.2 = (j : Int)
        · rw [if_pos hs2]
          refine ⟨fun t ht => ?_, ?_, fun d => ?_⟩
          · rcases List.mem_append.1 ht with h | h
            · have := ok t (List.mem_append.2 (.inl h)); omega
            · rw [List.mem_singleton.1 h]; refine ⟨?_, ?_, ?_⟩ <;> simp only <;> omega
          · rw [List.pairwise_append]
            refine ⟨sp1, List.pairwise_singleton _ _, fun t ht u hu => ?_⟩
            rw [List.mem_singleton.1 hu]
            exact sp2 t ht s (List.mem_singleton.2 rfl)
          · have hcv := cov d
            constructor
            · rintro ⟨h1, h2, h3⟩
              by_cases hdj : d = j
              · exact ⟨(s.1, (j : Int) + 1), by simp, by simp only; omega, by simp only; omega⟩
              · obtain ⟨t, ht, ht1, ht2⟩ := hcv.1 ⟨h1, by omega, h3⟩
                rcases List.mem_append.1 ht with h | h
                · exact ⟨t, List.mem_append.2 (.inl h), ht1, ht2⟩
                · rw [List.mem_singleton.1 h] at ht1 ht2
                  exact ⟨(s.1, (j : Int) + 1), by simp, by simp only; omega, by simp only; omega⟩
            · rintro ⟨t, ht, ht1, ht2⟩
              by_cases hdj : d = j
              · subst hdj; exact ⟨by omega, by omega, hd⟩
              rcases List.mem_append.1 ht with h | h
              · have := hcv.2 ⟨t, List.mem_append.2 (.inl h), ht1, ht2⟩
                exact ⟨this.1, by omega, this.2.2⟩
              · rw [List.mem_singleton.1 h] at ht1 ht2
                simp only at ht1 ht2
                have := hcv.2 ⟨s, by simp, by omega, by omega⟩
                exact ⟨this.1, by omega, this.2.2⟩
        · rw [if_neg hs2]
          refine ⟨fun t ht => ?_, ?_, fun d => ?_⟩
          · rcases List.mem_append.1 ht with h | h
            · have := ok t h; omega
            · rw [List.mem_singleton.1 h]; refine ⟨?_, ?_, ?_⟩ <;> simp only <;> omega
          · rw [List.pairwise_append]
            refine ⟨List.pairwise_append.2 ⟨sp1, List.pairwise_singleton _ _, sp2⟩, List.pairwise_singleton _ _, fun t ht u hu => ?_⟩
            rw [List.mem_singleton.1 hu]
            simp only
            rcases List.mem_append.1 ht with h | h
            · have h1 := sp2 t h s (List.mem_singleton.2 rfl)
              omega
            · rw [List.mem_singleton.1 h]; omega
          · have hcv := cov d
            constructor
            · rintro ⟨h1, h2, h3⟩
              by_cases hdj : d = j
              · exact ⟨((j : Int), (j : Int) + 1), by simp, by simp only; omega, by simp only; omega⟩
              · obtain ⟨t, ht, ht1, ht2⟩ := hcv.1 ⟨h1, by omega, h3⟩
                exact ⟨t, List.mem_append.2 (.inl ht), ht1, ht2⟩
            · rintro ⟨t, ht, ht1, ht2⟩
              rcases List.mem_append.1 ht with h | h
              · have := hcv.2 ⟨t, h, ht1, ht2⟩
                exact ⟨this.1, by omega, this.2.2⟩
              · rw [List.mem_singleton.1 h] at ht1 ht2
                simp only at ht1 ht2
                have : d = j := by omega
                subst this
                exact ⟨by omega, by omega, hd⟩
    · rw [if_neg hd]
      refine ⟨fun s hs => ?_, sep, fun d => ?_⟩
      · have := ok s hs; omega
      · rw [← cov d]
        constructor
        · rintro ⟨h1, h2, h3⟩
          by_cases hdj : d = j
          · subst hdj; exact absurd h3 hd
          · exact ⟨h1, by omega, h3⟩
        · rintro ⟨h1, h2, h3⟩
          exact ⟨h1, by omega, h3⟩
theorem changedL_mem {l : List Fct} {bef aft : Int} {x : Dv} : x ∈ changedL l bef aft ↔ x.1 ∈ keysL l ∧ x.2 = daysTo l x.1 bef aft 1024 ∧ 0 < x.2.length := by
  unfold changedL
  rw [List.mem_flatMap]
  constructor
  · rintro ⟨k, hk, h⟩
    unfold entryL at h
    split at h
    · rw [List.mem_singleton.1 h]; exact ⟨hk, rfl, by assumption⟩
    · cases h
  · rintro ⟨h1, h2, h3⟩
    refine ⟨x.1, h1, ?_⟩
    unfold entryL
    rw [← h2, if_pos h3]
    exact List.mem_singleton.2 rfl
/-- A read meets a day that differs. -/
def Hit (r : Rd) (k : Ky) (s : Pt) : Prop := k = r.key ∧ max r.lo s.1 < min r.hi s.2
instance (r : Rd) (k : Ky) (s : Pt) : Decidable (Hit r k s) := by unfold Hit; infer_instance
theorem alike_hit (l : List Fct) (r : Rd) (bef aft : Int) : alike1 l r bef aft ↔ ¬ ∃ x ∈ changedL l bef aft, ∃ s ∈ x.2, Hit r x.1 s := by
  rw [alike_days]
  constructor
  · rintro h ⟨x, hx, s, hs, hk, hm⟩
    obtain ⟨h1, h2, h3⟩ := changedL_mem.1 hx
    obtain ⟨ok, _, cov⟩ := spans_of l x.1 bef aft 1024
    rw [← h2] at ok cov
    have hok := ok s hs
    obtain ⟨a, b, c⟩ := (cov (max r.lo s.1)).2 ⟨s, hs, by omega, by omega⟩
    rw [hk] at c
    exact h _ (by omega) (by omega) c
  · intro h e h1 h2 hd
    obtain ⟨ok, _, cov⟩ := spans_of l r.key bef aft 1024
    obtain ⟨s, hs, hs1, hs2⟩ := (cov e).1 ⟨by omega, by omega, hd⟩
    refine h ⟨(r.key, daysTo l r.key bef aft 1024), changedL_mem.2 ⟨diffL_key hd, rfl, List.length_pos_of_mem hs⟩, s, hs, rfl, by omega⟩

/-! ## Steps -/
theorem rp_neb_f {P : Program} {n : Nat} {E : Env} {o : Oper} {t t' : TypeId} {x y : Operand} {a : Bool} (ho : o.op = .binOp .neq t x y t') (ht : P.underlying t = some .bool) (hx : ev E x = some (.bool a)) (hy : ev E y = some (.bool a)) : RunP P n E o (.bool false) := by
  have := rp_neb (P := P) (n := n) ho ht hx hy
  rwa [beq_self_eq_true] at this
theorem and31 (a : Int) : ∃ m : Nat, m ≤ 31 ∧ binI .and .i64 a 31 = some (.int .i64 (m : Int)) := by
  have h : (BitVec.ofInt IntKind.i64.bits a &&& BitVec.ofInt IntKind.i64.bits 31).toNat ≤ 31 := by
    rw [BitVec.toNat_and]
    exact Nat.and_le_right
  exact ⟨_, h, congrArg (fun x => some (Value.int .i64 x)) (wrap64 (by omega))⟩
end Go.Proofs.Ytfgckcochilpkaa
