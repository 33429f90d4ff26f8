/- Texts of one proof, put together: FactM, FactR, FactN, FactO, FactY, BranY, BranA, BranX, BranW, EngK. -/
import Derived.Test.YtfgckcochilpkaaRows
import Derived.Laws.CopyOwn
import Derived.Deep.OwnRows
import Derived.Test.YtfgckcochilpkaaWAP2
/- The facts' walks: the keys' order, the keys of facts. -/
set_option linter.unusedVariables false
set_option maxRecDepth 100000
set_option maxHeartbeats 4000000
set_option linter.unusedSimpArgs false
namespace Go.Proofs.Ytfgckcochilpkaa
open Go Go.Eng

def lessK (a b : Ky) : Prop := a.k < b.k ∨ a.k = b.k ∧ (a.s < b.s ∨ a.s = b.s ∧ a.o < b.o)
instance (a b : Ky) : Decidable (lessK a b) := inferInstanceAs (Decidable (_ ∨ _))
def cmpK (a b : Ky) : Int := orL [cmpI a.k b.k, cmpI a.s b.s, cmpI a.o b.o]
theorem cmpK_lt (a b : Ky) : cmpK a b < 0 ↔ lessK a b := by
  unfold cmpK lessK
  simp only [orL]
  have h1 := cmpI_cases a.k b.k
  have h2 := cmpI_cases a.s b.s
  have h3 := cmpI_cases a.o b.o
  split
  · split
    · split <;> omega
    · omega
  · omega
theorem lessK_irrefl (a : Ky) : ¬ lessK a a := by unfold lessK; omega
theorem lessK_trans {a b c : Ky} (h1 : lessK a b) (h2 : lessK b c) : lessK a c := by unfold lessK at *; omega
theorem lessK_total {a b : Ky} (h1 : ¬ lessK a b) (h2 : a ≠ b) : lessK b a := by
  rw [ne_eq, Ky.eq_iff] at h2
  unfold lessK at *; omega

theorem ref_LessKey (a b : Ky) (w : World) : Calls Try.prog 29 #[.agg (kc a).toArray, .agg (kc b).toArray] w (Ret fun r w' => Ext [] w w' ∧ r = .bool (decide (lessK a b))) := by
  refine calls_of_Sx (args := [.agg (kc a).toArray, .agg (kc b).toArray]) Try.func29 rfl rfl ?_
  by_cases h1 : a.k = b.k; rotate_left
  · by_cases h2 : a.k < b.k
    · refine ztx ?_
      refine Ox.act rfl rfl (acts_box rfl rfl) ?_
      rintro vbx wbx ⟨ebx, bbx, rfl, hbbx, hBbx⟩
      first | (have hCbx : Cells wbx ⟨bbx, 0, none⟩ [_, _, _] := hBbx.cells) | have hCbx := Blk.cellsL hBbx
      have hlbx := hBbx.lt
      have hzbx := ebx.size
      refine Ox.act rfl rfl (acts_box rfl rfl) ?_
      rintro vby wby ⟨eby, bby, rfl, hbby, hBby⟩
      first | (have hCby : Cells wby ⟨bby, 0, none⟩ [_, _, _] := hBby.cells) | have hCby := Blk.cellsL hBby
      have hlby := hBby.lt
      have hzby := eby.size
      refine Ox.pure rfl rfl zas ?_
      refine Ox.fin ?_
      refine ztx ?_
      refine Ox.pure rfl rfl zfa ?_
      refine Ox.val rfl rfl zrs ?_
      refine Ox.pure rfl rfl zfa ?_
      refine Ox.val rfl rfl zrs ?_
      refine Ox.pure rfl rfl zbc ?_
      refine Ox.fin ?_
      refine zct ?_
      refine ztx ?_
      refine Ox.pure rfl rfl zfa ?_
      refine Ox.val rfl rfl zrs ?_
      refine Ox.pure rfl rfl zfa ?_
      refine Ox.val rfl rfl zrs ?_
      refine Ox.pure rfl rfl zbc ?_
      refine Ox.pure rfl rfl zas ?_
      refine Ox.fin ?_
      refine zrt ?_
      exact endE_ret [_] ⟨rfl, trivial⟩ ⟨zxc, congrArg Value.bool (decide_eq_true (by unfold lessK; omega)).symm⟩
    · refine ztx ?_
      refine Ox.act rfl rfl (acts_box rfl rfl) ?_
      rintro vbx wbx ⟨ebx, bbx, rfl, hbbx, hBbx⟩
      first | (have hCbx : Cells wbx ⟨bbx, 0, none⟩ [_, _, _] := hBbx.cells) | have hCbx := Blk.cellsL hBbx
      have hlbx := hBbx.lt
      have hzbx := ebx.size
      refine Ox.act rfl rfl (acts_box rfl rfl) ?_
      rintro vby wby ⟨eby, bby, rfl, hbby, hBby⟩
      first | (have hCby : Cells wby ⟨bby, 0, none⟩ [_, _, _] := hBby.cells) | have hCby := Blk.cellsL hBby
      have hlby := hBby.lt
      have hzby := eby.size
      refine Ox.pure rfl rfl zas ?_
      refine Ox.fin ?_
      refine ztx ?_
      refine Ox.pure rfl rfl zfa ?_
      refine Ox.val rfl rfl zrs ?_
      refine Ox.pure rfl rfl zfa ?_
      refine Ox.val rfl rfl zrs ?_
      refine Ox.pure rfl rfl zbc ?_
      refine Ox.fin ?_
      refine zct ?_
      refine ztx ?_
      refine Ox.pure rfl rfl zfa ?_
      refine Ox.val rfl rfl zrs ?_
      refine Ox.pure rfl rfl zfa ?_
      refine Ox.val rfl rfl zrs ?_
      refine Ox.pure rfl rfl zbc ?_
      refine Ox.pure rfl rfl zas ?_
      refine Ox.fin ?_
      refine zrt ?_
      exact endE_ret [_] ⟨rfl, trivial⟩ ⟨zxc, congrArg Value.bool (decide_eq_false (by unfold lessK; omega)).symm⟩
  by_cases h3 : a.s = b.s; rotate_left
  · by_cases h2 : a.s < b.s
    · refine ztx ?_
      refine Ox.act rfl rfl (acts_box rfl rfl) ?_
      rintro vbx wbx ⟨ebx, bbx, rfl, hbbx, hBbx⟩
      first | (have hCbx : Cells wbx ⟨bbx, 0, none⟩ [_, _, _] := hBbx.cells) | have hCbx := Blk.cellsL hBbx
      have hlbx := hBbx.lt
      have hzbx := ebx.size
      refine Ox.act rfl rfl (acts_box rfl rfl) ?_
      rintro vby wby ⟨eby, bby, rfl, hbby, hBby⟩
      first | (have hCby : Cells wby ⟨bby, 0, none⟩ [_, _, _] := hBby.cells) | have hCby := Blk.cellsL hBby
      have hlby := hBby.lt
      have hzby := eby.size
      refine Ox.pure rfl rfl zas ?_
      refine Ox.fin ?_
      refine ztx ?_
      refine Ox.pure rfl rfl zfa ?_
      refine Ox.val rfl rfl zrs ?_
      refine Ox.pure rfl rfl zfa ?_
      refine Ox.val rfl rfl zrs ?_
      refine Ox.pure rfl rfl zbc ?_
      refine Ox.fin ?_
      refine zcf ?_
      refine zsk ?_
      refine ztx ?_
      refine Ox.pure rfl rfl zfa ?_
      refine Ox.val rfl rfl zrs ?_
      refine Ox.pure rfl rfl zfa ?_
      refine Ox.val rfl rfl zrs ?_
      refine Ox.pure rfl rfl zbc ?_
      refine Ox.fin ?_
      refine zct ?_
      refine ztx ?_
      refine Ox.pure rfl rfl zfa ?_
      refine Ox.val rfl rfl zrs ?_
      refine Ox.pure rfl rfl zfa ?_
      refine Ox.val rfl rfl zrs ?_
      refine Ox.pure rfl rfl zbc ?_
      refine Ox.pure rfl rfl zas ?_
      refine Ox.fin ?_
      refine zrt ?_
      exact endE_ret [_] ⟨rfl, trivial⟩ ⟨zxc, congrArg Value.bool (decide_eq_true (by unfold lessK; omega)).symm⟩
    · refine ztx ?_
      refine Ox.act rfl rfl (acts_box rfl rfl) ?_
      rintro vbx wbx ⟨ebx, bbx, rfl, hbbx, hBbx⟩
      first | (have hCbx : Cells wbx ⟨bbx, 0, none⟩ [_, _, _] := hBbx.cells) | have hCbx := Blk.cellsL hBbx
      have hlbx := hBbx.lt
      have hzbx := ebx.size
      refine Ox.act rfl rfl (acts_box rfl rfl) ?_
      rintro vby wby ⟨eby, bby, rfl, hbby, hBby⟩
      first | (have hCby : Cells wby ⟨bby, 0, none⟩ [_, _, _] := hBby.cells) | have hCby := Blk.cellsL hBby
      have hlby := hBby.lt
      have hzby := eby.size
      refine Ox.pure rfl rfl zas ?_
      refine Ox.fin ?_
      refine ztx ?_
      refine Ox.pure rfl rfl zfa ?_
      refine Ox.val rfl rfl zrs ?_
      refine Ox.pure rfl rfl zfa ?_
      refine Ox.val rfl rfl zrs ?_
      refine Ox.pure rfl rfl zbc ?_
      refine Ox.fin ?_
      refine zcf ?_
      refine zsk ?_
      refine ztx ?_
      refine Ox.pure rfl rfl zfa ?_
      refine Ox.val rfl rfl zrs ?_
      refine Ox.pure rfl rfl zfa ?_
      refine Ox.val rfl rfl zrs ?_
      refine Ox.pure rfl rfl zbc ?_
      refine Ox.fin ?_
      refine zct ?_
      refine ztx ?_
      refine Ox.pure rfl rfl zfa ?_
      refine Ox.val rfl rfl zrs ?_
      refine Ox.pure rfl rfl zfa ?_
      refine Ox.val rfl rfl zrs ?_
      refine Ox.pure rfl rfl zbc ?_
      refine Ox.pure rfl rfl zas ?_
      refine Ox.fin ?_
      refine zrt ?_
      exact endE_ret [_] ⟨rfl, trivial⟩ ⟨zxc, congrArg Value.bool (decide_eq_false (by unfold lessK; omega)).symm⟩
  by_cases h2 : a.o < b.o
  · refine ztx ?_
    refine Ox.act rfl rfl (acts_box rfl rfl) ?_
    rintro vbx wbx ⟨ebx, bbx, rfl, hbbx, hBbx⟩
    first | (have hCbx : Cells wbx ⟨bbx, 0, none⟩ [_, _, _] := hBbx.cells) | have hCbx := Blk.cellsL hBbx
    have hlbx := hBbx.lt
    have hzbx := ebx.size
    refine Ox.act rfl rfl (acts_box rfl rfl) ?_
    rintro vby wby ⟨eby, bby, rfl, hbby, hBby⟩
    first | (have hCby : Cells wby ⟨bby, 0, none⟩ [_, _, _] := hBby.cells) | have hCby := Blk.cellsL hBby
    have hlby := hBby.lt
    have hzby := eby.size
    refine Ox.pure rfl rfl zas ?_
    refine Ox.fin ?_
    refine ztx ?_
    refine Ox.pure rfl rfl zfa ?_
    refine Ox.val rfl rfl zrs ?_
    refine Ox.pure rfl rfl zfa ?_
    refine Ox.val rfl rfl zrs ?_
    refine Ox.pure rfl rfl zbc ?_
    refine Ox.fin ?_
    refine zcf ?_
    refine zsk ?_
    refine ztx ?_
    refine Ox.pure rfl rfl zfa ?_
    refine Ox.val rfl rfl zrs ?_
    refine Ox.pure rfl rfl zfa ?_
    refine Ox.val rfl rfl zrs ?_
    refine Ox.pure rfl rfl zbc ?_
    refine Ox.fin ?_
    refine zcf ?_
    refine zsk ?_
    refine ztx ?_
    refine Ox.pure rfl rfl zfa ?_
    refine Ox.val rfl rfl zrs ?_
    refine Ox.pure rfl rfl zfa ?_
    refine Ox.val rfl rfl zrs ?_
    refine Ox.pure rfl rfl zbc ?_
    refine Ox.pure rfl rfl zas ?_
    refine Ox.fin ?_
    refine zrt ?_
    exact endE_ret [_] ⟨rfl, trivial⟩ ⟨zxc, congrArg Value.bool (decide_eq_true (by unfold lessK; omega)).symm⟩
  · refine ztx ?_
    refine Ox.act rfl rfl (acts_box rfl rfl) ?_
    rintro vbx wbx ⟨ebx, bbx, rfl, hbbx, hBbx⟩
    first | (have hCbx : Cells wbx ⟨bbx, 0, none⟩ [_, _, _] := hBbx.cells) | have hCbx := Blk.cellsL hBbx
    have hlbx := hBbx.lt
    have hzbx := ebx.size
    refine Ox.act rfl rfl (acts_box rfl rfl) ?_
    rintro vby wby ⟨eby, bby, rfl, hbby, hBby⟩
    first | (have hCby : Cells wby ⟨bby, 0, none⟩ [_, _, _] := hBby.cells) | have hCby := Blk.cellsL hBby
    have hlby := hBby.lt
    have hzby := eby.size
    refine Ox.pure rfl rfl zas ?_
    refine Ox.fin ?_
    refine ztx ?_
    refine Ox.pure rfl rfl zfa ?_
    refine Ox.val rfl rfl zrs ?_
    refine Ox.pure rfl rfl zfa ?_
    refine Ox.val rfl rfl zrs ?_
    refine Ox.pure rfl rfl zbc ?_
    refine Ox.fin ?_
    refine zcf ?_
    refine zsk ?_
    refine ztx ?_
    refine Ox.pure rfl rfl zfa ?_
    refine Ox.val rfl rfl zrs ?_
    refine Ox.pure rfl rfl zfa ?_
    refine Ox.val rfl rfl zrs ?_
    refine Ox.pure rfl rfl zbc ?_
    refine Ox.fin ?_
    refine zcf ?_
    refine zsk ?_
    refine ztx ?_
    refine Ox.pure rfl rfl zfa ?_
    refine Ox.val rfl rfl zrs ?_
    refine Ox.pure rfl rfl zfa ?_
    refine Ox.val rfl rfl zrs ?_
    refine Ox.pure rfl rfl zbc ?_
    refine Ox.pure rfl rfl zas ?_
    refine Ox.fin ?_
    refine zrt ?_
    exact endE_ret [_] ⟨rfl, trivial⟩ ⟨zxc, congrArg Value.bool (decide_eq_false (by unfold lessK; omega)).symm⟩

/-! ## The keys of facts -/
/-- A key laid into the keys before it. -/
def insAt (out : List Ky) (k : Ky) (n : Nat) : List Ky := out.take n ++ k :: out.drop n
/-- Where it belongs. -/
def Place (out : List Ky) (k : Ky) (n : Nat) : Prop := n ≤ out.length ∧ (∀ j, (h : j < out.length) → j < n → lessK out[j] k) ∧ (∀ h : n < out.length, ¬ lessK out[n] k)
def placeOf (out : List Ky) (k : Ky) : Nat := (out.takeWhile fun x => decide (lessK x k)).length
theorem placeOf_eq : ∀ {out : List Ky} {k : Ky} {n : Nat}, Place out k n → placeOf out k = n
  | [], k, n, h => by have := h.1; simp at this; subst this; rfl
  | x :: l, k, n, h => by
    by_cases hx : lessK x k
    · cases n with
      | zero => exact absurd hx (h.2.2 (by simp))
      | succ n =>
        have := placeOf_eq (out := l) (k := k) (n := n) ⟨by have := h.1; simp at this; omega, fun j hj hn => h.2.1 (j + 1) (by simp; omega) (by omega), fun hn => h.2.2 (by simp; omega)⟩
        unfold placeOf at this ⊢
        rw [List.takeWhile_cons_of_pos (by simpa using hx), List.length_cons, this]
    · cases n with
      | zero => unfold placeOf; rw [List.takeWhile_cons_of_neg (by simpa using hx)]; rfl
      | succ n => exact absurd (h.2.1 0 (by simp) (by omega)) hx
def insK (out : List Ky) (k : Ky) : List Ky := if out[placeOf out k]? = some k then out else insAt out k (placeOf out k)
theorem insK_have {out : List Ky} {k : Ky} {n : Nat} (h : Place out k n) (hn : n < out.length) (he : out[n] = k) : insK out k = out := by
  unfold insK; rw [placeOf_eq h, if_pos (by rw [List.getElem?_eq_getElem hn, he])]
theorem insK_new {out : List Ky} {k : Ky} {n : Nat} (h : Place out k n) (hn : ∀ hn : n < out.length, out[n] ≠ k) : insK out k = insAt out k n := by
  unfold insK; rw [placeOf_eq h, if_neg]
  intro he
  obtain ⟨h1, h2⟩ := List.getElem?_eq_some_iff.1 he
  exact hn h1 h2
def keysL (l : List Fct) : List Ky := l.foldl (fun o f => insK o f.key) []
theorem insK_length (out : List Ky) (k : Ky) : (insK out k).length ≤ out.length + 1 := by
  unfold insK insAt
  split
  · omega
  · simp; omega
theorem keysL_take {l : List Fct} {i : Nat} (hi : i < l.length) : keysL (l.take (i + 1)) = insK (keysL (l.take i)) l[i].key := by
  unfold keysL
  rw [← List.take_append_getElem hi, List.foldl_append]; rfl
theorem keysL_le (l : List Fct) (i : Nat) : (keysL (l.take i)).length ≤ i := by
  induction i with
  | zero => simp [keysL]
  | succ i ih =>
    by_cases hi : i < l.length
    · rw [keysL_take hi]
      have := insK_length (keysL (l.take i)) l[i].key
      omega
    · rw [List.take_of_length_le (by omega)] at ih ⊢; omega
theorem keysL_length (l : List Fct) : (keysL l).length ≤ l.length := by
  have := keysL_le l l.length
  rwa [List.take_length] at this

abbrev OwnK (base : Nat) (w : World) (v : Value) (l : List Ky) : Prop := w.ownsRow base 38 3 v l.length (rowsV kc l)

theorem ref_Keys (l : List Fct) (p : Option Addr) (A : Addr) (c : Nat) (w : World) (hs : SlV fc w p A l c) (hl : l.length ≤ 1000000) :
    Calls Try.prog 73 #[.slice p l.length c] w (Ret fun r w' => Ext [] w w' ∧ OwnK w.heap.size w' r (keysL l)) := by
  have hp := hs.ptr
  have hrow := hs.row
  refine calls_of_Sx (args := [.slice p l.length c]) Try.func73 rfl rfl ?_
  refine ztx ?_
  refine Ox.pure rfl rfl zas ?_
  refine Ox.fin ?_
  refine ztx ?_
  refine Ox.act rfl rfl (acts_buildSlice (ps := []) rfl rfl rfl rfl rfl rfl rfl rfl) ?_
  rintro vb0 wb0 ⟨eb0, bb0, rfl, hbb0, hBb0⟩
  first | (have hCb0 : Cells wb0 ⟨bb0, 0, none⟩ [] := hBb0.cells) | have hCb0 := Blk.cellsL hBb0
  have hlb0 := hBb0.lt
  have hzb0 := eb0.size
  refine Ox.pure rfl rfl zas ?_
  refine Ox.fin ?_
  refine ztx ?_
  refine Ox.pure rfl rfl zas ?_
  refine Ox.fin ?_
  refine zbl ?_
  have ho0 : wb0.ownsRow w.heap.size 38 3 (.slice (some ⟨bb0, 0, none⟩) 0 0) 0 [] := own_built (size := 3) (len := 0) hBb0 (by omega) rfl (by decide)
  refine Sx.loop (ι := Nat × Value) (fun i E wr => E = [(0, .slice p l.length c), (3, i.2), (4, .int .i64 (i.1 : Int))] ∧ i.1 ≤ l.length ∧ Ext [] w wr ∧ OwnK w.heap.size wr i.2 (keysL (l.take i.1))) (fun i => l.length - i.1) (0, .slice (some ⟨bb0, 0, none⟩) 0 0)
    (sub_cons rfl (sub_cons rfl (sub_cons rfl sub_nil))) ⟨rfl, Nat.zero_le _, zxc, own_keep0 ho0 zxc⟩ ?_
  rintro ⟨i, v⟩ E wr ⟨rfl, hi, er, hown⟩
  dsimp only at hi hown ⊢
  have hz := er.size
  by_cases hlt : i < l.length
  · have hat := rowsV_at fc_len hlt
    have hl8 := fc_len l[i]
    have hkl := keysL_le l i
    have hks := keysL_take hlt
    generalize hK : keysL (l.take i) = K at *
    generalize hki : l[i].key = ki at *
    obtain ⟨q, kcap, B, rfl, hsK, hlK⟩ := SlV.of_own hown (by omega)
    have hqK := hsK.ptr
    have hrowK := hsK.row
    have hleK := hsK.le
    have hsmK := hsK.small
    have hLk : ∀ u, Ext [] wr u → Ld Try.prog u 38 (A.add (i * 8 + 0)) (.agg (kc ki).toArray) := fun u hu => by
      have := (hrow.ext0 (er.trans hu)).ldP (P := Try.prog) (t := 38) (m := 3) (cs' := kc ki) (i * 8) rfl rfl (by
        have h9 := congrArg (fun x => x.take 3) hat
        simp only [List.take_take] at h9
        rw [← hki]
        exact h9) rfl
      exact this
    have hD : ∀ n, n ≤ K.length → ∀ u, Ext [] wr u → Src Try.prog 3 48 (.slice (if kcap = n then q else q.map (·.add (n * 3))) (K.length - n) (kcap - n)) (K.length - n) (rowsV kc (K.drop n)) u := fun n hn u hu => by
      have := SlV.src (P := Try.prog) (enc := kc) (m := 3) (w := u) (tx := 48) (p := if kcap = n then q else q.map (·.add (n * 3))) (A := B.add (n * 3)) (l := K.drop n) (cap := kcap - n)
        ⟨fun h => by rw [List.length_drop] at h; rw [if_neg (by omega), hqK (by omega)]; rfl, by rw [← rowsV_drop kc_len]; exact (hrowK.ext0 hu).drop _, by rw [List.length_drop]; omega, by omega, by rw [List.length_drop]; omega⟩ rfl kc_len kc_one
      rwa [List.length_drop] at this
    refine ztx ?_
    refine Ox.pure rfl rfl zmv ?_
    refine Ox.pure rfl rfl zmv ?_
    refine Ox.pure rfl rfl (rp_lenS rfl rfl rfl) ?_
    refine Ox.pure rfl rfl zbc ?_
    refine Ox.fin ?_
    refine zct ?_
    refine zsk ?_
    refine zbl ?_
    refine ztx ?_
    refine Ox.pure rfl rfl zas ?_
    refine Ox.fin ?_
    refine Sx.seq (Sx.upto (fun E' w' => ∃ n : Nat, (∀ t u, get [(0, .slice p l.length c), (3, .slice q K.length kcap), (4, .int .i64 (i : Int)), (5, .int .i64 (n : Int))] t = some u → get E' t = some u) ∧ Place K ki n ∧ Ext [] wr w') ?_ ?_)
    · refine zbl ?_
      refine Sx.loop (ι := Nat) (fun n E wk => E = [(0, .slice p l.length c), (3, .slice q K.length kcap), (4, .int .i64 (i : Int)), (5, .int .i64 (n : Int))] ∧ n ≤ K.length ∧ (∀ j, (h : j < K.length) → j < n → lessK K[j] ki) ∧ Ext [] wr wk) (fun n => K.length - n) 0
        (sub_cons rfl (sub_cons rfl (sub_cons rfl (sub_cons rfl sub_nil)))) ⟨rfl, Nat.zero_le _, fun j _ h => by omega, zxc⟩ ?_
      rintro n E wk ⟨rfl, hn, hall, ek⟩
      by_cases hlt2 : n < K.length
      · have hatK := rowsV_at kc_len hlt2
        have hl3 := kc_len K[n]
        by_cases hless : lessK K[n] ki
        · have hdt := decide_eq_true hless
          (repeat refine Sx.seq ?_)
          refine Sx.walkR rfl (fun _ _ _ _ h => h) [0, 1, 2, 3, 4, 5, 6, 7, 8, 9, 10, 11, 12, 13, 14, 15] [0, 1, 2, 3, 4, 5, 6, 7, 8, 9, 10, 11, 12, 13, 15] (0) (by kernel_rfl) ?_
          intro hq w1 e1; have hz1 := e1.size
          refine Wx.pure hq rfl rfl rfl rfl zmv ?_
          refine Wx.pure hq rfl rfl rfl rfl zmv ?_
          refine Wx.pure hq rfl rfl rfl rfl (rp_lenS rfl rfl rfl) ?_
          refine Wx.pure hq rfl rfl rfl rfl zbc ?_
          refine Wx.pure hq rfl rfl rfl rfl zmv ?_
          first | (refine Wx.skip hq rfl rfl rfl rfl ?_) | (refine Wx.pure hq rfl rfl rfl rfl zmv ?_)
          first | (refine Wx.skip hq rfl rfl rfl rfl ?_) | (refine Wx.pure hq rfl rfl rfl rfl zmv ?_)
          first | (refine Wx.skip hq rfl rfl rfl rfl ?_) | (refine Wx.pure hq rfl rfl rfl rfl zix ?_)
          first | (refine Wx.skip hq rfl rfl rfl rfl ?_) | (refine Wx.val hq rfl rfl rfl rfl ([]) zra ?_)
          first | (refine Wx.skip hq rfl rfl rfl rfl ?_) | (refine Wx.pure hq rfl rfl rfl rfl zmv ?_)
          first | (refine Wx.skip hq rfl rfl rfl rfl ?_) | (refine Wx.pure hq rfl rfl rfl rfl zmv ?_)
          first | (refine Wx.skip hq rfl rfl rfl rfl ?_) | (refine Wx.pure hq rfl rfl rfl rfl zix ?_)
          first | (refine Wx.skip hq rfl rfl rfl rfl ?_) | (refine Wx.pure hq rfl rfl rfl rfl zfa ?_)
          first | (refine Wx.skip hq rfl rfl rfl rfl ?_) | (refine Wx.val hq rfl rfl rfl rfl ([]) (rv_load rfl rfl (fun u hu => hLk u zxc)) ?_)
          first | (refine Wx.actSkip rfl rfl rfl rfl ?_) | (refine Wx.actNew rfl rfl rfl rfl (acts_call rfl rfl rfl (ref_LessKey K[n] ki _)) ?_; rintro v2 w2 e2 rfl; have hz2 := e2.size; rw [decide_eq_true hless])
          refine Wx.pure hq rfl rfl rfl rfl zpk ?_
          refine Wx.fin ?_
          refine zct ?_
          refine zsk ?_
          refine zbl ?_
          refine ztx ?_
          refine Ox.pure rfl rfl zmv ?_
          refine Ox.pure rfl rfl zba ?_
          refine Ox.pure rfl rfl zas ?_
          refine Ox.fin ?_
          exact ⟨n + 1, _, sub_cons rfl (sub_cons rfl (sub_cons rfl (sub_cons rfl sub_nil))), ⟨rfl, hlt2, fun j h1 h2 => by
            rcases Nat.lt_or_ge j n with h3 | h3
            · exact hall j h1 h3
            · obtain rfl : j = n := by omega
              exact hless, zxc⟩, by omega⟩
        · 
          (repeat refine Sx.seq ?_)
          refine Sx.walkR rfl (fun _ _ _ _ h => h) [0, 1, 2, 3, 4, 5, 6, 7, 8, 9, 10, 11, 12, 13, 14, 15] [0, 1, 2, 3, 4, 5, 6, 7, 8, 9, 10, 11, 12, 13, 15] (0) (by kernel_rfl) ?_
          intro hq w3 e3; have hz3 := e3.size
          refine Wx.pure hq rfl rfl rfl rfl zmv ?_
          refine Wx.pure hq rfl rfl rfl rfl zmv ?_
          refine Wx.pure hq rfl rfl rfl rfl (rp_lenS rfl rfl rfl) ?_
          refine Wx.pure hq rfl rfl rfl rfl zbc ?_
          refine Wx.pure hq rfl rfl rfl rfl zmv ?_
          first | (refine Wx.skip hq rfl rfl rfl rfl ?_) | (refine Wx.pure hq rfl rfl rfl rfl zmv ?_)
          first | (refine Wx.skip hq rfl rfl rfl rfl ?_) | (refine Wx.pure hq rfl rfl rfl rfl zmv ?_)
          first | (refine Wx.skip hq rfl rfl rfl rfl ?_) | (refine Wx.pure hq rfl rfl rfl rfl zix ?_)
          first | (refine Wx.skip hq rfl rfl rfl rfl ?_) | (refine Wx.val hq rfl rfl rfl rfl ([]) zra ?_)
          first | (refine Wx.skip hq rfl rfl rfl rfl ?_) | (refine Wx.pure hq rfl rfl rfl rfl zmv ?_)
          first | (refine Wx.skip hq rfl rfl rfl rfl ?_) | (refine Wx.pure hq rfl rfl rfl rfl zmv ?_)
          first | (refine Wx.skip hq rfl rfl rfl rfl ?_) | (refine Wx.pure hq rfl rfl rfl rfl zix ?_)
          first | (refine Wx.skip hq rfl rfl rfl rfl ?_) | (refine Wx.pure hq rfl rfl rfl rfl zfa ?_)
          first | (refine Wx.skip hq rfl rfl rfl rfl ?_) | (refine Wx.val hq rfl rfl rfl rfl ([]) (rv_load rfl rfl (fun u hu => hLk u zxc)) ?_)
          first | (refine Wx.actSkip rfl rfl rfl rfl ?_) | (refine Wx.actNew rfl rfl rfl rfl (acts_call rfl rfl rfl (ref_LessKey K[n] ki _)) ?_; rintro v4 w4 e4 rfl; have hz4 := e4.size; rw [decide_eq_false hless])
          refine Wx.pure hq rfl rfl rfl rfl zpk ?_
          refine Wx.fin ?_
          refine zcf ?_
          refine zex ?_
          exact ⟨n, sub_cons rfl (sub_cons rfl (sub_cons rfl (sub_cons rfl sub_nil))), ⟨hn, hall, fun _ => hless⟩, zxc⟩
      · (repeat refine Sx.seq ?_)
        refine Sx.walkR rfl (fun _ _ _ _ h => h) [0, 1, 2, 3, 4, 5, 6, 7, 8, 9, 10, 11, 12, 13, 14, 15] [0, 1, 2, 3, 4, 5, 6, 7, 8, 9, 10, 11, 12, 13, 15] (0) (by kernel_rfl) ?_
        intro hq w5 e5; have hz5 := e5.size
        refine Wx.pure hq rfl rfl rfl rfl zmv ?_
        refine Wx.pure hq rfl rfl rfl rfl zmv ?_
        refine Wx.pure hq rfl rfl rfl rfl (rp_lenS rfl rfl rfl) ?_
        refine Wx.pure hq rfl rfl rfl rfl zbc ?_
        refine Wx.pure hq rfl rfl rfl rfl zmv ?_
        first | (refine Wx.skip hq rfl rfl rfl rfl ?_) | (refine Wx.pure hq rfl rfl rfl rfl zmv ?_)
        first | (refine Wx.skip hq rfl rfl rfl rfl ?_) | (refine Wx.pure hq rfl rfl rfl rfl zmv ?_)
        first | (refine Wx.skip hq rfl rfl rfl rfl ?_) | (refine Wx.pure hq rfl rfl rfl rfl zix ?_)
        first | (refine Wx.skip hq rfl rfl rfl rfl ?_) | (refine Wx.val hq rfl rfl rfl rfl ([]) zra ?_)
        first | (refine Wx.skip hq rfl rfl rfl rfl ?_) | (refine Wx.pure hq rfl rfl rfl rfl zmv ?_)
        first | (refine Wx.skip hq rfl rfl rfl rfl ?_) | (refine Wx.pure hq rfl rfl rfl rfl zmv ?_)
        first | (refine Wx.skip hq rfl rfl rfl rfl ?_) | (refine Wx.pure hq rfl rfl rfl rfl zix ?_)
        first | (refine Wx.skip hq rfl rfl rfl rfl ?_) | (refine Wx.pure hq rfl rfl rfl rfl zfa ?_)
        first | (refine Wx.skip hq rfl rfl rfl rfl ?_) | (refine Wx.val hq rfl rfl rfl rfl ([]) (rv_load rfl rfl (fun u hu => hLk u zxc)) ?_)
        first | (refine Wx.actSkip rfl rfl rfl rfl ?_) | (refine Wx.actNew rfl rfl rfl rfl (acts_call rfl rfl rfl (ref_LessKey K[n] ki _)) ?_; rintro v6 w6 e6 rfl; have hz6 := e6.size; rw [decide_eq_false hless])
        refine Wx.pure hq rfl rfl rfl rfl zpk ?_
        refine Wx.fin ?_
        refine zcf ?_
        refine zex ?_
        exact ⟨n, sub_cons rfl (sub_cons rfl (sub_cons rfl (sub_cons rfl sub_nil))), ⟨hn, hall, fun h => absurd h hlt2⟩, zxc⟩
    · rintro E' wn ⟨n, hsub, hpl, en⟩
      refine thenE_normal (Sx.weaken ?_ hsub)
      have hn := hpl.1
      have hzn := en.size
      have hKt : ∀ u, Ext [] wr u → Cells u (B.add 0) (rowsV kc (K.take n)) := fun u hu => by rw [addr_add0]; have := (hrowK.ext0 hu).take (n * 3); rwa [rowsV_take kc_len] at this
      have hfin : ∀ v u, u.ownsRow w.heap.size 38 3 v (n - 0 + (ki :: K.drop n).length) (rowsV kc (K.take n) ++ rowsV kc (ki :: K.drop n)) → OwnK w.heap.size u v (insAt K ki n) := fun v u h => by
        rw [← rowsV_append] at h
        unfold OwnK insAt
        rw [show (K.take n ++ ki :: K.drop n).length = n - 0 + (ki :: K.drop n).length by rw [List.length_append, List.length_take, Nat.min_eq_left hn]; rfl]
        exact h
      rcases Nat.lt_or_ge n K.length with hlt2 | hge
      · have hatK := rowsV_at kc_len hlt2
        have hl3 := kc_len K[n]
        by_cases he : K[n] = ki
        · (repeat refine Sx.seq ?_)
          refine Sx.walkR rfl (fun _ _ _ _ h => h) [0, 1, 2, 3, 4, 5, 6, 7, 8, 9, 10, 11, 12, 13, 14, 15] [0, 1, 2, 3, 4, 5, 6, 7, 8, 9, 10, 11, 12, 13, 14, 15] (0) (by kernel_rfl) ?_
          intro hq w7 e7; have hz7 := e7.size
          refine Wx.pure hq rfl rfl rfl rfl zmv ?_
          refine Wx.pure hq rfl rfl rfl rfl zmv ?_
          refine Wx.pure hq rfl rfl rfl rfl (rp_lenS rfl rfl rfl) ?_
          refine Wx.pure hq rfl rfl rfl rfl zbc ?_
          refine Wx.pure hq rfl rfl rfl rfl zmv ?_
          first | (refine Wx.skip hq rfl rfl rfl rfl ?_) | (refine Wx.pure hq rfl rfl rfl rfl zmv ?_)
          first | (refine Wx.skip hq rfl rfl rfl rfl ?_) | (refine Wx.pure hq rfl rfl rfl rfl zmv ?_)
          first | (refine Wx.skip hq rfl rfl rfl rfl ?_) | (refine Wx.pure hq rfl rfl rfl rfl zix ?_)
          first | (refine Wx.skip hq rfl rfl rfl rfl ?_) | (refine Wx.val hq rfl rfl rfl rfl ([]) zra ?_)
          first | (refine Wx.skip hq rfl rfl rfl rfl ?_) | (refine Wx.pure hq rfl rfl rfl rfl zmv ?_)
          first | (refine Wx.skip hq rfl rfl rfl rfl ?_) | (refine Wx.pure hq rfl rfl rfl rfl zmv ?_)
          first | (refine Wx.skip hq rfl rfl rfl rfl ?_) | (refine Wx.pure hq rfl rfl rfl rfl zix ?_)
          first | (refine Wx.skip hq rfl rfl rfl rfl ?_) | (refine Wx.pure hq rfl rfl rfl rfl zfa ?_)
          first | (refine Wx.skip hq rfl rfl rfl rfl ?_) | (refine Wx.val hq rfl rfl rfl rfl ([]) (rv_load rfl rfl (fun u hu => hLk u zxc)) ?_)
          first | (refine Wx.skip hq rfl rfl rfl rfl ?_) | (refine Wx.pure hq rfl rfl rfl rfl (by first | exact rp_eqA_t rfl egKy rfl rfl (eqKy K[n] ki) (by assumption) | exact rp_eqA_f rfl egKy rfl rfl (eqKy K[n] ki) (by assumption)) ?_)
          refine Wx.pure hq rfl rfl rfl rfl zpk ?_
          refine Wx.fin ?_
          refine zct ?_
          refine zex ?_
          refine ztx ?_
          refine Ox.pure rfl rfl zmv ?_
          refine Ox.pure rfl rfl zba ?_
          refine Ox.pure rfl rfl zas ?_
          refine Ox.fin ?_
          exact ⟨(i + 1, .slice q K.length kcap), _, sub_cons rfl (sub_cons rfl (sub_cons rfl sub_nil)), ⟨rfl, hlt, zxc, by dsimp only; rw [hks, insK_have hpl hlt2 he]; exact own_keep0 hown zxc⟩, by dsimp only; omega⟩
        · (repeat refine Sx.seq ?_)
          refine Sx.walkR rfl (fun _ _ _ _ h => h) [0, 1, 2, 3, 4, 5, 6, 7, 8, 9, 10, 11, 12, 13, 14, 15] [0, 1, 2, 3, 4, 5, 6, 7, 8, 9, 10, 11, 12, 13, 14, 15] (0) (by kernel_rfl) ?_
          intro hq w8 e8; have hz8 := e8.size
          refine Wx.pure hq rfl rfl rfl rfl zmv ?_
          refine Wx.pure hq rfl rfl rfl rfl zmv ?_
          refine Wx.pure hq rfl rfl rfl rfl (rp_lenS rfl rfl rfl) ?_
          refine Wx.pure hq rfl rfl rfl rfl zbc ?_
          refine Wx.pure hq rfl rfl rfl rfl zmv ?_
          first | (refine Wx.skip hq rfl rfl rfl rfl ?_) | (refine Wx.pure hq rfl rfl rfl rfl zmv ?_)
          first | (refine Wx.skip hq rfl rfl rfl rfl ?_) | (refine Wx.pure hq rfl rfl rfl rfl zmv ?_)
          first | (refine Wx.skip hq rfl rfl rfl rfl ?_) | (refine Wx.pure hq rfl rfl rfl rfl zix ?_)
          first | (refine Wx.skip hq rfl rfl rfl rfl ?_) | (refine Wx.val hq rfl rfl rfl rfl ([]) zra ?_)
          first | (refine Wx.skip hq rfl rfl rfl rfl ?_) | (refine Wx.pure hq rfl rfl rfl rfl zmv ?_)
          first | (refine Wx.skip hq rfl rfl rfl rfl ?_) | (refine Wx.pure hq rfl rfl rfl rfl zmv ?_)
          first | (refine Wx.skip hq rfl rfl rfl rfl ?_) | (refine Wx.pure hq rfl rfl rfl rfl zix ?_)
          first | (refine Wx.skip hq rfl rfl rfl rfl ?_) | (refine Wx.pure hq rfl rfl rfl rfl zfa ?_)
          first | (refine Wx.skip hq rfl rfl rfl rfl ?_) | (refine Wx.val hq rfl rfl rfl rfl ([]) (rv_load rfl rfl (fun u hu => hLk u zxc)) ?_)
          first | (refine Wx.skip hq rfl rfl rfl rfl ?_) | (refine Wx.pure hq rfl rfl rfl rfl (by first | exact rp_eqA_t rfl egKy rfl rfl (eqKy K[n] ki) (by assumption) | exact rp_eqA_f rfl egKy rfl rfl (eqKy K[n] ki) (by assumption)) ?_)
          refine Wx.pure hq rfl rfl rfl rfl zpk ?_
          refine Wx.fin ?_
          refine zcf ?_
          refine zsk ?_
          (repeat refine Sx.seq ?_)
          refine Sx.walkR rfl (fun _ _ _ _ h => h) [0, 1, 2, 3, 4, 6, 7, 8, 5, 9, 10] [0, 1, 2, 3, 4, 6, 7, 8, 10] (0) (by kernel_rfl) ?_
          intro hq w9 e9; have hz9 := e9.size
          refine Wx.pure hq rfl rfl rfl rfl zmv ?_
          refine Wx.pure hq rfl rfl rfl rfl zmv ?_
          refine Wx.pure hq rfl rfl rfl rfl zix ?_
          refine Wx.pure hq rfl rfl rfl rfl zfa ?_
          refine Wx.val hq rfl rfl rfl rfl ([]) (rv_load rfl rfl (fun u hu => hLk u zxc)) ?_
          refine Wx.pure hq rfl rfl rfl rfl zmv ?_
          refine Wx.pure hq rfl rfl rfl rfl zmv ?_
          refine Wx.pure hq rfl rfl rfl rfl (rp_sliceS n K.length rfl rfl rfl rfl rfl rfl (.inr ⟨_, rfl⟩) (.inl ⟨rfl, rfl⟩) hn hleK) ?_
          refine Wx.actNew rfl rfl rfl rfl (acts_buildSlice (ps := [(0, .tmp 52)]) rfl rfl rfl rfl rfl rfl rfl rfl) ?_
          rintro vbs wbs ebs ⟨bbs, rfl, hbbs, hBbs⟩
          first | (have hCbs : Cells wbs ⟨bbs, 0, none⟩ [_, _, _] := hBbs.cells) | have hCbs := Blk.cellsL hBbs
          have hlbs := hBbs.lt
          have hzbs := ebs.size
          refine Wx.actLast rfl rfl rfl rfl (by kernel_rfl) (acts_append (e := 38) (size := 3) (bytes := 24) rfl rfl rfl rfl (own_keep0 (show wbs.ownsRow wr.heap.size 38 3 (.slice (some ⟨bbs, 0, none⟩) 1 1) 1 (rowsV kc [ki]) from own_built (size := 3) (len := 1) hBbs (by omega) rfl (by decide)) zxc) (hD n hn _ zxc) (by first | omega | (dsimp only; omega)) (by first | omega | (dsimp only; omega)) (by omega)) ?_
          rintro va1 wa1 hga1
          have ea1 : Ext [] wr wa1 := hga1.ext0 zxc (fun g hg => by simp [Value.ownBlock] at hg; omega)
          have hza1 := ea1.size
          have ho1 : wa1.ownsRow wr.heap.size 38 3 va1 (ki :: K.drop n).length (rowsV kc (ki :: K.drop n)) := by have h9 := hga1.own; rw [← rowsV_append] at h9; rw [show (ki :: K.drop n).length = 1 + (K.length - n) by simp; omega]; exact h9
          obtain ⟨p1, k1, A1, rfl, hsr2, hlr2⟩ := SlV.of_own ho1 (by simp; omega)
          refine Wx.pure hq rfl rfl rfl rfl zas ?_
          refine Wx.fin ?_
          refine ztx ?_
          refine Ox.pure rfl rfl zmv ?_
          refine Ox.pure rfl rfl zmv ?_
          refine Ox.pure rfl rfl zmv ?_
          refine Ox.pure rfl rfl (rp_slice3 0 n n rfl rfl rfl rfl rfl rfl rfl (.inl ⟨rfl, rfl⟩) ⟨_, rfl⟩ ⟨_, rfl⟩ (by omega) (by omega) (by omega)) ?_
          refine Ox.pure rfl rfl zmv ?_
          refine Ox.act rfl rfl (acts_append_full (e := 38) (size := 3) (bytes := 24) (A := B.add 0) (xs := rowsV kc (K.take n)) rfl rfl rfl rfl (fun h0 => by rw [if_neg (by omega), hqK (by omega)]; rfl) (by rw [rowsV_length kc_len, List.length_take, Nat.min_eq_left hn]; rfl) (hKt _ zxc) (hsr2.src rfl kc_len kc_one) (by simp) (by simp; omega) (by simp; omega) w.heap.size (by omega)) ?_
          rintro va2 wa2 ⟨howna2, ea2⟩
          refine Ox.pure rfl rfl zas ?_
          refine Ox.fin ?_
          refine ztx ?_
          refine Ox.pure rfl rfl zmv ?_
          refine Ox.pure rfl rfl zba ?_
          refine Ox.pure rfl rfl zas ?_
          refine Ox.fin ?_
          exact ⟨(i + 1, va2), _, sub_cons rfl (sub_cons rfl (sub_cons rfl sub_nil)), ⟨rfl, hlt, zxc, by dsimp only; rw [hks, insK_new hpl (fun _ => he)]; exact own_keep0 (hfin _ _ howna2) zxc⟩, by dsimp only; omega⟩
      · (repeat refine Sx.seq ?_)
        refine Sx.walkR rfl (fun _ _ _ _ h => h) [0, 1, 2, 3, 4, 5, 6, 7, 8, 9, 10, 11, 12, 13, 14, 15] [0, 1, 2, 3, 4, 5, 6, 7, 8, 9, 10, 11, 12, 13, 14, 15] (0) (by kernel_rfl) ?_
        intro hq w10 e10; have hz10 := e10.size
        refine Wx.pure hq rfl rfl rfl rfl zmv ?_
        refine Wx.pure hq rfl rfl rfl rfl zmv ?_
        refine Wx.pure hq rfl rfl rfl rfl (rp_lenS rfl rfl rfl) ?_
        refine Wx.pure hq rfl rfl rfl rfl zbc ?_
        refine Wx.pure hq rfl rfl rfl rfl zmv ?_
        first | (refine Wx.skip hq rfl rfl rfl rfl ?_) | (refine Wx.pure hq rfl rfl rfl rfl zmv ?_)
        first | (refine Wx.skip hq rfl rfl rfl rfl ?_) | (refine Wx.pure hq rfl rfl rfl rfl zmv ?_)
        first | (refine Wx.skip hq rfl rfl rfl rfl ?_) | (refine Wx.pure hq rfl rfl rfl rfl zix ?_)
        first | (refine Wx.skip hq rfl rfl rfl rfl ?_) | (refine Wx.val hq rfl rfl rfl rfl ([]) zra ?_)
        first | (refine Wx.skip hq rfl rfl rfl rfl ?_) | (refine Wx.pure hq rfl rfl rfl rfl zmv ?_)
        first | (refine Wx.skip hq rfl rfl rfl rfl ?_) | (refine Wx.pure hq rfl rfl rfl rfl zmv ?_)
        first | (refine Wx.skip hq rfl rfl rfl rfl ?_) | (refine Wx.pure hq rfl rfl rfl rfl zix ?_)
        first | (refine Wx.skip hq rfl rfl rfl rfl ?_) | (refine Wx.pure hq rfl rfl rfl rfl zfa ?_)
        first | (refine Wx.skip hq rfl rfl rfl rfl ?_) | (refine Wx.val hq rfl rfl rfl rfl ([]) (rv_load rfl rfl (fun u hu => hLk u zxc)) ?_)
        first | (refine Wx.skip hq rfl rfl rfl rfl ?_) | (refine Wx.pure hq rfl rfl rfl rfl (by first | exact rp_eqA_t rfl egKy rfl rfl (eqKy K[n] ki) (by assumption) | exact rp_eqA_f rfl egKy rfl rfl (eqKy K[n] ki) (by assumption)) ?_)
        refine Wx.pure hq rfl rfl rfl rfl zpk ?_
        refine Wx.fin ?_
        refine zcf ?_
        refine zsk ?_
        (repeat refine Sx.seq ?_)
        refine Sx.walkR rfl (fun _ _ _ _ h => h) [0, 1, 2, 3, 4, 6, 7, 8, 5, 9, 10] [0, 1, 2, 3, 4, 6, 7, 8, 10] (0) (by kernel_rfl) ?_
        intro hq w11 e11; have hz11 := e11.size
        refine Wx.pure hq rfl rfl rfl rfl zmv ?_
        refine Wx.pure hq rfl rfl rfl rfl zmv ?_
        refine Wx.pure hq rfl rfl rfl rfl zix ?_
        refine Wx.pure hq rfl rfl rfl rfl zfa ?_
        refine Wx.val hq rfl rfl rfl rfl ([]) (rv_load rfl rfl (fun u hu => hLk u zxc)) ?_
        refine Wx.pure hq rfl rfl rfl rfl zmv ?_
        refine Wx.pure hq rfl rfl rfl rfl zmv ?_
        refine Wx.pure hq rfl rfl rfl rfl (rp_sliceS n K.length rfl rfl rfl rfl rfl rfl (.inr ⟨_, rfl⟩) (.inl ⟨rfl, rfl⟩) hn hleK) ?_
        refine Wx.actNew rfl rfl rfl rfl (acts_buildSlice (ps := [(0, .tmp 52)]) rfl rfl rfl rfl rfl rfl rfl rfl) ?_
        rintro vbs wbs ebs ⟨bbs, rfl, hbbs, hBbs⟩
        first | (have hCbs : Cells wbs ⟨bbs, 0, none⟩ [_, _, _] := hBbs.cells) | have hCbs := Blk.cellsL hBbs
        have hlbs := hBbs.lt
        have hzbs := ebs.size
        refine Wx.actLast rfl rfl rfl rfl (by kernel_rfl) (acts_append (e := 38) (size := 3) (bytes := 24) rfl rfl rfl rfl (own_keep0 (show wbs.ownsRow wr.heap.size 38 3 (.slice (some ⟨bbs, 0, none⟩) 1 1) 1 (rowsV kc [ki]) from own_built (size := 3) (len := 1) hBbs (by omega) rfl (by decide)) zxc) (hD n hn _ zxc) (by first | omega | (dsimp only; omega)) (by first | omega | (dsimp only; omega)) (by omega)) ?_
        rintro va1 wa1 hga1
        have ea1 : Ext [] wr wa1 := hga1.ext0 zxc (fun g hg => by simp [Value.ownBlock] at hg; omega)
        have hza1 := ea1.size
        have ho1 : wa1.ownsRow wr.heap.size 38 3 va1 (ki :: K.drop n).length (rowsV kc (ki :: K.drop n)) := by have h9 := hga1.own; rw [← rowsV_append] at h9; rw [show (ki :: K.drop n).length = 1 + (K.length - n) by simp; omega]; exact h9
        obtain ⟨p1, k1, A1, rfl, hsr2, hlr2⟩ := SlV.of_own ho1 (by simp; omega)
        refine Wx.pure hq rfl rfl rfl rfl zas ?_
        refine Wx.fin ?_
        refine ztx ?_
        refine Ox.pure rfl rfl zmv ?_
        refine Ox.pure rfl rfl zmv ?_
        refine Ox.pure rfl rfl zmv ?_
        refine Ox.pure rfl rfl (rp_slice3 0 n n rfl rfl rfl rfl rfl rfl rfl (.inl ⟨rfl, rfl⟩) ⟨_, rfl⟩ ⟨_, rfl⟩ (by omega) (by omega) (by omega)) ?_
        refine Ox.pure rfl rfl zmv ?_
        refine Ox.act rfl rfl (acts_append_full (e := 38) (size := 3) (bytes := 24) (A := B.add 0) (xs := rowsV kc (K.take n)) rfl rfl rfl rfl (fun h0 => by rw [if_neg (by omega), hqK (by omega)]; rfl) (by rw [rowsV_length kc_len, List.length_take, Nat.min_eq_left hn]; rfl) (hKt _ zxc) (hsr2.src rfl kc_len kc_one) (by simp) (by simp; omega) (by simp; omega) w.heap.size (by omega)) ?_
        rintro va2 wa2 ⟨howna2, ea2⟩
        refine Ox.pure rfl rfl zas ?_
        refine Ox.fin ?_
        refine ztx ?_
        refine Ox.pure rfl rfl zmv ?_
        refine Ox.pure rfl rfl zba ?_
        refine Ox.pure rfl rfl zas ?_
        refine Ox.fin ?_
        exact ⟨(i + 1, va2), _, sub_cons rfl (sub_cons rfl (sub_cons rfl sub_nil)), ⟨rfl, hlt, zxc, by dsimp only; rw [hks, insK_new hpl (fun h => by omega)]; exact own_keep0 (hfin _ _ howna2) zxc⟩, by dsimp only; omega⟩
  · rw [List.take_of_length_le (by omega)] at hown
    refine ztx ?_
    refine Ox.pure rfl rfl zmv ?_
    refine Ox.pure rfl rfl zmv ?_
    refine Ox.pure rfl rfl (rp_lenS rfl rfl rfl) ?_
    refine Ox.pure rfl rfl zbc ?_
    refine Ox.fin ?_
    refine zcf ?_
    refine zex ?_
    refine ztx ?_
    refine Ox.pure rfl rfl zmv ?_
    refine Ox.pure rfl rfl zas ?_
    refine Ox.fin ?_
    refine zrt ?_
    exact endE_ret [_] ⟨rfl, trivial⟩ ⟨zxc, own_keep0 hown zxc⟩

end Go.Proofs.Ytfgckcochilpkaa

/- Plain: the keys of facts, sorted. No program in sight. -/
set_option linter.unusedVariables false
set_option linter.unusedSimpArgs false
namespace Go.Proofs.Ytfgckcochilpkaa
open Go Go.Eng

theorem insK_cons (x : Ky) (l : List Ky) (k : Ky) : insK (x :: l) k = if lessK x k then x :: insK l k else if x = k then x :: l else k :: x :: l := by
  by_cases h : lessK x k
  · have hp : placeOf (x :: l) k = placeOf l k + 1 := by
      unfold placeOf; rw [List.takeWhile_cons_of_pos (by simpa using h)]; rfl
    rw [if_pos h]
    unfold insK insAt
    rw [hp, List.getElem?_cons_succ]
    split
    · rfl
    · simp
  · have hp : placeOf (x :: l) k = 0 := by
      unfold placeOf; rw [List.takeWhile_cons_of_neg (by simpa using h)]; rfl
    rw [if_neg h]
    unfold insK insAt
    rw [hp]
    by_cases he : x = k
    · simp [he]
    · simp [he]
theorem mem_insK {y : Ky} : ∀ {l : List Ky} {k : Ky}, y ∈ insK l k ↔ y = k ∨ y ∈ l
  | [], k => by simp [insK, insAt, placeOf]
  | x :: l, k => by
    rw [insK_cons]
    split
    · rw [List.mem_cons, mem_insK (l := l), List.mem_cons]
      constructor
      · rintro (h | h | h)
        · exact .inr (.inl h)
        · exact .inl h
        · exact .inr (.inr h)
      · rintro (h | h | h)
        · exact .inr (.inl h)
        · exact .inl h
        · exact .inr (.inr h)
    · split
      · rename_i he
        subst he
        constructor
        · exact .inr
        · rintro (h | h)
          · simp [h]
          · exact h
      · rw [List.mem_cons]
theorem insK_sorted : ∀ {l : List Ky} {k : Ky}, l.Pairwise lessK → (insK l k).Pairwise lessK
  | [], k, _ => by simp [insK, insAt, placeOf]
  | x :: l, k, h => by
    obtain ⟨h1, h2⟩ := List.pairwise_cons.1 h
    rw [insK_cons]
    split
    · rename_i hx
      refine List.pairwise_cons.2 ⟨fun y hy => ?_, insK_sorted h2⟩
      rcases mem_insK.1 hy with rfl | hy
      · exact hx
      · exact h1 y hy
    · split
      · exact h
      · rename_i hx he
        have hkx := lessK_total hx he
        refine List.pairwise_cons.2 ⟨fun y hy => ?_, h⟩
        rcases List.mem_cons.1 hy with rfl | hy
        · exact hkx
        · exact lessK_trans hkx (h1 y hy)
theorem keysL_spec (l : List Fct) : (keysL l).Pairwise lessK ∧ ∀ k, k ∈ keysL l ↔ ∃ f ∈ l, f.key = k := by
  have key : ∀ (m : List Fct) (o : List Ky), o.Pairwise lessK → (m.foldl (fun o f => insK o f.key) o).Pairwise lessK ∧ ∀ k, k ∈ m.foldl (fun o f => insK o f.key) o ↔ k ∈ o ∨ ∃ f ∈ m, f.key = k := by
    intro m
    induction m with
    | nil => intro o ho; exact ⟨ho, fun k => by simp⟩
    | cons f m ih =>
      intro o ho
      obtain ⟨h1, h2⟩ := ih (insK o f.key) (insK_sorted ho)
      refine ⟨h1, fun k => ?_⟩
      rw [List.foldl_cons, h2, mem_insK]
      constructor
      · rintro ((h | h) | ⟨g, h3, h4⟩)
        · exact .inr ⟨f, by simp, h.symm⟩
        · exact .inl h
        · exact .inr ⟨g, by simp [h3], h4⟩
      · rintro (h | ⟨g, h3, h4⟩)
        · exact .inl (.inr h)
        · rcases List.mem_cons.1 h3 with rfl | h3
          · exact .inl (.inl h4.symm)
          · exact .inr ⟨g, h3, h4⟩
  obtain ⟨h1, h2⟩ := key l [] List.Pairwise.nil
  exact ⟨h1, fun k => by rw [show keysL l = l.foldl (fun o f => insK o f.key) [] from rfl, h2]; simp⟩

theorem sorted_nodup {l : List Ky} (h : l.Pairwise lessK) : l.Nodup := h.imp fun h e => by subst e; exact lessK_irrefl _ h
theorem sorted_unique {a b : List Ky} (ha : a.Pairwise lessK) (hb : b.Pairwise lessK) (h : ∀ k, k ∈ a ↔ k ∈ b) : a = b := by
  have hp : a.Perm b := (List.perm_ext_iff_of_nodup (sorted_nodup ha) (sorted_nodup hb)).2 h
  exact hp.eq_of_pairwise (le := lessK) (fun x y _ _ h1 h2 => absurd (lessK_trans h1 h2) (lessK_irrefl x)) ha hb

/-- The map of the keys. -/
def keyM (l : List Fct) : List (Ky × Unit) := l.foldl (fun m f => putL m f.key ()) []
theorem keyM_take {l : List Fct} {i : Nat} (hi : i < l.length) : keyM (l.take (i + 1)) = putL (keyM (l.take i)) l[i].key () := by
  unfold keyM
  rw [← List.take_append_getElem hi, List.foldl_append]; rfl
theorem putL_fst (m : List (Ky × Unit)) (k : Ky) : (putL m k ()).map Prod.fst = if k ∈ m.map Prod.fst then m.map Prod.fst else m.map Prod.fst ++ [k] := by
  unfold putL
  cases h : Eng.look m k with
  | none =>
    have h1 := look_none.1 h
    rw [if_neg (fun hm => by obtain ⟨x, hx, rfl⟩ := List.mem_map.1 hm; exact h1 x hx rfl)]
    simp
  | some r =>
    obtain ⟨h1, h2⟩ := look_some h
    rw [if_pos (List.mem_map.2 ⟨m[r.1], List.getElem_mem h1, by rw [h2]⟩)]
    show (m.set r.1 (k, ())).map Prod.fst = _
    have : (k, ()) = m[r.1] := by rw [h2]
    rw [this, List.set_getElem_self]
theorem keyM_spec (l : List Fct) : ((keyM l).map Prod.fst).Nodup ∧ ∀ k, k ∈ (keyM l).map Prod.fst ↔ ∃ f ∈ l, f.key = k := by
  have key : ∀ (m : List Fct) (o : List (Ky × Unit)), (o.map Prod.fst).Nodup → ((m.foldl (fun o f => putL o f.key ()) o).map Prod.fst).Nodup ∧ ∀ k, k ∈ (m.foldl (fun o f => putL o f.key ()) o).map Prod.fst ↔ k ∈ o.map Prod.fst ∨ ∃ f ∈ m, f.key = k := by
    intro m
    induction m with
    | nil => intro o ho; exact ⟨ho, fun k => by simp⟩
    | cons f m ih =>
      intro o ho
      have hn : ((putL o f.key ()).map Prod.fst).Nodup := by
        rw [putL_fst]
        split
        · exact ho
        · rename_i hm
          rw [List.nodup_append]
          exact ⟨ho, by simp, fun a ha c hc => by simp only [List.mem_singleton] at hc; subst hc; rintro rfl; exact hm ha⟩
      obtain ⟨h1, h2⟩ := ih (putL o f.key ()) hn
      refine ⟨h1, fun k => ?_⟩
      rw [List.foldl_cons, h2, putL_fst]
      have hmem : k ∈ (if f.key ∈ o.map Prod.fst then o.map Prod.fst else o.map Prod.fst ++ [f.key]) ↔ k ∈ o.map Prod.fst ∨ f.key = k := by
        split
        · rename_i hm
          constructor
          · exact .inl
          · rintro (h | h)
            · exact h
            · exact h ▸ hm
        · rw [List.mem_append, List.mem_singleton]
          constructor
          · rintro (h | h)
            · exact .inl h
            · exact .inr h.symm
          · rintro (h | h)
            · exact .inl h
            · exact .inr h.symm
      rw [hmem]
      constructor
      · rintro ((h | h) | ⟨g, h3, h4⟩)
        · exact .inl h
        · exact .inr ⟨f, by simp, h⟩
        · exact .inr ⟨g, by simp [h3], h4⟩
      · rintro (h | ⟨g, h3, h4⟩)
        · exact .inl (.inl h)
        · rcases List.mem_cons.1 h3 with rfl | h3
          · exact .inl (.inr h4)
          · exact .inr ⟨g, h3, h4⟩
  obtain ⟨h1, h2⟩ := key l [] (by simp)
  exact ⟨h1, fun k => by rw [show keyM l = l.foldl (fun o f => putL o f.key ()) [] from rfl, h2]; simp⟩
theorem keyM_set (l : List Fct) : keyM l = ((keyM l).map Prod.fst).map fun k => (k, ()) := by
  rw [List.map_map]
  conv => lhs; rw [← List.map_id (keyM l)]
  exact List.map_congr_left fun x _ => by cases x; rfl
theorem keys_sorted {l : List Fct} {ks : List Ky} (hp : ks.Perm ((keyM l).map Prod.fst)) (hs : ks.Pairwise (fun a b => ¬ lessK b a)) : ks = keysL l := by
  obtain ⟨h1, h2⟩ := keyM_spec l
  obtain ⟨h3, h4⟩ := keysL_spec l
  have hn : ks.Nodup := hp.nodup_iff.2 h1
  refine sorted_unique ?_ h3 fun k => ?_
  · refine (hs.and hn).imp fun ⟨h5, h6⟩ => ?_
    exact lessK_total h5 (Ne.symm h6)
  · rw [hp.mem_iff, h2, h4]
theorem keyM_length (l : List Fct) : ((keyM l).map Prod.fst).length ≤ l.length := by
  have key : ∀ (m : List Fct) (o : List (Ky × Unit)), ((m.foldl (fun o f => putL o f.key ()) o).map Prod.fst).length ≤ o.length + m.length := by
    intro m
    induction m with
    | nil => intro o; simp
    | cons f m ih =>
      intro o
      have h1 := ih (putL o f.key ())
      have h2 : (putL o f.key ()).length ≤ o.length + 1 := by
        unfold putL; split <;> simp
      rw [List.foldl_cons]
      simp only [List.length_cons]
      omega
  have := key l []
  simp only [List.length_nil, Nat.zero_add] at this
  exact this

end Go.Proofs.Ytfgckcochilpkaa

/- The facts' walks: what differs. -/
set_option linter.unusedVariables false
set_option maxRecDepth 100000
set_option maxHeartbeats 4000000
set_option linter.unusedSimpArgs false
namespace Go.Proofs.Ytfgckcochilpkaa
open Go Go.Eng

def diffL (l : List Fct) (k : Ky) (bef aft : Int) (day : Int) : Prop := atL l k day bef ≠ atL l k day aft
instance (l : List Fct) (k : Ky) (bef aft day : Int) : Decidable (diffL l k bef aft day) := inferInstanceAs (Decidable (¬ (_ = _)))

/-! ## Differences as they lie -/
structure Df where
  key : Ky
  days : List Pt
  p : Option Addr
  c : Nat
abbrev dfc (d : Df) : List Value := [.int .i64 d.key.k, .int .i64 d.key.s, .int .i64 d.key.o, .slice d.p d.days.length d.c]
theorem dfc_len (d : Df) : (dfc d).length = 4 := rfl
theorem dfc_one (d : Df) : ∀ u ∈ dfc d, u.oneCell' = true := by simp [dfc, Value.oneCell']
abbrev Dv := Ky × List Pt
def Df.val (d : Df) : Dv := (d.key, d.days)
def DfIn (w : World) (l : List Df) : Prop := ∀ d ∈ l, ∃ A, SlV pc w d.p A d.days d.c
theorem DfIn.ext0 {w w' : World} {l : List Df} (h : DfIn w l) (he : Ext [] w w') : DfIn w' l := fun d hd => (h d hd).imp fun _ hs => hs.ext0 he

theorem ld_sub {α : Type} {enc : α → List Value} {m : Nat} (h : ∀ a, (enc a).length = m) {P : Program} {w : World} {t : TypeId} {A : Addr} {l : List α} (hc : Cells w A (rowsV enc l)) {i : Nat} (hi : i < l.length) (off : Nat) {sub : List Value} (ht : aggOf P t = some true) (hm : szOf P t = some sub.length) (ho : off + sub.length ≤ m) (hv : ((enc l[i]).drop off).take sub.length = sub) : Ld P w t (A.add (i * m + off)) (.agg sub.toArray) := by
  refine hc.ldP (i * m + off) ht hm ?_ rfl
  have := rowsV_at h hi
  rw [← this] at hv
  rw [List.drop_take, List.drop_drop, List.take_take, Nat.min_eq_left (by omega)] at hv
  exact hv

theorem eqSp (a b : Pt) (w : World) : (Op.equalIn (9999 + 1) 40 (.agg (pc a).toArray) (.agg (pc b).toArray)).run Try.prog w = .ok (decide (a = b)) w := by
  rw [eqs rfl (by kernel_rfl) (eqf_int (by decide) rfl rfl rfl rfl (eqf_int (by decide) rfl rfl rfl rfl (eqf_nil _ _ _ _)))]
  obtain ⟨a1, a2⟩ := a
  obtain ⟨b1, b2⟩ := b
  simp [Bool.decide_and]
theorem egSp : Try.prog.eqGuardType Try.prog.depth 40 = false := by kernel_rfl

theorem map_take_step {α β : Type} {f : α → β} {l m : List α} {i : Nat} (h1 : i < l.length) (h2 : i < m.length) (h : (l.take i).map f = (m.take i).map f) (he : f l[i] = f m[i]) : (l.take (i + 1)).map f = (m.take (i + 1)).map f := by
  rw [← List.take_append_getElem h1, ← List.take_append_getElem h2, List.map_append, List.map_append, h]
  simp [he]
theorem map_ne_at {α β : Type} {f : α → β} {l m : List α} {i : Nat} (h1 : i < l.length) (h2 : i < m.length) (he : f l[i] ≠ f m[i]) : l.map f ≠ m.map f := fun h => he (by
  have := congrArg (fun x => x[i]?) h
  simpa [h1, h2] using this)

end Go.Proofs.Ytfgckcochilpkaa

/- The facts' walks: what has changed, by the reference. -/
set_option linter.unusedVariables false
set_option maxRecDepth 100000
set_option maxHeartbeats 4000000
set_option linter.unusedSimpArgs false
namespace Go.Proofs.Ytfgckcochilpkaa
open Go Go.Eng

/-! ## Days that are joined -/
def dayAdd (days : List Pt) (j : Nat) : List Pt :=
  if h : 0 < days.length then
    if (days[days.length - 1]'(by omega)).2 = (j : Int) then days.set (days.length - 1) ((days[days.length - 1]'(by omega)).1, (j : Int) + 1) else days ++ [((j : Int), (j : Int) + 1)]
  else days ++ [((j : Int), (j : Int) + 1)]
theorem dayAdd_join {days : List Pt} {j : Nat} (h : 0 < days.length) (he : (days[days.length - 1]'(by omega)).2 = (j : Int)) : dayAdd days j = days.set (days.length - 1) ((days[days.length - 1]'(by omega)).1, (j : Int) + 1) := by
  unfold dayAdd; rw [dif_pos h, if_pos he]
theorem dayAdd_new {days : List Pt} {j : Nat} (he : ∀ h : 0 < days.length, (days[days.length - 1]'(by omega)).2 ≠ (j : Int)) : dayAdd days j = days ++ [((j : Int), (j : Int) + 1)] := by
  unfold dayAdd
  by_cases h : 0 < days.length
  · rw [dif_pos h, if_neg (he h)]
  · rw [dif_neg h]
theorem dayAdd_length (days : List Pt) (j : Nat) : (dayAdd days j).length ≤ days.length + 1 := by
  unfold dayAdd
  split
  · split <;> simp
  · simp
def daysTo (l : List Fct) (k : Ky) (bef aft : Int) : Nat → List Pt
  | 0 => []
  | j + 1 => if diffL l k bef aft (j : Int) then dayAdd (daysTo l k bef aft j) j else daysTo l k bef aft j
theorem daysTo_le (l : List Fct) (k : Ky) (bef aft : Int) : ∀ j, (daysTo l k bef aft j).length ≤ j
  | 0 => by simp [daysTo]
  | j + 1 => by
    have := daysTo_le l k bef aft j
    have h2 := dayAdd_length (daysTo l k bef aft j) j
    unfold daysTo
    split <;> omega
def entryL (l : List Fct) (bef aft : Int) (k : Ky) : List Dv := if 0 < (daysTo l k bef aft 1024).length then [(k, daysTo l k bef aft 1024)] else []
def changedL (l : List Fct) (bef aft : Int) : List Dv := (keysL l).flatMap (entryL l bef aft)
theorem flatMap_take_step {α β : Type} {f : α → List β} {l : List α} {i : Nat} (hi : i < l.length) : (l.take (i + 1)).flatMap f = (l.take i).flatMap f ++ f l[i] := by
  rw [← List.take_append_getElem hi, List.flatMap_append]; simp

abbrev OwnSp (base : Nat) (w : World) (v : Value) (l : List Pt) : Prop := w.ownsRow base 40 2 v l.length (rowsV pc l)
end Go.Proofs.Ytfgckcochilpkaa

/- Facts: plain laws about what is computed, no program in sight. -/
set_option linter.unusedVariables false
set_option maxRecDepth 100000
set_option linter.unusedSimpArgs false
namespace Go.Proofs.Ytfgckcochilpkaa
open Go Go.Eng

/-! ## Earlier knowledge -/
theorem ofL_upto (l : List Fct) (k : Ky) {known later : Int} (h : known ≤ later) : ofL (uptoL l known) k later = ofL l k known := by
  unfold ofL uptoL
  rw [List.filter_filter]
  refine List.filter_congr fun f _ => ?_
  rw [← Bool.decide_and]
  exact decide_eq_decide.2 ⟨fun ⟨⟨a, _⟩, c⟩ => ⟨a, c⟩, fun ⟨a, c⟩ => ⟨⟨a, by omega⟩, c⟩⟩
theorem atL_upto (l : List Fct) (k : Ky) (day : Int) {known later : Int} (h : known ≤ later) : atL (uptoL l known) k day later = atL l k day known := by
  unfold atL bestL; rw [ofL_upto l k h]
theorem uptoL_le (l : List Fct) (known : Int) : (uptoL l known).length ≤ l.length := List.length_filter_le _ _

/-! ## Later facts -/
section
variable {l more : List Fct} {known : Int} (h : ∀ f ∈ more, known < f.known)
include h
theorem ofL_more (k : Ky) {t : Int} (ht : t ≤ known) : ofL (l ++ more) k t = ofL l k t := by
  unfold ofL
  have e : more.filter (fun f => decide (f.key = k ∧ f.known ≤ t)) = [] := List.filter_eq_nil_iff.2 (fun f hf => by have := h f hf; simp only [decide_eq_true_eq]; omega)
  rw [List.filter_append, e, List.append_nil]
theorem atL_more (k : Ky) (day : Int) {t : Int} (ht : t ≤ known) : atL (l ++ more) k day t = atL l k day t := by
  unfold atL bestL; rw [ofL_more h k ht]
theorem pointsL_more (k : Ky) (lo hi : Int) {t : Int} (ht : t ≤ known) : pointsL (l ++ more) k lo hi t = pointsL l k lo hi t := by
  unfold pointsL
  rw [show (fun d => atL (l ++ more) k d t) = fun d => atL l k d t from funext fun d => atL_more h k d ht]
theorem uptoL_more : uptoL (l ++ more) known = uptoL l known := by
  unfold uptoL
  have e : more.filter (fun f => decide (f.known ≤ known)) = [] := List.filter_eq_nil_iff.2 (fun f hf => by have := h f hf; simp only [decide_eq_true_eq]; omega)
  rw [List.filter_append, e, List.append_nil]
theorem daysTo_more (k : Ky) {a b : Int} (ha : a ≤ known) (hb : b ≤ known) : ∀ j, daysTo (l ++ more) k a b j = daysTo l k a b j
  | 0 => rfl
  | j + 1 => by
    have hd : diffL (l ++ more) k a b (j : Int) = diffL l k a b (j : Int) := by unfold diffL; rw [atL_more h k _ ha, atL_more h k _ hb]
    unfold daysTo
    rw [daysTo_more k ha hb j]
    simp only [hd]
theorem entryL_more {a b : Int} (ha : a ≤ known) (hb : b ≤ known) : entryL (l ++ more) a b = entryL l a b := funext fun k => by
  unfold entryL; rw [daysTo_more h k ha hb]
end
theorem flat_insK {g : Ky → List Dv} {out : List Ky} {k : Ky} (hs : out.Pairwise lessK) (h : g k = [] ∨ k ∈ out) : (insK out k).flatMap g = out.flatMap g := by
  by_cases hk : k ∈ out
  · rw [sorted_unique (insK_sorted hs) hs (fun y => by rw [mem_insK]; exact ⟨fun h => h.elim (fun e => e ▸ hk) id, .inr⟩)]
  · have hg := h.resolve_right hk
    unfold insK
    split
    · rfl
    · unfold insAt
      rw [List.flatMap_append, List.flatMap_cons, hg, List.nil_append, ← List.flatMap_append, List.take_append_drop]
theorem flat_foldl {g : Ky → List Dv} : ∀ {fs : List Fct} {out : List Ky}, out.Pairwise lessK → (∀ f ∈ fs, g f.key = [] ∨ f.key ∈ out) → (fs.foldl (fun o f => insK o f.key) out).flatMap g = out.flatMap g
  | [], out, _, _ => rfl
  | f :: fs, out, hs, h => by
    rw [List.foldl_cons, flat_foldl (insK_sorted hs) (fun x hx => (h x (List.mem_cons_of_mem _ hx)).imp id fun hm => mem_insK.2 (.inr hm)), flat_insK hs (h f List.mem_cons_self)]
theorem diffL_key {l : List Fct} {k : Ky} {bef aft day : Int} (h : diffL l k bef aft day) : k ∈ keysL l := by
  refine Classical.byContradiction fun hn => h ?_
  have hno : ∀ f ∈ l, f.key ≠ k := fun f hf he => hn (((keysL_spec l).2 k).2 ⟨f, hf, he⟩)
  have ho : ∀ t, ofL l k t = [] := fun t => List.filter_eq_nil_iff.2 fun f hf => by
    have := hno f hf
    simp only [decide_eq_true_eq]
    exact fun x => this x.1
  unfold atL bestL
  rw [ho, ho]
theorem daysTo_nil {l : List Fct} {k : Ky} {bef aft : Int} (h : ∀ d, ¬ diffL l k bef aft d) : ∀ j, daysTo l k bef aft j = []
  | 0 => rfl
  | j + 1 => by unfold daysTo; rw [if_neg (h _), daysTo_nil h j]
theorem entryL_nil {l : List Fct} {k : Ky} {bef aft : Int} (h : k ∉ keysL l) : entryL l bef aft k = [] := by
  unfold entryL
  rw [daysTo_nil (fun d hd => h (diffL_key hd))]
  rfl
theorem changedL_more {l more : List Fct} {known a b : Int} (h : ∀ f ∈ more, known < f.known) (ha : a ≤ known) (hb : b ≤ known) : changedL (l ++ more) a b = changedL l a b := by
  unfold changedL
  rw [entryL_more h ha hb]
  unfold keysL
  rw [List.foldl_append]
  refine flat_foldl (keysL_spec l).1 fun f hf => ?_
  by_cases hk : f.key ∈ keysL l
  · exact .inr hk
  · exact .inl (entryL_nil hk)

/-! ## The last fact counts -/
def Cand (k : Ky) (day known : Int) (f : Fct) : Prop := f.key = k ∧ f.lo ≤ day ∧ day < f.hi ∧ f.known ≤ known
instance (k : Ky) (day known : Int) (f : Fct) : Decidable (Cand k day known f) := by unfold Cand; infer_instance
/-- After l[b] no other one of the first i comes. -/
def LastIn (l : List Fct) (k : Ky) (day known : Int) (i b : Nat) : Prop :=
  ∃ h : b < l.length, b < i ∧ Cand k day known l[b] ∧ ∀ j, (hj : j < l.length) → j < i → Cand k day known l[j] → ¬ before l[b] l[j] ∧ (b < j → before l[j] l[b])
theorem best_last (l : List Fct) (k : Ky) (day known : Int) : ∀ i, i ≤ l.length →
    (bestL (l.take i) k day known = none ∧ ∀ j, (hj : j < l.length) → j < i → ¬ Cand k day known l[j]) ∨
    ∃ b, ∃ h : b < l.length, bestL (l.take i) k day known = some l[b] ∧ LastIn l k day known i b
  | 0, _ => .inl ⟨rfl, fun j hj h => absurd h (by omega)⟩
  | i + 1, hi => by
    have ih := best_last l k day known i (by omega)
    rw [bestL_take (by omega)]
    by_cases hc : Cand k day known (l[i]'(by omega))
    · have hc' := hc
      obtain ⟨h1, h2, h3, h4⟩ := hc'
      rw [if_pos ⟨h1, h4⟩]
      unfold dayStep
      rw [if_pos ⟨h2, h3⟩]
      rcases ih with ⟨hb, hn⟩ | ⟨b, hb, hbs, _, hbi, hcb, hl⟩
      · rw [hb]
        refine .inr ⟨i, by omega, rfl, by omega, by omega, hc, fun j hj hji hcj => ?_⟩
        by_cases hji2 : j = i
        · subst hji2
          exact ⟨fun h => by unfold before at h; omega, fun h => by omega⟩
        · exact absurd hcj (hn j hj (by omega))
      · rw [hbs]
        simp only
        by_cases hbf : before (l[i]'(by omega)) l[b]
        · rw [if_pos hbf]
          refine .inr ⟨b, hb, rfl, hb, by omega, hcb, fun j hj hji hcj => ?_⟩
          by_cases hji2 : j = i
          · subst hji2
            exact ⟨fun h => by unfold before at h hbf; omega, fun _ => hbf⟩
          · exact hl j hj (by omega) hcj
        · rw [if_neg hbf]
          refine .inr ⟨i, by omega, rfl, by omega, by omega, hc, fun j hj hji hcj => ?_⟩
          by_cases hji2 : j = i
          · subst hji2
            exact ⟨fun h => by unfold before at h; omega, fun h => by omega⟩
          · have := (hl j hj (by omega) hcj).1
            exact ⟨fun h => by unfold before at this hbf h; omega, fun h => by omega⟩
    · have hsame : (if (l[i]'(by omega)).key = k ∧ (l[i]'(by omega)).known ≤ known then dayStep day (bestL (l.take i) k day known) (l[i]'(by omega)) else bestL (l.take i) k day known) = bestL (l.take i) k day known := by
        split
        · rename_i h
          unfold dayStep
          rw [if_neg (fun h2 => hc ⟨h.1, h2.1, h2.2, h.2⟩)]
        · rfl
      rw [hsame]
      rcases ih with ⟨hb, hn⟩ | ⟨b, hb, hbs, _, hbi, hcb, hl⟩
      · refine .inl ⟨hb, fun j hj hji => ?_⟩
        by_cases hji2 : j = i
        · subst hji2; exact hc
        · exact hn j hj (by omega)
      · refine .inr ⟨b, hb, hbs, hb, by omega, hcb, fun j hj hji hcj => ?_⟩
        by_cases hji2 : j = i
        · subst hji2; exact absurd hcj hc
        · exact hl j hj (by omega) hcj
theorem last_unique {l : List Fct} {k : Ky} {day known : Int} {i a b : Nat} (ha : LastIn l k day known i a) (hb : LastIn l k day known i b) : a = b := by
  obtain ⟨a1, a2, a3, a4⟩ := ha
  obtain ⟨b1, b2, b3, b4⟩ := hb
  have h1 := a4 b b1 b2 b3
  have h2 := b4 a a1 a2 a3
  by_cases h : a < b
  · exact absurd (h1.2 h) h2.1
  · by_cases h3 : b < a
    · exact absurd (h2.2 h3) h1.1
    · omega
theorem best_of_last {l : List Fct} {k : Ky} {day known : Int} {i : Nat} (h : LastIn l k day known l.length i) : ∃ hi : i < l.length, bestL l k day known = some l[i] := by
  have := best_last l k day known l.length (Nat.le_refl _)
  rw [List.take_length] at this
  rcases this with ⟨_, hn⟩ | ⟨b, hb, hbs, hl⟩
  · exact absurd h.choose_spec.2.1 (hn i h.choose h.choose)
  · have e := last_unique h hl
    subst e
    exact ⟨hb, hbs⟩

/-! ## Points, day by day -/
def restL (g : Int → Int × Bool) (lo hi d : Int) : List Pt := ptsN g (max d (max 0 lo)) (min hi 1024 - max d (max 0 lo)).toNat
theorem restL_zero (l : List Fct) (k : Ky) (lo hi known : Int) : restL (fun d => atL l k d known) lo hi 0 = pointsL l k lo hi known := by
  unfold restL pointsL; rw [show max 0 (max 0 lo) = max 0 lo by omega]
theorem restL_end (g : Int → Int × Bool) (lo hi : Int) : restL g lo hi 1024 = [] := by
  unfold restL; exact ptsN_end g (by omega)
theorem restL_skip (g : Int → Int × Bool) {lo hi d : Int} (hd : 0 ≤ d ∧ d < 1024) (h : (g d).2 = false ∨ d < lo ∨ hi ≤ d) : restL g lo hi d = restL g lo hi (d + 1) := by
  unfold restL
  by_cases h1 : d < lo
  · rw [show max (d + 1) (max 0 lo) = max d (max 0 lo) by omega]
  · rw [show max (d + 1) (max 0 lo) = d + 1 by omega, show max d (max 0 lo) = d by omega]
    by_cases h2 : d < min hi 1024
    · have h3 : (g d).2 = false := by rcases h with h | h | h; exact h; omega; omega
      rw [ptsN_step g h2, h3]
      rfl
    · rw [ptsN_end g h2, ptsN_end g (by omega)]
theorem restL_take (g : Int → Int × Bool) {lo hi d : Int} (hd : 0 ≤ d ∧ d < 1024) (h : (g d).2 = true) (h1 : lo ≤ d) (h2 : d < hi) : restL g lo hi d = (d, (g d).1) :: restL g lo hi (d + 1) := by
  unfold restL
  rw [show max (d + 1) (max 0 lo) = d + 1 by omega, show max d (max 0 lo) = d by omega, ptsN_step g (by omega), h]
  rfl
theorem drop_cons {α : Type} {l m : List α} {n : Nat} {a : α} (h : l.drop n = a :: m) : ∃ hn : n < l.length, l[n] = a ∧ l.drop (n + 1) = m := by
  have hn : n < l.length := by
    have := congrArg List.length h
    simp only [List.length_drop, List.length_cons] at this; omega
  rw [List.drop_eq_getElem_cons hn] at h
  injection h with h1 h2
  exact ⟨hn, h1, h2⟩

/-! ## Alike -/
theorem ptsN_succ (g : Int → Int × Bool) (d : Int) (n : Nat) : ptsN g d (n + 1) = (if (g d).2 then [(d, (g d).1)] else []) ++ ptsN g (d + 1) n := rfl
theorem ptsN_ge (g : Int → Int × Bool) : ∀ (n : Nat) (d : Int), ∀ q ∈ ptsN g d n, d ≤ q.1
  | 0, d, q, h => by cases h
  | n + 1, d, q, h => by
    rw [ptsN_succ] at h
    rcases List.mem_append.1 h with h | h
    · split at h
      · rw [List.mem_singleton.1 h]; exact Int.le_refl _
      · cases h
    · have := ptsN_ge g n (d + 1) q h; omega
theorem ptsN_eq {g h : Int → Int × Bool} (hg : ∀ e, (g e).2 = false → (g e).1 = 0) (hh : ∀ e, (h e).2 = false → (h e).1 = 0) : ∀ (n : Nat) (d : Int), ptsN g d n = ptsN h d n ↔ ∀ e, d ≤ e → e < d + n → g e = h e
  | 0, d => by constructor; (intro _ e h1 h2; exfalso; omega); (intro _; rfl)
  | n + 1, d => by
    have ih := ptsN_eq hg hh n (d + 1)
    have key : ptsN g d (n + 1) = ptsN h d (n + 1) ↔ g d = h d ∧ ptsN g (d + 1) n = ptsN h (d + 1) n := by
      rw [ptsN_succ, ptsN_succ]
      cases h1 : (g d).2 <;> cases h2 : (h d).2 <;> simp only [if_true, if_false, Bool.false_eq_true, List.nil_append, List.cons_append]
      · exact ⟨fun x => ⟨Prod.ext ((hg d h1).trans (hh d h2).symm) (h1.trans h2.symm), x⟩, fun x => x.2⟩
      · refine ⟨fun x => ?_, fun x => ?_⟩
        · have := ptsN_ge g n (d + 1) (d, (h d).1) (by rw [x]; exact List.mem_cons_self)
          simp only at this; omega
        · rw [x.1, h2] at h1; cases h1
      · refine ⟨fun x => ?_, fun x => ?_⟩
        · have := ptsN_ge h n (d + 1) (d, (g d).1) (by rw [← x]; exact List.mem_cons_self)
          simp only at this; omega
        · rw [x.1, h2] at h1; cases h1
      · refine ⟨fun x => ?_, fun x => ?_⟩
        · injection x with x1 x2
          injection x1 with _ x3
          exact ⟨Prod.ext x3 (h1.trans h2.symm), x2⟩
        · rw [x.1, x.2]
    rw [key, ih]
    constructor
    · rintro ⟨h1, h2⟩ e he1 he2
      by_cases he : e = d
      · rw [he]; exact h1
      · exact h2 e (by omega) (by omega)
    · exact fun h1 => ⟨h1 d (by omega) (by omega), fun e he1 he2 => h1 e (by omega) (by omega)⟩
theorem valO_zero (b : Option Fct) : (valO b).2 = false → (valO b).1 = 0 := by
  cases b with
  | none => exact fun _ => rfl
  | some f =>
    have e : valO (some f) = (if f.val < 0 then (0, false) else (f.val, true)) := rfl
    rw [e]
    split
    · exact fun _ => rfl
    · exact fun h => by cases h
theorem alike_days (l : List Fct) (r : Rd) (bef aft : Int) : alike1 l r bef aft ↔ ∀ e, max 0 r.lo ≤ e → e < min r.hi 1024 → ¬ diffL l r.key bef aft e := by
  unfold alike1 pointsL diffL
  rw [ptsN_eq (g := fun d => atL l r.key d bef) (h := fun d => atL l r.key d aft) (fun e => valO_zero _) (fun e => valO_zero _)]
  constructor
  · intro h e h1 h2 hn
    exact hn (h e h1 (by omega))
  · intro h e h1 h2
    exact Classical.byContradiction fun hn => h e h1 (by omega) hn

/-! ## The days that differ, as spans -/
structure SpansOf (D : Int → Prop) (j : Nat) (ds : List Pt) : Prop where
  ok : ∀ s ∈ ds, 0 ≤ s.1 ∧ s.1 < s.2 ∧ s.2 ≤ (j : Int)
  sep : ds.Pairwise fun s t => s.2 < t.1
  cov : ∀ d : Int, (0 ≤ d ∧ d < j ∧ D d) ↔ ∃ s ∈ ds, s.1 ≤ d ∧ d < s.2
theorem dayAdd_last (ds : List Pt) (s : Pt) (j : Nat) : dayAdd (ds ++ [s]) j = if s.2 = (j : Int) then ds ++ [(s.1, (j : Int) + 1)] else ds ++ [s] ++ [((j : Int), (j : Int) + 1)] := by
  have hl : (ds ++ [s])[(ds ++ [s]).length - 1]'(by simp) = s := by
    rw [List.getElem_append_right (by simp)]
    simp
  by_cases h : s.2 = (j : Int)
  · rw [if_pos h, dayAdd_join (by simp) (by rw [hl]; exact h), hl, List.set_append_right _ _ (by simp)]
    simp
  · rw [if_neg h, dayAdd_new (fun _ => by rw [hl]; exact h)]
theorem spans_of (l : List Fct) (k : Ky) (bef aft : Int) : ∀ j, SpansOf (diffL l k bef aft) j (daysTo l k bef aft j)
  | 0 => ⟨fun s h => (by cases h), .nil, fun d => ⟨fun h => (by omega), fun ⟨s, h, _⟩ => (by cases h)⟩⟩
  | j + 1 => by
    obtain ⟨ok, sep, cov⟩ := spans_of l k bef aft j
    unfold daysTo
    by_cases hd : diffL l k bef aft (j : Int)
    · rw [if_pos hd]
      rcases List.eq_nil_or_concat (daysTo l k bef aft j) with h0 | ⟨ds, s, h0⟩
      · rw [h0] at cov ⊢
        have : dayAdd [] j = [((j : Int), (j : Int) + 1)] := rfl
        rw [this]
        refine ⟨fun s hs => ?_, List.pairwise_singleton _ _, fun d => ?_⟩
        · rw [List.mem_singleton.1 hs]; refine ⟨?_, ?_, ?_⟩ <;> simp only <;> omega
        · have := cov d
          constructor
          · rintro ⟨h1, h2, h3⟩
            by_cases hdj : d = j
            · exact ⟨_, List.mem_singleton.2 rfl, by simp only; omega, by simp only; omega⟩
            · obtain ⟨s, hs, _⟩ := this.1 ⟨h1, by omega, h3⟩; cases hs
          · rintro ⟨s, hs, h1, h2⟩
            rw [List.mem_singleton.1 hs] at h1 h2
            simp only at h1 h2
            have : d = j := by omega
            subst this
            exact ⟨by omega, by omega, hd⟩
      · rw [h0] at ok sep cov ⊢
        rw [List.concat_eq_append] at ok sep cov ⊢
        rw [dayAdd_last]
        rw [List.pairwise_append] at sep
        obtain ⟨sp1, _, sp2⟩ := sep
        have oks := ok s (by simp)
        by_cases hs2 : s.2 = (j : Int)
        · rw [if_pos hs2]
          refine ⟨fun t ht => ?_, ?_, fun d => ?_⟩
          · rcases List.mem_append.1 ht with h | h
            · have := ok t (List.mem_append.2 (.inl h)); omega
            · rw [List.mem_singleton.1 h]; refine ⟨?_, ?_, ?_⟩ <;> simp only <;> omega
          · rw [List.pairwise_append]
            refine ⟨sp1, List.pairwise_singleton _ _, fun t ht u hu => ?_⟩
            rw [List.mem_singleton.1 hu]
            exact sp2 t ht s (List.mem_singleton.2 rfl)
          · have hcv := cov d
            constructor
            · rintro ⟨h1, h2, h3⟩
              by_cases hdj : d = j
              · exact ⟨(s.1, (j : Int) + 1), by simp, by simp only; omega, by simp only; omega⟩
              · obtain ⟨t, ht, ht1, ht2⟩ := hcv.1 ⟨h1, by omega, h3⟩
                rcases List.mem_append.1 ht with h | h
                · exact ⟨t, List.mem_append.2 (.inl h), ht1, ht2⟩
                · rw [List.mem_singleton.1 h] at ht1 ht2
                  exact ⟨(s.1, (j : Int) + 1), by simp, by simp only; omega, by simp only; omega⟩
            · rintro ⟨t, ht, ht1, ht2⟩
              by_cases hdj : d = j
              · subst hdj; exact ⟨by omega, by omega, hd⟩
              rcases List.mem_append.1 ht with h | h
              · have := hcv.2 ⟨t, List.mem_append.2 (.inl h), ht1, ht2⟩
                exact ⟨this.1, by omega, this.2.2⟩
              · rw [List.mem_singleton.1 h] at ht1 ht2
                simp only at ht1 ht2
                have := hcv.2 ⟨s, by simp, by omega, by omega⟩
                exact ⟨this.1, by omega, this.2.2⟩
        · rw [if_neg hs2]
          refine ⟨fun t ht => ?_, ?_, fun d => ?_⟩
          · rcases List.mem_append.1 ht with h | h
            · have := ok t h; omega
            · rw [List.mem_singleton.1 h]; refine ⟨?_, ?_, ?_⟩ <;> simp only <;> omega
          · rw [List.pairwise_append]
            refine ⟨List.pairwise_append.2 ⟨sp1, List.pairwise_singleton _ _, sp2⟩, List.pairwise_singleton _ _, fun t ht u hu => ?_⟩
            rw [List.mem_singleton.1 hu]
            simp only
            rcases List.mem_append.1 ht with h | h
            · have h1 := sp2 t h s (List.mem_singleton.2 rfl)
              omega
            · rw [List.mem_singleton.1 h]; omega
          · have hcv := cov d
            constructor
            · rintro ⟨h1, h2, h3⟩
              by_cases hdj : d = j
              · exact ⟨((j : Int), (j : Int) + 1), by simp, by simp only; omega, by simp only; omega⟩
              · obtain ⟨t, ht, ht1, ht2⟩ := hcv.1 ⟨h1, by omega, h3⟩
                exact ⟨t, List.mem_append.2 (.inl ht), ht1, ht2⟩
            · rintro ⟨t, ht, ht1, ht2⟩
              rcases List.mem_append.1 ht with h | h
              · have := hcv.2 ⟨t, h, ht1, ht2⟩
                exact ⟨this.1, by omega, this.2.2⟩
              · rw [List.mem_singleton.1 h] at ht1 ht2
                simp only at ht1 ht2
                have : d = j := by omega
                subst this
                exact ⟨by omega, by omega, hd⟩
    · rw [if_neg hd]
      refine ⟨fun s hs => ?_, sep, fun d => ?_⟩
      · have := ok s hs; omega
      · rw [← cov d]
        constructor
        · rintro ⟨h1, h2, h3⟩
          by_cases hdj : d = j
          · subst hdj; exact absurd h3 hd
          · exact ⟨h1, by omega, h3⟩
        · rintro ⟨h1, h2, h3⟩
          exact ⟨h1, by omega, h3⟩
theorem changedL_mem {l : List Fct} {bef aft : Int} {x : Dv} : x ∈ changedL l bef aft ↔ x.1 ∈ keysL l ∧ x.2 = daysTo l x.1 bef aft 1024 ∧ 0 < x.2.length := by
  unfold changedL
  rw [List.mem_flatMap]
  constructor
  · rintro ⟨k, hk, h⟩
    unfold entryL at h
    split at h
    · rw [List.mem_singleton.1 h]; exact ⟨hk, rfl, by assumption⟩
    · cases h
  · rintro ⟨h1, h2, h3⟩
    refine ⟨x.1, h1, ?_⟩
    unfold entryL
    rw [← h2, if_pos h3]
    exact List.mem_singleton.2 rfl
/-- A read meets a day that differs. -/
def Hit (r : Rd) (k : Ky) (s : Pt) : Prop := k = r.key ∧ max r.lo s.1 < min r.hi s.2
instance (r : Rd) (k : Ky) (s : Pt) : Decidable (Hit r k s) := by unfold Hit; infer_instance
theorem alike_hit (l : List Fct) (r : Rd) (bef aft : Int) : alike1 l r bef aft ↔ ¬ ∃ x ∈ changedL l bef aft, ∃ s ∈ x.2, Hit r x.1 s := by
  rw [alike_days]
  constructor
  · rintro h ⟨x, hx, s, hs, hk, hm⟩
    obtain ⟨h1, h2, h3⟩ := changedL_mem.1 hx
    obtain ⟨ok, _, cov⟩ := spans_of l x.1 bef aft 1024
    rw [← h2] at ok cov
    have hok := ok s hs
    obtain ⟨a, b, c⟩ := (cov (max r.lo s.1)).2 ⟨s, hs, by omega, by omega⟩
    rw [hk] at c
    exact h _ (by omega) (by omega) c
  · intro h e h1 h2 hd
    obtain ⟨ok, _, cov⟩ := spans_of l r.key bef aft 1024
    obtain ⟨s, hs, hs1, hs2⟩ := (cov e).1 ⟨by omega, by omega, hd⟩
    refine h ⟨(r.key, daysTo l r.key bef aft 1024), changedL_mem.2 ⟨diffL_key hd, rfl, List.length_pos_of_mem hs⟩, s, hs, rfl, by omega⟩

/-! ## Steps -/
theorem rp_neb_f {P : Program} {n : Nat} {E : Env} {o : Oper} {t t' : TypeId} {x y : Operand} {a : Bool} (ho : o.op = .binOp .neq t x y t') (ht : P.underlying t = some .bool) (hx : ev E x = some (.bool a)) (hy : ev E y = some (.bool a)) : RunP P n E o (.bool false) := by
  have := rp_neb (P := P) (n := n) ho ht hx hy
  rwa [beq_self_eq_true] at this
theorem and31 (a : Int) : ∃ m : Nat, m ≤ 31 ∧ binI .and .i64 a 31 = some (.int .i64 (m : Int)) := by
  have h : (BitVec.ofInt IntKind.i64.bits a &&& BitVec.ofInt IntKind.i64.bits 31).toNat ≤ 31 := by
    rw [BitVec.toNat_and]
    exact Nat.and_le_right
  exact ⟨_, h, congrArg (fun x => some (Value.int .i64 x)) (wrap64 (by omega))⟩
end Go.Proofs.Ytfgckcochilpkaa

/- Branches: what is computed, plainly; no program in sight. -/
set_option linter.unusedVariables false
set_option maxRecDepth 100000
set_option linter.unusedSimpArgs false
namespace Go.Proofs.Ytfgckcochilpkaa
open Go Go.Eng

structure Cr where
  key : Ky
  val : Int
  lo : Int
  hi : Int
theorem Cr.eq_iff {a b : Cr} : a = b ↔ a.key = b.key ∧ a.val = b.val ∧ a.lo = b.lo ∧ a.hi = b.hi := by cases a; cases b; simp
instance : DecidableEq Cr := fun a b => decidable_of_iff (a.key = b.key ∧ a.val = b.val ∧ a.lo = b.lo ∧ a.hi = b.hi) Cr.eq_iff.symm
abbrev cc (x : Cr) : List Value := [.int .i64 x.key.k, .int .i64 x.key.s, .int .i64 x.key.o, .int .i64 x.val, .int .i64 x.lo, .int .i64 x.hi]
theorem cc_len (x : Cr) : (cc x).length = 6 := rfl
theorem cc_one (x : Cr) : ∀ u ∈ cc x, u.oneCell' = true := by simp [cc, Value.oneCell']

/-! ## Facts that are added -/
theorem addL_ok {l : List Fct} {f : Fct} (h : (addL l f).2 = 0) : (addL l f).1 = l ++ [f] ∧ checkL l = 0 ∧ Fits f ∧ lastBad l f = false := by
  unfold addL at h ⊢
  by_cases h1 : checkL l ≠ 0
  · rw [if_pos h1] at h; exact absurd h h1
  · rw [if_neg h1] at h ⊢
    by_cases h2 : ¬ Fits f
    · rw [if_pos h2] at h; exact absurd h (by decide)
    · rw [if_neg h2] at h ⊢
      cases h3 : lastBad l f with
      | true => rw [h3, if_pos rfl] at h; exact absurd h (by decide)
      | false => exact ⟨rfl, Classical.not_not.1 h1, Classical.not_not.1 h2, rfl⟩
theorem addL_len (l : List Fct) (f : Fct) : (addL l f).1.length ≤ l.length + 1 := by
  unfold addL
  split
  · simp
  · split
    · simp
    · split <;> simp
theorem addL_fail {l : List Fct} {f : Fct} (h : (addL l f).2 ≠ 0) : (addL l f).1 = [] := by
  unfold addL at h ⊢
  split
  · rfl
  · rename_i h1
    rw [if_neg h1] at h
    split
    · rfl
    · rename_i h2
      rw [if_neg h2] at h
      split
      · rfl
      · rename_i h3
        rw [if_neg h3] at h
        exact absurd rfl h
theorem checkL_zero {l : List Fct} : checkL l = 0 ↔ (∀ f ∈ l, Fits f) ∧ Risen l := by
  unfold checkL
  by_cases h1 : ∀ f ∈ l, Fits f
  · rw [if_pos h1]
    by_cases h2 : Risen l
    · rw [if_pos h2]; exact ⟨fun _ => ⟨h1, h2⟩, fun _ => rfl⟩
    · rw [if_neg h2]; exact ⟨fun h => absurd h (by decide), fun h => absurd h.2 h2⟩
  · rw [if_neg h1]; exact ⟨fun h => absurd h (by decide), fun h => absurd h.1 h1⟩
theorem lastBad_no {l : List Fct} {f : Fct} (h : lastBad l f = false) (hl : 0 < l.length) : before (l[l.length - 1]'(by omega)) f := by
  unfold lastBad at h
  rw [List.getLast?_eq_getElem?, List.getElem?_eq_getElem (by omega)] at h
  simpa using h
theorem checkL_snoc {l : List Fct} {f : Fct} (hc : checkL l = 0) (hf : Fits f) (hb : lastBad l f = false) : checkL (l ++ [f]) = 0 := by
  obtain ⟨h1, h2⟩ := checkL_zero.1 hc
  refine checkL_zero.2 ⟨fun g hg => ?_, fun j hj => ?_⟩
  · rcases List.mem_append.1 hg with h | h
    · exact h1 g h
    · rw [List.mem_singleton.1 h]; exact hf
  · rw [List.length_append, List.length_singleton] at hj
    by_cases hj2 : j < l.length - 1
    · rw [List.getElem_append_left (by omega), List.getElem_append_left (by omega)]
      exact h2 j hj2
    · have e : j = l.length - 1 := by omega
      subst e
      rw [List.getElem_append_left (by omega), List.getElem_append_right (by omega)]
      have := lastBad_no hb (by omega)
      simpa using this
theorem checkL_take {l : List Fct} (h : checkL l = 0) (n : Nat) : checkL (l.take n) = 0 := by
  obtain ⟨h1, h2⟩ := checkL_zero.1 h
  refine checkL_zero.2 ⟨fun f hf => h1 f (List.mem_of_mem_take hf), fun j hj => ?_⟩
  rw [List.length_take] at hj
  rw [List.getElem_take, List.getElem_take]
  exact h2 j (by omega)

/-! ## Changes that are recorded -/
def nextK (l : List Fct) : Int := match l.getLast? with
  | some f => f.known + 1
  | none => 1
def chF (c : Cr) (known : Int) : Fct := ⟨c.key, c.val, c.lo, c.hi, known, 0⟩
def recL : List Fct → List Cr → List Fct × Int
  | l, [] => (l, 0)
  | l, c :: cs => if (addL l (chF c (nextK l))).2 = 0 then recL (addL l (chF c (nextK l))).1 cs else ([], (addL l (chF c (nextK l))).2)
theorem recL_cons (l : List Fct) (c : Cr) (cs : List Cr) : recL l (c :: cs) = if (addL l (chF c (nextK l))).2 = 0 then recL (addL l (chF c (nextK l))).1 cs else ([], (addL l (chF c (nextK l))).2) := rfl
theorem nextK_get {l : List Fct} (h : 0 < l.length) : nextK l = (l[l.length - 1]'(by omega)).known + 1 := by
  unfold nextK
  rw [List.getLast?_eq_getElem?, List.getElem?_eq_getElem (by omega)]
theorem recL_fail : ∀ {cs : List Cr} {l : List Fct}, (recL l cs).2 ≠ 0 → (recL l cs).1 = []
  | [], l, h => absurd rfl h
  | c :: cs, l, h => by
    rw [recL_cons] at h ⊢
    split
    · rename_i h0; rw [if_pos h0] at h; exact recL_fail h
    · rfl
theorem recL_length : ∀ (cs : List Cr) (l : List Fct), (recL l cs).1.length ≤ l.length + cs.length
  | [], l => by simp [recL]
  | c :: cs, l => by
    rw [recL_cons]
    split
    · have h1 := recL_length cs (addL l (chF c (nextK l))).1
      have h2 := addL_len l (chF c (nextK l))
      simp only [List.length_cons]; omega
    · simp
theorem recL_check : ∀ {cs : List Cr} {l : List Fct}, checkL l = 0 → checkL (recL l cs).1 = 0
  | [], l, h => h
  | c :: cs, l, h => by
    rw [recL_cons]
    split
    · rename_i h0
      obtain ⟨e, a, b, d⟩ := addL_ok h0
      rw [e]
      exact recL_check (checkL_snoc a b d)
    · rfl
theorem recL_append (b : List Cr) : ∀ (a : List Cr) (l : List Fct), recL l (a ++ b) = if (recL l a).2 = 0 then recL (recL l a).1 b else recL l a
  | [], l => rfl
  | c :: a, l => by
    rw [List.cons_append, recL_cons, recL_cons]
    by_cases h0 : (addL l (chF c (nextK l))).2 = 0
    · rw [if_pos h0, if_pos h0]; exact recL_append b a _
    · rw [if_neg h0, if_neg h0, if_neg h0]
theorem recL_ok : ∀ {cs : List Cr} {l : List Fct}, (recL l cs).2 = 0 → ∃ fs : List Fct, (recL l cs).1 = l ++ fs ∧ fs.length = cs.length ∧ fs.map (fun f => (⟨f.key, f.val, f.lo, f.hi⟩ : Cr)) = cs
  | [], l, h => ⟨[], by simp [recL], rfl, rfl⟩
  | c :: cs, l, h => by
    rw [recL_cons] at h ⊢
    by_cases h0 : (addL l (chF c (nextK l))).2 = 0
    · rw [if_pos h0] at h ⊢
      obtain ⟨e, a, b, d⟩ := addL_ok h0
      rw [e] at h ⊢
      obtain ⟨fs, h2, h3, h4⟩ := recL_ok h
      exact ⟨chF c (nextK l) :: fs, by rw [h2]; simp, by simp [h3], by rw [List.map_cons, h4]; rfl⟩
    · rw [if_neg h0] at h; exact absurd h h0

/-! ## Branchings -/
structure Br where
  base : List Fct
  brs : List (List Cr)
  par : List Int
  fks : List Int
  done : List Bool
theorem Br.eq_iff {a b : Br} : a = b ↔ a.base = b.base ∧ a.brs = b.brs ∧ a.par = b.par ∧ a.fks = b.fks ∧ a.done = b.done := by cases a; cases b; simp
instance : DecidableEq Br := fun a b => decidable_of_iff (a.base = b.base ∧ a.brs = b.brs ∧ a.par = b.par ∧ a.fks = b.fks ∧ a.done = b.done) Br.eq_iff.symm
def Br0 : Br := ⟨[], [], [], [], []⟩
def lenB (b : Br) (no : Int) : Nat := if no < 0 then b.base.length else (b.brs[no.toNat]?.getD []).length
def parB (b : Br) (i : Nat) : Int := b.par[i]?.getD 0
def fkB (b : Br) (i : Nat) : Int := b.fks[i]?.getD 0
def brB (b : Br) (i : Nat) : List Cr := b.brs[i]?.getD []
def doneB (b : Br) (i : Nat) : Bool := b.done[i]?.getD false
def Formed (b : Br) : Prop := b.brs.length ≤ 64 ∧ b.par.length = b.brs.length ∧ b.fks.length = b.brs.length ∧ b.done.length = b.brs.length ∧
  ∀ i, i < b.brs.length → (-1 ≤ parB b i ∧ parB b i < (i : Int)) ∧ 0 ≤ fkB b i ∧ fkB b i ≤ (lenB b (parB b i) : Int)
instance (b : Br) : Decidable (Formed b) := by unfold Formed; infer_instance
/-- The facts of a branch (k: its number and one; 0: Base) with its first changes. -/
def withN (b : Br) : Nat → Nat → Nat → List Fct × Int
  | _, 0, many => (b.base.take many, 0)
  | 0, _ + 1, _ => ([], 0)
  | f + 1, i + 1, many =>
    if (withN b f (parB b i + 1).toNat (fkB b i).toNat).2 ≠ 0 then ([], (withN b f (parB b i + 1).toNat (fkB b i).toNat).2)
    else recL (withN b f (parB b i + 1).toNat (fkB b i).toNat).1 ((brB b i).take many)
theorem withN_fuel {b : Br} (hf : Formed b) : ∀ (f g k many : Nat), k ≤ f → k ≤ g → k ≤ b.brs.length → withN b f k many = withN b g k many
  | f, g, 0, many, _, _, _ => by cases f <;> cases g <;> rfl
  | 0, g, k + 1, many, h, _, _ => absurd h (by omega)
  | f + 1, 0, k + 1, many, _, h, _ => absurd h (by omega)
  | f + 1, g + 1, i + 1, many, h1, h2, h3 => by
    have hp := (hf.2.2.2.2 i (by omega)).1
    have := withN_fuel hf f g (parB b i + 1).toNat (fkB b i).toNat (by omega) (by omega) (by omega)
    unfold withN
    rw [this]
theorem withN_zero (b : Br) (f many : Nat) : withN b f 0 many = (b.base.take many, 0) := by cases f <;> rfl
theorem withN_length {b : Br} {M : Nat} (h0 : b.base.length ≤ M) (h : ∀ i, (brB b i).length ≤ M) : ∀ (f k many : Nat), (withN b f k many).1.length ≤ (f + 1) * M
  | f, 0, many => by
    rw [withN_zero, List.length_take]
    have : M ≤ (f + 1) * M := Nat.le_mul_of_pos_left M (by omega)
    omega
  | 0, k + 1, many => Nat.zero_le _
  | f + 1, i + 1, many => by
    unfold withN
    split
    · exact Nat.zero_le _
    · have h1 := recL_length ((brB b i).take many) (withN b f (parB b i + 1).toNat (fkB b i).toNat).1
      have h2 := List.length_take_le' many (brB b i)
      have h3 := h i
      have ih := withN_length h0 h f (parB b i + 1).toNat (fkB b i).toNat
      rw [Nat.succ_mul]
      omega
theorem withN_check {b : Br} (h : checkL b.base = 0) : ∀ (f k many : Nat), checkL (withN b f k many).1 = 0
  | f, 0, many => by rw [withN_zero]; exact checkL_take h many
  | 0, k + 1, many => rfl
  | f + 1, i + 1, many => by
    unfold withN
    split
    · rfl
    · exact recL_check (withN_check h f _ _)
theorem withN_fail {b : Br} : ∀ (f k many : Nat), (withN b f k many).2 ≠ 0 → (withN b f k many).1 = []
  | f, 0, many, h => by rw [withN_zero] at h; exact absurd rfl h
  | 0, k + 1, many, h => rfl
  | f + 1, i + 1, many, h => by
    unfold withN at h ⊢
    split
    · rfl
    · rename_i h1
      rw [if_neg h1] at h
      exact recL_fail h
def withB (b : Br) (no : Int) (many : Nat) : List Fct × Int := withN b (no + 1).toNat (no + 1).toNat many
theorem withB_base {b : Br} {no : Int} (h : no < 0) (many : Nat) : withB b no many = (b.base.take many, 0) := by
  unfold withB; rw [show (no + 1).toNat = 0 by omega]; rfl
theorem withB_step {b : Br} (hf : Formed b) {i : Nat} (hi : i < b.brs.length) (many : Nat) : withB b (i : Int) many =
    if (withB b (parB b i) (fkB b i).toNat).2 ≠ 0 then ([], (withB b (parB b i) (fkB b i).toNat).2) else recL (withB b (parB b i) (fkB b i).toNat).1 ((brB b i).take many) := by
  have hp := (hf.2.2.2.2 i hi).1
  have h := withN_fuel hf i (parB b i + 1).toNat (parB b i + 1).toNat (fkB b i).toNat (by omega) (by omega) (by omega)
  unfold withB
  rw [show ((i : Int) + 1).toNat = i + 1 by omega]
  show (if (withN b i (parB b i + 1).toNat (fkB b i).toNat).2 ≠ 0 then ([], (withN b i (parB b i + 1).toNat (fkB b i).toNat).2) else recL (withN b i (parB b i + 1).toNat (fkB b i).toNat).1 ((brB b i).take many)) = _
  rw [h]
def ofB (b : Br) (no : Int) : List Fct × Int := withB b no (lenB b no)
def ValidB (b : Br) : Prop := Formed b ∧ checkL b.base = 0 ∧ ∀ i, i < b.brs.length → (ofB b (i : Int)).2 = 0
instance (b : Br) : Decidable (ValidB b) := by unfold ValidB; infer_instance
def OpenB (b : Br) (no : Int) : Prop := 0 ≤ no ∧ no < (b.brs.length : Int) ∧ doneB b no.toNat = false
instance (b : Br) (no : Int) : Decidable (OpenB b no) := by unfold OpenB; infer_instance
def newB (l : List Fct) : Br × Int := if checkL l ≠ 0 then (Br0, checkL l) else (⟨l, [], [], [], []⟩, 0)
def forkB (b : Br) (parent : Int) : Br × Int × Int :=
  if ¬ ValidB b then (Br0, 0, 540) else if parent ≠ -1 ∧ ¬ OpenB b parent then (Br0, 0, 1) else if b.brs.length = 64 then (Br0, 0, 2)
  else (⟨b.base, b.brs ++ [[]], b.par ++ [parent], b.fks ++ [(lenB b parent : Int)], b.done ++ [false]⟩, (b.brs.length : Int), 0)
def changeB (b : Br) (no : Int) (c : Cr) : Br × Int :=
  if ¬ ValidB b then (Br0, 540) else if ¬ OpenB b no then (Br0, 1) else if (recL (ofB b no).1 [c]).2 ≠ 0 then (Br0, (recL (ofB b no).1 [c]).2)
  else (⟨b.base, b.brs.set no.toNat (brB b no.toNat ++ [c]), b.par, b.fks, b.done⟩, 0)
def factsB (b : Br) (no : Int) : List Fct × Int :=
  if ¬ ValidB b then ([], 540) else if no < -1 ∨ (b.brs.length : Int) ≤ no then ([], 1) else ofB b no
def freshK (b : Br) (i : Nat) : List Ky := if parB b i < 0 then (b.base.drop (fkB b i).toNat).map Fct.key else ((brB b (parB b i).toNat).drop (fkB b i).toNat).map Cr.key
def keysK (l : List Ky) : List Ky := l.foldl insK []
def confB (b : Br) (i : Nat) : List Ky := (keysK ((brB b i).map Cr.key)).filter fun k => decide (k ∈ freshK b i)
def mergeB (b : Br) (no : Int) : Br × List Ky × Int :=
  if ¬ ValidB b then (Br0, [], 540) else if ¬ OpenB b no ∨ (parB b no.toNat ≠ -1 ∧ ¬ OpenB b (parB b no.toNat)) then (Br0, [], 1)
  else if 0 < (confB b no.toNat).length then (Br0, confB b no.toNat, 541)
  else if (recL (ofB b (parB b no.toNat)).1 (brB b no.toNat)).2 ≠ 0 then (Br0, [], (recL (ofB b (parB b no.toNat)).1 (brB b no.toNat)).2)
  else if parB b no.toNat < 0 then (⟨(recL (ofB b (parB b no.toNat)).1 (brB b no.toNat)).1, b.brs, b.par, b.fks, b.done.set no.toNat true⟩, [], 0)
  else (⟨b.base, b.brs.set (parB b no.toNat).toNat (brB b (parB b no.toNat).toNat ++ brB b no.toNat), b.par, b.fks, b.done.set no.toNat true⟩, [], 0)
def dropB (b : Br) (no : Int) : Br × Int :=
  if ¬ ValidB b then (Br0, 540) else if ¬ OpenB b no then (Br0, 1) else (⟨b.base, b.brs, b.par, b.fks, b.done.set no.toNat true⟩, 0)
end Go.Proofs.Ytfgckcochilpkaa

/- Branches' walks: branchings in the heap. -/
set_option linter.unusedVariables false
set_option maxRecDepth 100000
set_option maxHeartbeats 4000000
set_option linter.unusedSimpArgs false
namespace Go.Proofs.Ytfgckcochilpkaa
open Go Go.Eng

structure Bl where
  p : Option Addr
  c : Nat
  l : List Cr
abbrev blc (x : Bl) : List Value := [.slice x.p x.l.length x.c]
theorem blc_len (x : Bl) : (blc x).length = 1 := rfl
theorem blc_one (x : Bl) : ∀ u ∈ blc x, u.oneCell' = true := by simp [blc, Value.oneCell']
abbrev boc (b : Bool) : List Value := [.bool b]
theorem boc_len (b : Bool) : (boc b).length = 1 := rfl
theorem boc_one (b : Bool) : ∀ u ∈ boc b, u.oneCell' = true := by simp [boc, Value.oneCell']
theorem ic_one (a : Int) : ∀ u ∈ ic a, u.oneCell' = true := by simp [ic, Value.oneCell']
/-- A branching as it lies: its lists and where they lie. -/
structure Bs where
  base : List Fct
  p0 : Option Addr
  A0 : Addr
  c0 : Nat
  bls : List Bl
  p1 : Option Addr
  A1 : Addr
  c1 : Nat
  par : List Int
  p2 : Option Addr
  A2 : Addr
  c2 : Nat
  fks : List Int
  p3 : Option Addr
  A3 : Addr
  c3 : Nat
  done : List Bool
  p4 : Option Addr
  A4 : Addr
  c4 : Nat
def Bs.br (s : Bs) : Br := ⟨s.base, s.bls.map Bl.l, s.par, s.fks, s.done⟩
abbrev bvc (s : Bs) : List Value := [.slice s.p0 s.base.length s.c0, .slice s.p1 s.bls.length s.c1, .slice s.p2 s.par.length s.c2, .slice s.p3 s.fks.length s.c3, .slice s.p4 s.done.length s.c4]
structure BsIn (s : Bs) (w : World) : Prop where
  base : SlV fc w s.p0 s.A0 s.base s.c0
  bls : SlV blc w s.p1 s.A1 s.bls s.c1
  sub : ∀ x ∈ s.bls, ∃ A, SlV cc w x.p A x.l x.c
  par : SlV ic w s.p2 s.A2 s.par s.c2
  fks : SlV ic w s.p3 s.A3 s.fks s.c3
  done : SlV boc w s.p4 s.A4 s.done s.c4
theorem BsIn.ext0 {s : Bs} {w w' : World} (h : BsIn s w) (he : Ext [] w w') : BsIn s w' :=
  ⟨h.base.ext0 he, h.bls.ext0 he, fun x hx => (h.sub x hx).imp fun _ hs => hs.ext0 he, h.par.ext0 he, h.fks.ext0 he, h.done.ext0 he⟩
theorem bvc_one (s : Bs) : ∀ u ∈ (Value.agg (bvc s).toArray).cells.toList, u.oneCell' = true := fun u hu => by
  have hu' : u ∈ bvc s := hu
  simp only [List.mem_cons, List.not_mem_nil, or_false] at hu'
  rcases hu' with rfl | rfl | rfl | rfl | rfl <;> rfl
def Bs0 : Bs := ⟨[], none, ⟨0, 0, none⟩, 0, [], none, ⟨0, 0, none⟩, 0, [], none, ⟨0, 0, none⟩, 0, [], none, ⟨0, 0, none⟩, 0, [], none, ⟨0, 0, none⟩, 0⟩
theorem Bs0_in (w : World) : BsIn Bs0 w := ⟨SlV.nil _ _, SlV.nil _ _, fun x h => (by cases h), SlV.nil _ _, SlV.nil _ _, SlV.nil _ _⟩
theorem Bs0_br : Bs0.br = Br0 := rfl
theorem br_len (s : Bs) : s.br.brs.length = s.bls.length := List.length_map _
theorem brB_eq {s : Bs} {i : Nat} (hi : i < s.bls.length) : brB s.br i = s.bls[i].l := by
  unfold brB Bs.br; simp [hi]
theorem parB_eq {s : Bs} {i : Nat} (hi : i < s.par.length) : parB s.br i = s.par[i] := by
  unfold parB Bs.br; simp [hi]
theorem fkB_eq {s : Bs} {i : Nat} (hi : i < s.fks.length) : fkB s.br i = s.fks[i] := by
  unfold fkB Bs.br; simp [hi]
theorem doneB_eq {s : Bs} {i : Nat} (hi : i < s.done.length) : doneB s.br i = s.done[i] := by
  unfold doneB Bs.br; simp [hi]

end Go.Proofs.Ytfgckcochilpkaa

/- Branches: plain laws about what is computed; no program in sight. -/
set_option linter.unusedVariables false
set_option maxRecDepth 100000
set_option linter.unusedSimpArgs false
namespace Go.Proofs.Ytfgckcochilpkaa
open Go Go.Eng

/-! ## Keys -/
theorem keysK_fold : ∀ (l out : List Ky), out.Pairwise lessK → (l.foldl insK out).Pairwise lessK ∧ ∀ k, k ∈ l.foldl insK out ↔ k ∈ l ∨ k ∈ out
  | [], out, h => ⟨h, fun k => by simp⟩
  | x :: l, out, h => by
    obtain ⟨h1, h2⟩ := keysK_fold l (insK out x) (insK_sorted h)
    refine ⟨h1, fun k => (h2 k).trans ?_⟩
    rw [mem_insK, List.mem_cons]
    constructor
    · rintro (a | a | a)
      · exact .inl (.inr a)
      · exact .inl (.inl a)
      · exact .inr a
    · rintro ((a | a) | a)
      · exact .inr (.inl a)
      · exact .inl a
      · exact .inr (.inr a)
theorem keysK_spec (l : List Ky) : (keysK l).Pairwise lessK ∧ ∀ k, k ∈ keysK l ↔ k ∈ l := by
  obtain ⟨h1, h2⟩ := keysK_fold l [] .nil
  exact ⟨h1, fun k => (h2 k).trans (by simp)⟩
theorem keysL_K (l : List Fct) : keysL l = keysK (l.map Fct.key) := by
  unfold keysL keysK; rw [List.foldl_map]
theorem confB_spec (b : Br) (i : Nat) : (confB b i).Pairwise lessK ∧ ∀ k, k ∈ confB b i ↔ k ∈ (brB b i).map Cr.key ∧ k ∈ freshK b i := by
  obtain ⟨h1, h2⟩ := keysK_spec ((brB b i).map Cr.key)
  refine ⟨h1.filter _, fun k => ?_⟩
  unfold confB
  rw [List.mem_filter, h2, decide_eq_true_eq]
theorem confB_unique {b : Br} {i : Nat} {ks : List Ky} (hs : ks.Pairwise (fun a b => ¬ lessK b a)) (hn : ks.Nodup) (hm : ∀ k, k ∈ ks ↔ k ∈ (brB b i).map Cr.key ∧ k ∈ freshK b i) : ks = confB b i := by
  refine sorted_unique ?_ (confB_spec b i).1 (fun k => (hm k).trans ((confB_spec b i).2 k).symm)
  have h := List.pairwise_and_iff.2 ⟨hs, hn⟩
  exact h.imp fun ⟨h1, h2⟩ => Classical.byContradiction fun h3 => h1 (lessK_total h3 h2)

/-! ## What grows -/
structure Grown (b b' : Br) : Prop where
  base : b.base <+: b'.base
  len : b.brs.length ≤ b'.brs.length
  brs : ∀ i, i < b.brs.length → brB b i <+: brB b' i
  par : ∀ i, i < b.brs.length → parB b' i = parB b i
  fks : ∀ i, i < b.brs.length → fkB b' i = fkB b i
def lenK (b : Br) (k : Nat) : Nat := match k with
  | 0 => b.base.length
  | i + 1 => (brB b i).length
theorem lenB_K (b : Br) (no : Int) : lenB b no = lenK b (no + 1).toNat := by
  unfold lenB
  by_cases h : no < 0
  · rw [if_pos h, show (no + 1).toNat = 0 by omega]; rfl
  · rw [if_neg h, show (no + 1).toNat = no.toNat + 1 by omega]; rfl
theorem take_prefix {α : Type} {l m : List α} (h : l <+: m) {n : Nat} (hn : n ≤ l.length) : m.take n = l.take n := by
  obtain ⟨t, rfl⟩ := h
  rw [List.take_append_of_le_length hn]
theorem withN_grown {b b' : Br} (hf : Formed b) (hg : Grown b b') : ∀ (f k many : Nat), k ≤ b.brs.length → many ≤ lenK b k → withN b' f k many = withN b f k many
  | f, 0, many, _, hm => by rw [withN_zero, withN_zero, take_prefix hg.base hm]
  | 0, k + 1, many, _, _ => rfl
  | f + 1, i + 1, many, hk, hm => by
    obtain ⟨hp, hk0, hk1⟩ := hf.2.2.2.2 i (by omega)
    have ih := withN_grown hf hg f (parB b i + 1).toNat (fkB b i).toNat (by omega) (by rw [lenB_K] at hk1; omega)
    unfold withN
    rw [hg.par i (by omega), hg.fks i (by omega), ih, take_prefix (hg.brs i (by omega)) hm]
theorem withB_grown {b b' : Br} (hf : Formed b) (hg : Grown b b') {no : Int} {many : Nat} (hn : no < (b.brs.length : Int)) (hm : many ≤ lenB b no) : withB b' no many = withB b no many := by
  rw [lenB_K] at hm
  exact withN_grown hf hg _ _ many (by omega) hm
theorem ofB_grown {b b' : Br} (hf : Formed b) (hg : Grown b b') {no : Int} (hn : no < (b.brs.length : Int)) (hl : lenB b' no = lenB b no) : ofB b' no = ofB b no := by
  unfold ofB; rw [hl]; exact withB_grown hf hg hn (Nat.le_refl _)
theorem lenB_grown {b b' : Br} (hg : Grown b b') {no : Int} (hn : no < (b.brs.length : Int)) : lenB b no ≤ lenB b' no := by
  unfold lenB
  by_cases h : no < 0
  · rw [if_pos h, if_pos h]; exact hg.base.length_le
  · rw [if_neg h, if_neg h]; exact (hg.brs no.toNat (by omega)).length_le
theorem Grown.refl (b : Br) : Grown b b := ⟨List.prefix_refl _, Nat.le_refl _, fun i _ => List.prefix_refl _, fun i _ => rfl, fun i _ => rfl⟩
theorem Grown.trans {a b c : Br} (h : Grown a b) (k : Grown b c) : Grown a c :=
  ⟨h.base.trans k.base, Nat.le_trans h.len k.len, fun i hi => (h.brs i hi).trans (k.brs i (by have := h.len; omega)), fun i hi => (k.par i (by have := h.len; omega)).trans (h.par i hi), fun i hi => (k.fks i (by have := h.len; omega)).trans (h.fks i hi)⟩
theorem withB_base_of (b : Br) : ofB b (-1) = (b.base, 0) := by
  unfold ofB; rw [withB_base (by decide)]; unfold lenB; rw [if_pos (by decide), List.take_length]
theorem ofB_neg {b : Br} {no : Int} (h : no < 0) : ofB b no = (b.base, 0) := by
  unfold ofB; rw [withB_base h]; unfold lenB; rw [if_pos h, List.take_length]
theorem ofB_step {b : Br} (hf : Formed b) {i : Nat} (hi : i < b.brs.length) : ofB b (i : Int) =
    if (withB b (parB b i) (fkB b i).toNat).2 ≠ 0 then ([], (withB b (parB b i) (fkB b i).toNat).2) else recL (withB b (parB b i) (fkB b i).toNat).1 (brB b i) := by
  have hl : lenB b (i : Int) = (brB b i).length := by unfold lenB brB; rw [if_neg (by omega)]; rfl
  unfold ofB
  rw [withB_step hf hi, hl, List.take_length]
theorem ofB_check {b : Br} (h : checkL b.base = 0) (no : Int) : checkL (ofB b no).1 = 0 := withN_check h _ _ _

/-! ## What is done keeps a branching valid -/
theorem forkB_ok {b : Br} {parent : Int} (h : (forkB b parent).2.2 = 0) : ValidB b ∧ (parent = -1 ∨ OpenB b parent) ∧ b.brs.length < 64 ∧ forkB b parent = (⟨b.base, b.brs ++ [[]], b.par ++ [parent], b.fks ++ [(lenB b parent : Int)], b.done ++ [false]⟩, (b.brs.length : Int), 0) := by
  unfold forkB at h ⊢
  by_cases h1 : ¬ ValidB b
  · rw [if_pos h1] at h; exact absurd h (show (540 : Int) ≠ 0 by decide)
  · rw [if_neg h1] at h ⊢
    by_cases h2 : parent ≠ -1 ∧ ¬ OpenB b parent
    · rw [if_pos h2] at h; exact absurd h (show (1 : Int) ≠ 0 by decide)
    · rw [if_neg h2] at h ⊢
      by_cases h3 : b.brs.length = 64
      · rw [if_pos h3] at h; exact absurd h (show (2 : Int) ≠ 0 by decide)
      · rw [if_neg h3]
        have hv := Classical.not_not.1 h1
        refine ⟨hv, ?_, by have := hv.1.1; omega, rfl⟩
        by_cases h4 : parent = -1
        · exact .inl h4
        · exact .inr (Classical.byContradiction fun h5 => h2 ⟨h4, h5⟩)
theorem forkB_grown {b : Br} (hf : Formed b) (parent : Int) : Grown b ⟨b.base, b.brs ++ [[]], b.par ++ [parent], b.fks ++ [(lenB b parent : Int)], b.done ++ [false]⟩ := by
  obtain ⟨_, f2, f3, _, _⟩ := hf
  refine ⟨List.prefix_refl _, by simp, fun i hi => ?_, fun i hi => ?_, fun i hi => ?_⟩
  · unfold brB
    simp only
    rw [List.getElem?_append_left hi]
    exact List.prefix_refl _
  · unfold parB
    simp only
    rw [List.getElem?_append_left (by omega)]
  · unfold fkB
    simp only
    rw [List.getElem?_append_left (by omega)]
theorem valid_of {b : Br} (hv : ValidB b) {no : Int} (h1 : no < (b.brs.length : Int)) : (ofB b no).2 = 0 := by
  by_cases h : no < 0
  · rw [ofB_neg h]
  · have := hv.2.2 no.toNat (by omega)
    rwa [show ((no.toNat : Nat) : Int) = no by omega] at this
theorem forkB_valid {b : Br} {parent : Int} (hv : ValidB b) (hp : parent = -1 ∨ OpenB b parent) (hn : b.brs.length < 64) : ValidB ⟨b.base, b.brs ++ [[]], b.par ++ [parent], b.fks ++ [(lenB b parent : Int)], b.done ++ [false]⟩ := by
  obtain ⟨b', hb'⟩ : ∃ b', b' = (⟨b.base, b.brs ++ [[]], b.par ++ [parent], b.fks ++ [(lenB b parent : Int)], b.done ++ [false]⟩ : Br) := ⟨_, rfl⟩
  have hg := forkB_grown hv.1 parent
  rw [← hb'] at hg ⊢
  obtain ⟨hf, hc, ho⟩ := hv
  have hf0 := hf
  obtain ⟨f1, f2, f3, f4, f5⟩ := hf
  have hpar : -1 ≤ parent ∧ parent < (b.brs.length : Int) := by
    rcases hp with rfl | h
    · omega
    · have := h.1; have := h.2.1; omega
  have hlen : ∀ no : Int, no < (b.brs.length : Int) → lenB b' no = lenB b no := fun no hno => by
    subst hb'
    unfold lenB
    by_cases h : no < 0
    · rw [if_pos h, if_pos h]
    · rw [if_neg h, if_neg h]; simp only; rw [List.getElem?_append_left (by omega)]
  have hl : b'.brs.length = b.brs.length + 1 := by subst hb'; simp
  have hpn : parB b' b.brs.length = parent := by
    subst hb'; unfold parB; simp only; rw [List.getElem?_append_right (by omega), f2]; simp
  have hkn : fkB b' b.brs.length = (lenB b parent : Int) := by
    subst hb'; unfold fkB; simp only; rw [List.getElem?_append_right (by omega), f3]; simp
  have hf' : Formed b' := by
    refine ⟨by omega, by subst hb'; simp [f2], by subst hb'; simp [f3], by subst hb'; simp [f4], fun i hi => ?_⟩
    by_cases hin : i < b.brs.length
    · rw [hg.par i hin, hg.fks i hin]
      have := f5 i hin
      rw [hlen _ (by omega)]
      exact this
    · have e : i = b.brs.length := by omega
      subst e
      rw [hpn, hkn, hlen _ hpar.2]
      omega
  refine ⟨hf', by subst hb'; exact hc, fun i hi => ?_⟩
  by_cases hin : i < b.brs.length
  · rw [ofB_grown hf0 hg (by omega) (hlen _ (by omega))]
    exact ho i hin
  · have e : i = b.brs.length := by omega
    subst e
    rw [ofB_step hf' hi, hpn, hkn, Int.toNat_natCast]
    have hw : withB b' parent (lenB b parent) = ofB b parent := withB_grown hf0 hg hpar.2 (Nat.le_refl _)
    rw [hw, valid_of ⟨hf0, hc, ho⟩ hpar.2]
    have hbr : brB b' b.brs.length = [] := by
      subst hb'; unfold brB; simp only; rw [List.getElem?_append_right (by omega)]; simp
    rw [hbr]
    rfl
/-- A branch gets more changes. -/
def more (b : Br) (i : Nat) (cs : List Cr) (done : List Bool) : Br := ⟨b.base, b.brs.set i (brB b i ++ cs), b.par, b.fks, done⟩
theorem more_brs {b : Br} {i : Nat} (hi : i < b.brs.length) (cs : List Cr) (done : List Bool) (j : Nat) : brB (more b i cs done) j = if j = i then brB b i ++ cs else brB b j := by
  unfold more brB
  simp only
  rw [List.getElem?_set]
  by_cases h : i = j
  · subst h
    rw [if_pos rfl, if_pos rfl, if_pos hi]
    rfl
  · rw [if_neg h, if_neg (fun e => h e.symm)]
theorem more_grown {b : Br} {i : Nat} (hi : i < b.brs.length) (cs : List Cr) (done : List Bool) : Grown b (more b i cs done) := by
  refine ⟨List.prefix_refl _, by unfold more; simp, fun j hj => ?_, fun j hj => rfl, fun j hj => rfl⟩
  rw [more_brs hi]
  split
  · rename_i h; subst h; exact List.prefix_append _ _
  · exact List.prefix_refl _
theorem more_valid {b : Br} (hv : ValidB b) {i : Nat} (hi : i < b.brs.length) {cs : List Cr} {done : List Bool} (hd : done.length = b.done.length) (hr : (recL (ofB b (i : Int)).1 cs).2 = 0) :
    ValidB (more b i cs done) ∧ ofB (more b i cs done) (i : Int) = recL (ofB b (i : Int)).1 cs ∧ ∀ no : Int, no < (b.brs.length : Int) → no ≠ (i : Int) → ofB (more b i cs done) no = ofB b no := by
  obtain ⟨hf, hc, ho⟩ := hv
  have hg := more_grown hi cs done
  have hf0 := hf
  obtain ⟨f1, f2, f3, f4, f5⟩ := hf
  have hl : (more b i cs done).brs.length = b.brs.length := by unfold more; simp
  have hlen : ∀ no : Int, no < (b.brs.length : Int) → no ≠ (i : Int) → lenB (more b i cs done) no = lenB b no := fun no hno hne => by
    rw [lenB_K, lenB_K]
    by_cases h : no < 0
    · rw [show (no + 1).toNat = 0 by omega]; rfl
    · rw [show (no + 1).toNat = no.toNat + 1 by omega]
      show (brB (more b i cs done) no.toNat).length = (brB b no.toNat).length
      rw [more_brs hi, if_neg (by omega)]
  have hf' : Formed (more b i cs done) := by
    refine ⟨by omega, by rw [hl]; exact f2, by rw [hl]; exact f3, by rw [hl]; show done.length = _; omega, fun j hj => ?_⟩
    rw [hl] at hj
    rw [hg.par j hj, hg.fks j hj]
    have h5 := f5 j hj
    have := lenB_grown hg (no := parB b j) (by omega)
    omega
  have hoi : ofB (more b i cs done) (i : Int) = recL (ofB b (i : Int)).1 cs := by
    have h5 := f5 i hi
    rw [ofB_step hf' (by omega), hg.par i hi, hg.fks i hi, more_brs hi, if_pos rfl]
    have hw := withB_grown hf0 hg (no := parB b i) (many := (fkB b i).toNat) (by omega) (by omega)
    rw [hw]
    have hoo := ho i hi
    rw [ofB_step hf0 hi] at hoo ⊢
    by_cases hz : (withB b (parB b i) (fkB b i).toNat).2 ≠ 0
    · rw [if_pos hz] at hoo; exact absurd hoo hz
    · rw [if_neg hz] at hoo ⊢
      rw [if_neg hz, recL_append, if_pos hoo]
  have hother : ∀ no : Int, no < (b.brs.length : Int) → no ≠ (i : Int) → ofB (more b i cs done) no = ofB b no := fun no h1 h2 => ofB_grown hf0 hg h1 (hlen no h1 h2)
  refine ⟨⟨hf', hc, fun j hj => ?_⟩, hoi, hother⟩
  rw [hl] at hj
  by_cases hji : j = i
  · subst hji; rw [hoi]; exact hr
  · rw [hother _ (by omega) (by omega)]; exact ho j hj
/-- Base gets more facts. -/
def moreBase (b : Br) (l : List Fct) (done : List Bool) : Br := ⟨l, b.brs, b.par, b.fks, done⟩
theorem moreBase_valid {b : Br} (hv : ValidB b) {l : List Fct} {done : List Bool} (hd : done.length = b.done.length) (hl : b.base <+: l) (hc : checkL l = 0) :
    ValidB (moreBase b l done) ∧ ∀ no : Int, 0 ≤ no → no < (b.brs.length : Int) → ofB (moreBase b l done) no = ofB b no := by
  obtain ⟨hf, _, ho⟩ := hv
  have hg : Grown b (moreBase b l done) := ⟨hl, Nat.le_refl _, fun i _ => List.prefix_refl _, fun i _ => rfl, fun i _ => rfl⟩
  have hf0 := hf
  obtain ⟨f1, f2, f3, f4, f5⟩ := hf
  have hbl : (moreBase b l done).brs.length = b.brs.length := rfl
  have hf' : Formed (moreBase b l done) := by
    refine ⟨f1, f2, f3, by show done.length = _; rw [hbl]; omega, fun j hj => ?_⟩
    rw [hbl] at hj
    have h5 := f5 j hj
    have := lenB_grown hg (no := parB b j) (by omega)
    rw [hg.par j hj, hg.fks j hj]
    omega
  have hother : ∀ no : Int, 0 ≤ no → no < (b.brs.length : Int) → ofB (moreBase b l done) no = ofB b no := fun no h0 h1 => ofB_grown hf0 hg h1 (by unfold lenB; rw [if_neg (by omega), if_neg (by omega)]; rfl)
  exact ⟨⟨hf', hc, fun j hj => by rw [hother _ (by omega) (by exact_mod_cast hj)]; exact ho j hj⟩, hother⟩

/-! ## What is done, step by step -/
theorem changeB_ok {b : Br} {no : Int} {c : Cr} (h : (changeB b no c).2 = 0) : ValidB b ∧ OpenB b no ∧ (recL (ofB b no).1 [c]).2 = 0 ∧ changeB b no c = (more b no.toNat [c] b.done, 0) := by
  unfold changeB at h ⊢
  by_cases h1 : ¬ ValidB b
  · rw [if_pos h1] at h; exact absurd h (show (540 : Int) ≠ 0 by decide)
  · rw [if_neg h1] at h ⊢
    by_cases h2 : ¬ OpenB b no
    · rw [if_pos h2] at h; exact absurd h (show (1 : Int) ≠ 0 by decide)
    · rw [if_neg h2] at h ⊢
      by_cases h3 : (recL (ofB b no).1 [c]).2 ≠ 0
      · rw [if_pos h3] at h; exact absurd h h3
      · rw [if_neg h3]
        exact ⟨Classical.not_not.1 h1, Classical.not_not.1 h2, Classical.not_not.1 h3, rfl⟩
theorem changeB_fail {b : Br} {no : Int} {c : Cr} (h : (changeB b no c).2 ≠ 0) : (changeB b no c).1 = Br0 := by
  unfold changeB at h ⊢
  split
  · rfl
  · rename_i h1; rw [if_neg h1] at h
    split
    · rfl
    · rename_i h2; rw [if_neg h2] at h
      split
      · rfl
      · rename_i h3; rw [if_neg h3] at h; exact absurd rfl h
theorem forkB_fail {b : Br} {no : Int} (h : (forkB b no).2.2 ≠ 0) : (forkB b no).1 = Br0 := by
  unfold forkB at h ⊢
  split
  · rfl
  · rename_i h1; rw [if_neg h1] at h
    split
    · rfl
    · rename_i h2; rw [if_neg h2] at h
      split
      · rfl
      · rename_i h3; rw [if_neg h3] at h; exact absurd rfl h
theorem dropB_ok {b : Br} {no : Int} (h : (dropB b no).2 = 0) : ValidB b ∧ OpenB b no ∧ dropB b no = (⟨b.base, b.brs, b.par, b.fks, b.done.set no.toNat true⟩, 0) := by
  unfold dropB at h ⊢
  by_cases h1 : ¬ ValidB b
  · rw [if_pos h1] at h; exact absurd h (show (540 : Int) ≠ 0 by decide)
  · rw [if_neg h1] at h ⊢
    by_cases h2 : ¬ OpenB b no
    · rw [if_pos h2] at h; exact absurd h (show (1 : Int) ≠ 0 by decide)
    · rw [if_neg h2]
      exact ⟨Classical.not_not.1 h1, Classical.not_not.1 h2, rfl⟩
theorem dropB_fail {b : Br} {no : Int} (h : (dropB b no).2 ≠ 0) : (dropB b no).1 = Br0 := by
  unfold dropB at h ⊢
  split
  · rfl
  · rename_i h1; rw [if_neg h1] at h
    split
    · rfl
    · rename_i h2; rw [if_neg h2] at h; exact absurd rfl h
def mergedB (b : Br) (i : Nat) : Br := if parB b i < 0 then moreBase b (recL (ofB b (parB b i)).1 (brB b i)).1 (b.done.set i true) else more b (parB b i).toNat (brB b i) (b.done.set i true)
theorem mergeB_ok {b : Br} {no : Int} (h : (mergeB b no).2.2 = 0) : ValidB b ∧ OpenB b no ∧ (parB b no.toNat = -1 ∨ OpenB b (parB b no.toNat)) ∧ confB b no.toNat = [] ∧ (recL (ofB b (parB b no.toNat)).1 (brB b no.toNat)).2 = 0 ∧ mergeB b no = (mergedB b no.toNat, [], 0) := by
  unfold mergeB at h ⊢
  by_cases h1 : ¬ ValidB b
  · rw [if_pos h1] at h; exact absurd h (show (540 : Int) ≠ 0 by decide)
  · rw [if_neg h1] at h ⊢
    by_cases h2 : ¬ OpenB b no ∨ (parB b no.toNat ≠ -1 ∧ ¬ OpenB b (parB b no.toNat))
    · rw [if_pos h2] at h; exact absurd h (show (1 : Int) ≠ 0 by decide)
    · rw [if_neg h2] at h ⊢
      by_cases h3 : 0 < (confB b no.toNat).length
      · rw [if_pos h3] at h; exact absurd h (show (541 : Int) ≠ 0 by decide)
      · rw [if_neg h3] at h ⊢
        by_cases h4 : (recL (ofB b (parB b no.toNat)).1 (brB b no.toNat)).2 ≠ 0
        · rw [if_pos h4] at h; exact absurd h h4
        · rw [if_neg h4]
          obtain ⟨h5, h6⟩ := not_or.1 h2
          refine ⟨Classical.not_not.1 h1, Classical.not_not.1 h5, ?_, List.eq_nil_of_length_eq_zero (by omega), Classical.not_not.1 h4, ?_⟩
          · by_cases h7 : parB b no.toNat = -1
            · exact .inl h7
            · exact .inr (Classical.byContradiction fun h8 => h6 ⟨h7, h8⟩)
          · unfold mergedB
            by_cases h7 : parB b no.toNat < 0
            · rw [if_pos h7, if_pos h7]; rfl
            · rw [if_neg h7, if_neg h7]; rfl
/-- The same branching, others of them done. -/
def withDone (b : Br) (d : List Bool) : Br := ⟨b.base, b.brs, b.par, b.fks, d⟩
theorem withN_done (b : Br) (d : List Bool) : ∀ f k many, withN (withDone b d) f k many = withN b f k many
  | f, 0, many => by rw [withN_zero, withN_zero]; rfl
  | 0, k + 1, many => rfl
  | f + 1, i + 1, many => by
    have ih := withN_done b d f (parB b i + 1).toNat (fkB b i).toNat
    show (if (withN (withDone b d) f (parB b i + 1).toNat (fkB b i).toNat).2 ≠ 0 then ([], (withN (withDone b d) f (parB b i + 1).toNat (fkB b i).toNat).2) else recL (withN (withDone b d) f (parB b i + 1).toNat (fkB b i).toNat).1 ((brB b i).take many)) = _
    rw [ih]; rfl
theorem ofB_done (b : Br) (d : List Bool) (no : Int) : ofB (withDone b d) no = ofB b no := withN_done b d _ _ _
theorem valid_done {b : Br} {d : List Bool} (hd : d.length = b.done.length) : ValidB (withDone b d) ↔ ValidB b := by
  unfold ValidB Formed
  constructor
  · rintro ⟨⟨a1, a2, a3, a4, a5⟩, a6, a7⟩
    exact ⟨⟨a1, a2, a3, by rw [← hd]; exact a4, a5⟩, a6, fun i hi => by rw [← ofB_done b d]; exact a7 i hi⟩
  · rintro ⟨⟨a1, a2, a3, a4, a5⟩, a6, a7⟩
    exact ⟨⟨a1, a2, a3, by show d.length = _; rw [hd]; exact a4, a5⟩, a6, fun i hi => by rw [ofB_done b d]; exact a7 i hi⟩
theorem mergedB_keep {b : Br} {no : Int} (hv : ValidB b) (ho : OpenB b no) (hr : (recL (ofB b (parB b no.toNat)).1 (brB b no.toNat)).2 = 0) :
    ValidB (mergedB b no.toNat) ∧ (mergedB b no.toNat).brs.length = b.brs.length ∧ ∀ k : Int, k < (b.brs.length : Int) → (k < 0 → 0 ≤ parB b no.toNat) → (0 ≤ k → k ≠ parB b no.toNat) → ofB (mergedB b no.toNat) k = ofB b k := by
  obtain ⟨h0, h1, _⟩ := ho
  obtain ⟨hp, _⟩ := hv.1.2.2.2.2 no.toNat (by omega)
  unfold mergedB
  by_cases h : parB b no.toNat < 0
  · rw [if_pos h]
    rw [ofB_neg h] at hr ⊢
    obtain ⟨fs, hfs, _⟩ := recL_ok hr
    have hchk := recL_check (cs := brB b no.toNat) hv.2.1
    obtain ⟨m1, m2⟩ := moreBase_valid hv (done := b.done.set no.toNat true) (by simp) (show b.base <+: (recL b.base (brB b no.toNat)).1 by rw [hfs]; exact List.prefix_append _ _) hchk
    refine ⟨m1, rfl, fun k hk hk2 hk3 => ?_⟩
    by_cases hkn : k < 0
    · have := hk2 hkn; omega
    · exact m2 k (by omega) hk
  · rw [if_neg h]
    have hpi : (parB b no.toNat).toNat < b.brs.length := by omega
    have hr' : (recL (ofB b ((parB b no.toNat).toNat : Int)).1 (brB b no.toNat)).2 = 0 := by rw [Int.toNat_of_nonneg (by omega)]; exact hr
    obtain ⟨m1, m2, m3⟩ := more_valid hv hpi (cs := brB b no.toNat) (done := b.done.set no.toNat true) (by simp) hr'
    refine ⟨m1, by unfold more; simp, fun k hk hk2 hk3 => m3 k hk ?_⟩
    by_cases hkn : k < 0
    · omega
    · have := hk3 (by omega); omega

/-! ## Moves -/
structure Mv where
  kind : Int
  no : Int
  c : Cr
def doB (b : Br) (m : Mv) : Br :=
  if m.kind = 0 then (if (forkB b m.no).2.2 ≠ 0 then b else (forkB b m.no).1)
  else if m.kind = 1 then (if (changeB b m.no m.c).2 ≠ 0 then b else (changeB b m.no m.c).1)
  else if m.kind = 2 then (if (mergeB b m.no).2.2 ≠ 0 then b else (mergeB b m.no).1)
  else if m.kind = 3 then (if (dropB b m.no).2 ≠ 0 then b else (dropB b m.no).1)
  else b
def skips (b : Br) (no : Int) (m : Mv) : Prop := (m.kind = 1 ∧ m.no = no) ∨ (m.kind = 2 ∧ 0 ≤ m.no ∧ m.no < (b.par.length : Int) ∧ parB b m.no.toNat = no)
instance (b : Br) (no : Int) (m : Mv) : Decidable (skips b no m) := by unfold skips; infer_instance
theorem doB_keep {b : Br} {no : Int} {m : Mv} (hv : ValidB b) (h0 : 0 ≤ no) (h1 : no < (b.brs.length : Int)) (hs : ¬ skips b no m) :
    ValidB (doB b m) ∧ b.brs.length ≤ (doB b m).brs.length ∧ ofB (doB b m) no = ofB b no := by
  have keep : ValidB b ∧ b.brs.length ≤ b.brs.length ∧ ofB b no = ofB b no := ⟨hv, Nat.le_refl _, rfl⟩
  unfold doB
  by_cases k0 : m.kind = 0
  · rw [if_pos k0]
    split
    · exact keep
    · rename_i he
      obtain ⟨a1, a2, a3, a4⟩ := forkB_ok (Classical.not_not.1 he)
      rw [a4]
      refine ⟨forkB_valid a1 a2 a3, by simp, ?_⟩
      refine ofB_grown hv.1 (forkB_grown hv.1 m.no) h1 ?_
      have hn : ¬ no < 0 := by omega
      unfold lenB
      rw [if_neg hn, if_neg hn]
      simp only
      rw [List.getElem?_append_left (by omega)]
  rw [if_neg k0]
  by_cases k1 : m.kind = 1
  · rw [if_pos k1]
    split
    · exact keep
    · rename_i he
      obtain ⟨a1, a2, a3, a4⟩ := changeB_ok (Classical.not_not.1 he)
      rw [a4]
      obtain ⟨o1, o2, _⟩ := a2
      have hr' : (recL (ofB b (m.no.toNat : Int)).1 [m.c]).2 = 0 := by rw [Int.toNat_of_nonneg o1]; exact a3
      obtain ⟨m1, m2, m3⟩ := more_valid hv (show m.no.toNat < b.brs.length by omega) (cs := [m.c]) (done := b.done) rfl hr'
      have hne : m.no ≠ no := fun e => hs (.inl ⟨k1, e⟩)
      exact ⟨m1, by unfold more; simp, m3 no h1 (by omega)⟩
  rw [if_neg k1]
  by_cases k2 : m.kind = 2
  · rw [if_pos k2]
    split
    · exact keep
    · rename_i he
      obtain ⟨a1, a2, a3, a4, a5, a6⟩ := mergeB_ok (Classical.not_not.1 he)
      rw [a6]
      obtain ⟨m1, m2, m3⟩ := mergedB_keep a1 a2 a5
      refine ⟨m1, Nat.le_of_eq m2.symm, m3 no h1 (fun h => by omega) (fun _ e => hs (.inr ⟨k2, a2.1, ?_, e.symm⟩))⟩
      have := a2.2.1
      have := hv.1.2.1
      omega
  rw [if_neg k2]
  by_cases k3 : m.kind = 3
  · rw [if_pos k3]
    split
    · exact keep
    · rename_i he
      obtain ⟨a1, a2, a3⟩ := dropB_ok (Classical.not_not.1 he)
      rw [a3]
      exact ⟨(valid_done (by simp)).2 hv, Nat.le_refl _, ofB_done b _ no⟩
  rw [if_neg k3]
  exact keep

/-! ## A branch that was dropped -/
theorem factsB_done {b : Br} {d : List Bool} (hd : d.length = b.done.length) (no : Int) : factsB (withDone b d) no = factsB b no := by
  by_cases hv : ValidB b
  · have e1 : factsB b no = if no < -1 ∨ (b.brs.length : Int) ≤ no then ([], 1) else ofB b no := if_neg (fun h => h hv)
    have e2 : factsB (withDone b d) no = if no < -1 ∨ (b.brs.length : Int) ≤ no then ([], 1) else ofB (withDone b d) no := if_neg (fun h => h ((valid_done hd).2 hv))
    rw [e1, e2, ofB_done]
  · have e1 : factsB b no = ([], 540) := if_pos hv
    have e2 : factsB (withDone b d) no = ([], 540) := if_pos (fun h => hv ((valid_done hd).1 h))
    rw [e1, e2]
theorem closed {b : Br} {no : Int} (ho : OpenB b no) (hl : b.done.length = b.brs.length) : ¬ OpenB (withDone b (b.done.set no.toNat true)) no := by
  rintro ⟨h0, h1, h2⟩
  obtain ⟨_, h3, _⟩ := ho
  unfold doneB withDone at h2
  simp only at h2
  rw [List.getElem?_set_self (by omega)] at h2
  cases h2
theorem more_nil {b : Br} {i : Nat} (hi : i < b.brs.length) (d : List Bool) : more b i [] d = withDone b d := by
  unfold more withDone brB
  rw [List.append_nil, List.getElem?_eq_getElem hi]
  show Br.mk _ (b.brs.set i b.brs[i]) _ _ _ = _
  rw [List.set_getElem_self]
theorem dropped {b : Br} {no : Int} (h : (dropB b no).2 = 0) (c : Cr) : ValidB b ∧ OpenB b no ∧ dropB b no = (withDone b (b.done.set no.toNat true), 0) ∧ (∀ k, factsB (dropB b no).1 k = factsB b k) ∧ (changeB (dropB b no).1 no c).2 = 1 ∧ (mergeB (dropB b no).1 no).2.2 = 1 ∧ (dropB (dropB b no).1 no).2 = 1 ∧ (forkB (dropB b no).1 no).2.2 = 1 := by
  obtain ⟨hv, ho, he⟩ := dropB_ok h
  have hd : (b.done.set no.toNat true).length = b.done.length := by simp
  have hc := closed ho hv.1.2.2.2.1
  have hv' := (valid_done hd).2 hv
  have he' : dropB b no = (withDone b (b.done.set no.toNat true), 0) := he
  rw [he']
  refine ⟨hv, ho, rfl, fun k => factsB_done hd k, ?_, ?_, ?_, ?_⟩
  · unfold changeB; rw [if_neg (fun h => h hv'), if_pos hc]
  · unfold mergeB; rw [if_neg (fun h => h hv'), if_pos (.inl hc)]
  · unfold dropB; rw [if_neg (fun h => h hv'), if_pos hc]
  · unfold forkB
    have := ho.1
    rw [if_neg (fun h => h hv'), if_pos ⟨by omega, hc⟩]
theorem dropped_merge {b : Br} {no : Int} (hv : ValidB b) (ho : OpenB b no) (hn : brB b no.toNat = []) : ((mergeB b no).2.2 = 0 ∧ ∀ k, factsB (mergeB b no).1 k = factsB b k) ∨ (mergeB b no).2.2 = 1 := by
  have hconf : confB b no.toNat = [] := by unfold confB; rw [hn]; rfl
  obtain ⟨h0, h1, _⟩ := ho
  by_cases hp : parB b no.toNat ≠ -1 ∧ ¬ OpenB b (parB b no.toNat)
  · refine .inr ?_
    unfold mergeB; rw [if_neg (fun h => h hv), if_pos (.inr hp)]
  · have hz : (mergeB b no).2.2 = 0 := by
      unfold mergeB
      rw [if_neg (fun h => h hv), if_neg (fun h => h.elim (fun h => h ⟨h0, h1, by assumption⟩) hp), hconf, if_neg (by simp), hn]
      show (if (0 : Int) ≠ 0 then _ else _ : Br × List Ky × Int).2.2 = 0
      rw [if_neg (fun h => h rfl)]
      split <;> rfl
    refine .inl ⟨hz, fun k => ?_⟩
    obtain ⟨_, ho2, _, _, _, he⟩ := mergeB_ok hz
    rw [he]
    obtain ⟨hpl, _⟩ := hv.1.2.2.2.2 no.toNat (by omega)
    have : mergedB b no.toNat = withDone b (b.done.set no.toNat true) := by
      unfold mergedB
      rw [hn]
      split
      · rename_i h; rw [ofB_neg h]; rfl
      · rename_i h; exact more_nil (by omega) _
    rw [this]
    exact factsB_done (by simp) k
end Go.Proofs.Ytfgckcochilpkaa

/- Branches: plain laws about merging; no program in sight. -/
set_option linter.unusedVariables false
set_option maxRecDepth 100000
set_option linter.unusedSimpArgs false
namespace Go.Proofs.Ytfgckcochilpkaa
open Go Go.Eng

/-! ## In a list that rises the last fact counts -/
theorem before_all {l : List Fct} {f : Fct} (hr : Risen l) (h : lastBad l f = false) : ∀ n, ∀ j, (hj : j < l.length) → j + n + 1 = l.length → before l[j] f
  | 0, j, hj, e => by
    have := lastBad_no h (by omega)
    rwa [show l[l.length - 1]'(by omega) = l[j] from (by congr 1; omega)] at this
  | n + 1, j, hj, e => by
    have h1 := before_all hr h n (j + 1) (by omega) (by omega)
    have h2 := hr j (by omega)
    unfold before at *
    omega
theorem best_mem {l : List Fct} {k : Ky} {d t : Int} {g : Fct} (h : bestL l k d t = some g) : g ∈ l := by
  have := best_last l k d t l.length (Nat.le_refl _)
  rw [List.take_length] at this
  rcases this with ⟨hn, _⟩ | ⟨b, hb, hs, _⟩
  · rw [h] at hn; cases hn
  · rw [h] at hs; injection hs with e; rw [e]; exact List.getElem_mem hb
theorem ofL_snoc (l : List Fct) (f : Fct) (k : Ky) (t : Int) : ofL (l ++ [f]) k t = ofL l k t ++ (if f.key = k ∧ f.known ≤ t then [f] else []) := by
  unfold ofL
  rw [List.filter_append]
  by_cases h : f.key = k ∧ f.known ≤ t
  · rw [if_pos h, List.filter_cons_of_pos (by simpa using h)]; rfl
  · rw [if_neg h, List.filter_cons_of_neg (by simpa using h)]; rfl
theorem snoc_last {l : List Fct} {f : Fct} (h : checkL (l ++ [f]) = 0) : checkL l = 0 ∧ Fits f ∧ lastBad l f = false := by
  obtain ⟨h1, h2⟩ := checkL_zero.1 h
  refine ⟨?_, h1 f (by simp), ?_⟩
  · have := checkL_take h l.length
    rwa [List.take_left] at this
  · rcases Nat.eq_zero_or_pos l.length with h0 | h0
    · rw [List.eq_nil_of_length_eq_zero h0]; rfl
    · have h3 := h2 (l.length - 1) (by rw [List.length_append]; simp; omega)
      rw [List.getElem_append_left (by omega), List.getElem_append_right (by omega)] at h3
      unfold lastBad
      rw [List.getLast?_eq_getElem?, List.getElem?_eq_getElem (by omega)]
      simpa using h3
def onDay (k : Ky) (day : Int) (f : Fct) : Bool := decide (f.key = k ∧ f.lo ≤ day ∧ day < f.hi)
theorem best_risen {T : Int} (hT : 16777216 ≤ T) (k : Ky) (day : Int) : ∀ (n : Nat) (l : List Fct), l.length = n → checkL l = 0 → bestL l k day T = (l.filter (onDay k day)).getLast?
  | 0, l, hl, _ => by rw [List.eq_nil_of_length_eq_zero hl]; rfl
  | n + 1, l, hl, hc => by
    rcases List.eq_nil_or_concat l with h0 | ⟨l', f, h0⟩
    · rw [h0] at hl; cases hl
    · rw [List.concat_eq_append] at h0
      subst h0
      obtain ⟨c1, c2, c3⟩ := snoc_last hc
      have ih := best_risen hT k day n l' (by simpa using hl) c1
      have hkn : f.known ≤ T := by have := c2.2.2.2.2.2.2.2.1.2; omega
      have hb : bestL (l' ++ [f]) k day T = if f.key = k ∧ f.lo ≤ day ∧ day < f.hi then some f else bestL l' k day T := by
        unfold bestL
        rw [ofL_snoc, List.foldl_append]
        by_cases h1 : f.key = k
        · rw [if_pos ⟨h1, hkn⟩]
          show dayStep day (bestL l' k day T) f = _
          unfold dayStep
          by_cases h2 : f.lo ≤ day ∧ day < f.hi
          · rw [if_pos h2, if_pos ⟨h1, h2⟩]
            cases hg : bestL l' k day T with
            | none => rfl
            | some g =>
              obtain ⟨j, hj, rfl⟩ := List.getElem_of_mem (best_mem hg)
              have := before_all (checkL_zero.1 c1).2 c3 (l'.length - 1 - j) j hj (by omega)
              simp only
              rw [if_neg (fun h => by unfold before at *; omega)]
          · rw [if_neg h2, if_neg (fun h => h2 h.2)]; rfl
        · rw [if_neg (fun h => h1 h.1), if_neg (fun h => h1 h.1)]; rfl
      rw [hb, List.filter_append]
      by_cases h : f.key = k ∧ f.lo ≤ day ∧ day < f.hi
      · rw [if_pos h, List.filter_cons_of_pos (by unfold onDay; simpa using h)]
        simp
      · rw [if_neg h, List.filter_cons_of_neg (by unfold onDay; simpa using h), List.filter_nil, List.append_nil]
        exact ih
def valsK (l : List Fct) (k : Ky) (day : Int) : List Int := (l.filter (onDay k day)).map Fct.val
def valV : Option Int → Int × Bool
  | none => (0, false)
  | some v => if v < 0 then (0, false) else (v, true)
theorem at_vals {l : List Fct} (hc : checkL l = 0) {T : Int} (hT : 16777216 ≤ T) (k : Ky) (day : Int) : atL l k day T = valV (valsK l k day).getLast? := by
  unfold atL valsK
  rw [best_risen hT k day _ l rfl hc, List.getLast?_map]
  cases (l.filter (onDay k day)).getLast? <;> rfl
theorem points_vals {l m : List Fct} (hl : checkL l = 0) (hm : checkL m = 0) {T : Int} (hT : 16777216 ≤ T) (k : Ky) (lo hi : Int) (h : ∀ day, valsK l k day = valsK m k day) : pointsL l k lo hi T = pointsL m k lo hi T := by
  unfold pointsL
  rw [show (fun d => atL l k d T) = fun d => atL m k d T from funext fun d => by rw [at_vals hl hT, at_vals hm hT, h]]
theorem valsK_append (l m : List Fct) (k : Ky) (day : Int) : valsK (l ++ m) k day = valsK l k day ++ valsK m k day := by
  unfold valsK; rw [List.filter_append, List.map_append]
theorem valsK_none {l : List Fct} {k : Ky} (h : ∀ f ∈ l, f.key ≠ k) (day : Int) : valsK l k day = [] := by
  unfold valsK
  rw [List.filter_eq_nil_iff.2 (fun f hf => by have := h f hf; unfold onDay; simp only [decide_eq_true_eq]; exact fun x => this x.1)]
  rfl
abbrev toCr (f : Fct) : Cr := ⟨f.key, f.val, f.lo, f.hi⟩
def crVals (cs : List Cr) (k : Ky) (day : Int) : List Int := (cs.filter fun c => decide (c.key = k ∧ c.lo ≤ day ∧ day < c.hi)).map Cr.val
theorem valsK_cr (fs : List Fct) (k : Ky) (day : Int) : valsK fs k day = crVals (fs.map toCr) k day := by
  unfold valsK crVals
  rw [List.filter_map, List.map_map]
  rfl
theorem crVals_none {cs : List Cr} {k : Ky} (h : k ∉ cs.map Cr.key) (day : Int) : crVals cs k day = [] := by
  unfold crVals
  rw [List.filter_eq_nil_iff.2 (fun c hc => by simp only [decide_eq_true_eq]; exact fun x => h (List.mem_map.2 ⟨c, hc, x.1⟩))]
  rfl
theorem recL_vals {l : List Fct} {cs : List Cr} (h : (recL l cs).2 = 0) (k : Ky) (day : Int) : valsK (recL l cs).1 k day = valsK l k day ++ crVals cs k day := by
  obtain ⟨fs, h1, h2, h3⟩ := recL_ok h
  rw [h1, valsK_append, valsK_cr fs, show fs.map toCr = cs from h3]
theorem recL_len {l : List Fct} {cs : List Cr} (h : (recL l cs).2 = 0) : (recL l cs).1.length = l.length + cs.length := by
  obtain ⟨fs, h1, h2, h3⟩ := recL_ok h
  rw [h1, List.length_append, h2]

/-! ## A merge -/
/-- What the parent has: what it had at the fork, and what is new. -/
theorem parent_split {b : Br} (hv : ValidB b) {i : Nat} (hi : i < b.brs.length) : (withB b (parB b i) (fkB b i).toNat).2 = 0 ∧ ∃ N : List Fct, (ofB b (parB b i)).1 = (withB b (parB b i) (fkB b i).toNat).1 ++ N ∧ ∀ k, (∃ f ∈ N, f.key = k) ↔ k ∈ freshK b i := by
  obtain ⟨hp, hk0, hk1⟩ := hv.1.2.2.2.2 i hi
  unfold freshK
  by_cases h : parB b i < 0
  · rw [if_pos h, ofB_neg h, withB_base h]
    refine ⟨rfl, b.base.drop (fkB b i).toNat, (List.take_append_drop _ _).symm, fun k => ?_⟩
    rw [List.mem_map]
  · rw [if_neg h]
    have hpn : (parB b i).toNat < b.brs.length := by omega
    have e : ((parB b i).toNat : Int) = parB b i := by omega
    have ho := hv.2.2 _ hpn
    have hs1 := ofB_step hv.1 hpn
    have hs2 := withB_step hv.1 hpn (fkB b i).toNat
    rw [e] at hs1 hs2 ho
    by_cases hz : (withB b (parB b (parB b i).toNat) (fkB b (parB b i).toNat).toNat).2 ≠ 0
    · rw [hs1, if_pos hz] at ho; exact absurd ho hz
    · rw [if_neg hz] at hs1 hs2
      have hsp : brB b (parB b i).toNat = (brB b (parB b i).toNat).take (fkB b i).toNat ++ (brB b (parB b i).toNat).drop (fkB b i).toNat := (List.take_append_drop _ _).symm
      rw [hs1, hsp, recL_append] at ho
      have h2 : (withB b (parB b i) (fkB b i).toNat).2 = 0 := by
        rw [hs2]
        exact Classical.byContradiction fun hn => by rw [if_neg hn] at ho; exact hn ho
      refine ⟨h2, ?_⟩
      rw [hs2] at h2
      rw [if_pos h2] at ho
      obtain ⟨fs, f1, f2, f3⟩ := recL_ok ho
      refine ⟨fs, ?_, fun k => ?_⟩
      · rw [hs1, hs2]
        conv => lhs; rw [hsp]
        rw [recL_append, if_pos h2]; exact f1
      · rw [List.mem_map]
        constructor
        · rintro ⟨f, hf, rfl⟩
          exact ⟨toCr f, by rw [← f3]; exact List.mem_map.2 ⟨f, hf, rfl⟩, rfl⟩
        · rintro ⟨c, hc, rfl⟩
          rw [← f3] at hc
          obtain ⟨f, hf, rfl⟩ := List.mem_map.1 hc
          exact ⟨f, hf, rfl⟩
theorem own_split {b : Br} (hv : ValidB b) {i : Nat} (hi : i < b.brs.length) : ofB b (i : Int) = recL (withB b (parB b i) (fkB b i).toNat).1 (brB b i) := by
  rw [ofB_step hv.1 hi, if_neg (fun h => h (parent_split hv hi).1)]
theorem merged_after {b : Br} {no : Int} (hv : ValidB b) (ho : OpenB b no) (hr : (recL (ofB b (parB b no.toNat)).1 (brB b no.toNat)).2 = 0) : ofB (mergedB b no.toNat) (parB b no.toNat) = recL (ofB b (parB b no.toNat)).1 (brB b no.toNat) := by
  obtain ⟨h0, h1, _⟩ := ho
  obtain ⟨hp, _⟩ := hv.1.2.2.2.2 no.toNat (by omega)
  unfold mergedB
  by_cases h : parB b no.toNat < 0
  · rw [if_pos h, ofB_neg h]
    have : (recL (ofB b (parB b no.toNat)).1 (brB b no.toNat)) = ((recL (ofB b (parB b no.toNat)).1 (brB b no.toNat)).1, 0) := Prod.ext rfl hr
    exact this.symm
  · rw [if_neg h]
    have e : ((parB b no.toNat).toNat : Int) = parB b no.toNat := by omega
    have hr' : (recL (ofB b ((parB b no.toNat).toNat : Int)).1 (brB b no.toNat)).2 = 0 := by rw [e]; exact hr
    obtain ⟨_, m2, _⟩ := more_valid hv (show (parB b no.toNat).toNat < b.brs.length by omega) (cs := brB b no.toNat) (done := b.done.set no.toNat true) (by simp) hr'
    rw [e] at m2
    exact m2
theorem merged_alike {b : Br} {no : Int} (hv : ValidB b) (ho : OpenB b no) (hc : confB b no.toNat = []) (hr : (recL (ofB b (parB b no.toNat)).1 (brB b no.toNat)).2 = 0) {T : Int} (hT : 16777216 ≤ T) (k : Ky) (lo hi : Int) :
    (k ∈ (brB b no.toNat).map Cr.key → pointsL (recL (ofB b (parB b no.toNat)).1 (brB b no.toNat)).1 k lo hi T = pointsL (ofB b no).1 k lo hi T) ∧
    (k ∉ (brB b no.toNat).map Cr.key → pointsL (recL (ofB b (parB b no.toNat)).1 (brB b no.toNat)).1 k lo hi T = pointsL (ofB b (parB b no.toNat)).1 k lo hi T) := by
  obtain ⟨h0, h1, _⟩ := ho
  have hi' : no.toNat < b.brs.length := by omega
  have e : ((no.toNat : Nat) : Int) = no := by omega
  have hcb := ofB_check hv.2.1 (parB b no.toNat)
  have hca := recL_check (cs := brB b no.toNat) hcb
  constructor
  · intro hk
    refine points_vals hca (ofB_check hv.2.1 _) hT k lo hi fun day => ?_
    obtain ⟨_, N, hN, hNk⟩ := parent_split hv hi'
    have hfr : k ∉ freshK b no.toNat := fun hf => by
      have := ((confB_spec b no.toNat).2 k).2 ⟨hk, hf⟩
      rw [hc] at this; cases this
    have hown := own_split hv hi'
    have ho2 := hv.2.2 _ hi'
    rw [e] at hown ho2
    rw [hown] at ho2
    rw [recL_vals hr, hN, valsK_append, valsK_none (l := N) (fun f hf hk2 => hfr ((hNk k).1 ⟨f, hf, hk2⟩)), List.append_nil, hown, recL_vals ho2]
  · intro hk
    refine points_vals hca hcb hT k lo hi fun day => ?_
    rw [recL_vals hr, crVals_none hk, List.append_nil]
end Go.Proofs.Ytfgckcochilpkaa

/- The engine, part fifteen: make, copy, append of zeros. -/
set_option linter.unusedVariables false
set_option linter.unusedSimpArgs false
namespace Go.Eng
open Go

section
variable {P : Program} {n : Nat} {ds : List Deferred} {Q : PostE} {E : Env} {w : World} {o : Oper}

/-- make of a list. -/
theorem acts_makeSlice {t e : TypeId} {x : Operand} {k : IntKind} {len size bytes : Nat} (ho : o.op = .makeSlice t x x) (he : elemOK P t e size bytes = true) (hx : ev E x = some (.int k (len : Int))) (hb : bytes * len ≤ 281474976710656) (hl : len ≤ 140737488355328) :
    Acts P n ds E o w (fun v w' => Ext [] w w' ∧ ∃ b cs, v = .slice (some ⟨b, 0, none⟩) len len ∧ w.heap.size ≤ b ∧ Blk w' b e cs ∧ cs.length = len * size) Q := by
  intro a ha _
  obtain ⟨i, z, h1, h2, h3, h4, h5, h6, h7⟩ := elemOK_spec he
  have hb' : (i.bytes : Int) * (len : Int) ≤ 281474976710656 := by
    have h : ((i.bytes * len : Nat) : Int) ≤ 281474976710656 := by rw [h5]; omega
    rwa [Int.natCast_mul] at h
  have hr := run_make (P := P) w t e i z h1 h2 h3 k k len len (by omega) (Int.le_refl _) hb' (by omega)
  simp only [Int.toNat_natCast, h4] at hr
  refine .inl ⟨.slice (some ⟨w.heap.size, 0, none⟩) len len, { w with heap := w.heap.push (.cells (madeCells z.cells (len * size)) e) }, ?_, Ext.push _ _ _, w.heap.size, (madeCells z.cells (len * size)).toList, rfl, Nat.le_refl _, ?_, by simp [size_madeCells]⟩
  · simp [execOp, ho, ha.eval hx, hr]
  · have := Blk.push w e (madeCells z.cells (len * size)).toList
    simpa using this

/-- copy of a list into a block of the same length, elements of one cell. -/
theorem acts_copy {x y : Operand} {t t' e bt : TypeId} {b len cap c : Nat} {cur cs : List Value} {p : Option Addr} {A : Addr} (ho : o.op = .call { callee := .builtin .copy, args := #[x, y], argTypes := #[t, t'] }) (ht : P.underlying t = some (.slice e)) (hs : (P.info? e).map (·.size) = some 1)
    (hx : ev E x = some (.slice (some ⟨b, 0, none⟩) len cap)) (hy : ev E y = some (.slice p len c)) (hB : Blk w b bt cur) (hl : cur.length = len) (hp : 0 < len → p = some A) (hc : Cells w A cs) (hcl : cs.length = len) (h1 : ∀ v ∈ cs, v.oneCell' = true) :
    Acts P n ds E o w (fun v w' => v = .int .i64 (len : Int) ∧ Ext [b] w w' ∧ Blk w' b bt cs) Q := by
  intro a ha _
  rcases Nat.eq_zero_or_pos len with h0 | h0
  · subst h0
    obtain rfl : cs = [] := List.eq_nil_of_length_eq_zero hcl
    obtain rfl : cur = [] := List.eq_nil_of_length_eq_zero hl
    have hr := run_copy_none (P := P) w t t' o.type e (some ⟨b, 0, none⟩) p 0 cap 0 c ht hs (by simp)
    refine .inl ⟨.int .i64 ((0 : Nat) : Int), w, ?_, rfl, Ext.refl _ _, hB⟩
    simp [execOp, ho, resolve, invoke, builtin, ha.eval hx, ha.eval hy, hr, goInt]
  · obtain rfl := hp h0
    have hr := run_copy_row (P := P) w t t' o.type e b 0 len cap A len c cur.toArray bt cs ht hs hB (by simp [hcl]) hc (by simp; omega) h1
    refine .inl ⟨.int .i64 (len : Int), w.setRow b (cur.toArray.toList.take 0 ++ cs ++ cur.toArray.toList.drop (0 + cs.length)).toArray, ?_, rfl, setRow_ext w b _ (by simp), ?_⟩
    · simp [execOp, ho, resolve, invoke, builtin, ha.eval hx, ha.eval hy, hr, goInt, hcl]
    · have := setRow_heap w b cur.toArray (cur.toArray.toList.take 0 ++ cs ++ cur.toArray.toList.drop (0 + cs.length)).toArray bt _ hB
      unfold Blk
      rw [this]
      have hd : cur.drop (0 + cs.length) = [] := List.drop_eq_nil_iff.2 (by omega)
      simp [hcl, hl]

theorem run_append_zeros {t tn ty e : TypeId} {i : TypeInfo} {z : Value} {kn k : IntKind} (ht : P.underlying t = some (.slice e)) (htn : P.underlying tn = some (.int kn)) (hi : P.info? e = some i) (hz : i.zero = some z) {m : Nat} (h0 : 0 < m) (h63 : m ≤ 140737488355328) (h48 : m * i.bytes ≤ 281474976710656) (hsz : 0 < i.size) (w : World) :
    (Builtin.append_ #[t, tn] ty #[.slice none 0 0, .int k (m : Int)]).run P w = .ok (.slice (some ⟨w.heap.size, 0, none⟩) m (grownCap w m 0 e)) (w.drew.alloc (.cells (Builtin.zeroCells z.cells m ++ Builtin.zeroCells z.cells (grownCap w m 0 e - m)) e)) := by
  have hm : m ≠ 0 := by omega
  have hw : IntKind.i64.wrap (m : Int) = m := by rw [IntKind.wrap_i64]; omega
  have h63' : ¬ (9223372036854775807 < (m : Int)) := by omega
  have h48' : ¬ (281474976710656 < Builtin.nextslicecap m 0 * i.bytes) := by rw [nextslicecap_zero h0]; omega
  have h48i : ¬ (281474976710656 < (m : Int) * (i.bytes : Int)) := by
    have : ((m * i.bytes : Nat) : Int) ≤ 281474976710656 := by omega
    rw [Int.natCast_mul] at this
    omega
  have hneg : ¬ ((m : Int) < 0) := by omega
  have hle : ¬ ((m : Int) ≤ 0) := by omega
  have hmx : ¬ (9223372036854775807 < max (m : Int) 0) := by omega
  have hmz : m * i.size ≠ 0 := Nat.ne_of_gt (Nat.mul_pos h0 hsz)
  have hsz' : i.size ≠ 0 := by omega
  have hfc := run_firstCells_none (P := P) w.drew i.size 0 0 0
  simp [Builtin.append_, run_underlying ht, run_underlying htn, sizeOf, typeInfo, zeroValue, hi, hz, asInt, asIntOf, hw, hm, hneg, hle, hmx, hmz, hsz', h63', h48', h48i, Question.forced, hfc, newRow, grownCap]

theorem acts_append_zeros {x y : Operand} {t tn e : TypeId} {size bytes m : Nat} {kn k : IntKind} (ho : o.op = .call { callee := .builtin .append, args := #[x, y], argTypes := #[t, tn] }) (he : elemOK P t e size bytes = true) (htn : P.underlying tn = some (.int kn))
    (hx : ev E x = some (.slice none 0 0)) (hy : ev E y = some (.int k (m : Int))) (h0 : 0 < m) (hb : m * bytes ≤ 140737488355328) (h63 : m ≤ 140737488355328) :
    Acts P n ds E o w (fun v w' => Ext [] w w' ∧ ∃ b cap cs, v = .slice (some ⟨b, 0, none⟩) m cap ∧ w.heap.size ≤ b ∧ Blk w' b e cs ∧ cs.length = cap * size ∧ m ≤ cap ∧ cap ≤ 9223372036854775807) Q := by
  intro a ha _
  obtain ⟨i, z, h1, h2, h3, h4, h5, h6, h7⟩ := elemOK_spec he
  have hr := run_append_zeros (P := P) (ty := o.type) (k := k) h1 htn h2 h3 h0 h63 (by rw [h5]; omega) (by omega) w
  have hge := grownCap_ge w m 0 e
  have hcm : grownCap w m 0 e ≤ maxLen := grownCap_le_maxLen w m 0 e (by unfold maxLen; omega)
  refine .inl ⟨.slice (some ⟨w.heap.size, 0, none⟩) m (grownCap w m 0 e), w.drew.alloc (.cells (Builtin.zeroCells z.cells m ++ Builtin.zeroCells z.cells (grownCap w m 0 e - m)) e), ?_, ⟨rfl, rfl, rfl, by simp, fun j hk _ => Go.heap_alloc_old w.drew _ hk, Nat.le_succ _⟩, w.heap.size, grownCap w m 0 e, (Builtin.zeroCells z.cells m ++ Builtin.zeroCells z.cells (grownCap w m 0 e - m)).toList, rfl, Nat.le_refl _, ?_, ?_, hge, by unfold maxLen at hcm; omega⟩
  · simp [execOp, ho, resolve, invoke, builtin, ha.eval hx, ha.eval hy, hr]
  · have := heap_alloc_new w.drew (.cells (Builtin.zeroCells z.cells m ++ Builtin.zeroCells z.cells (grownCap w m 0 e - m)) e)
    unfold Blk
    rw [Array.toArray_toList]
    exact this
  · rw [Array.length_toList, Array.size_append, size_zeroCells, size_zeroCells, h6, ← Nat.add_mul]
    congr 1
    omega
end
end Go.Eng
