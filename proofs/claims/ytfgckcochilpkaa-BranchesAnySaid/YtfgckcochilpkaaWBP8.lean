/- Texts of one proof, put together: BranWP, BranUa. -/
import Derived.Test.YtfgckcochilpkaaRows
import Derived.Test.YtfgckcochilpkaaWBP7
/- Branches: how long the lists can become. -/
set_option linter.unusedVariables false
set_option maxRecDepth 100000
set_option linter.unusedSimpArgs false
namespace Go.Proofs.Ytfgckcochilpkaa
open Go Go.Eng

def sumN : Nat → (Nat → Nat) → Nat
  | 0, _ => 0
  | n + 1, f => sumN n f + f n
theorem sumN_congr : ∀ {n : Nat} {f g : Nat → Nat}, (∀ i, i < n → f i = g i) → sumN n f = sumN n g
  | 0, f, g, h => rfl
  | n + 1, f, g, h => by
    show sumN n f + f n = sumN n g + g n
    rw [sumN_congr (fun i hi => h i (by omega)), h n (by omega)]
theorem sumN_le : ∀ {n : Nat} {f g : Nat → Nat}, (∀ i, i < n → f i ≤ g i) → sumN n f ≤ sumN n g
  | 0, f, g, h => Nat.le_refl _
  | n + 1, f, g, h => by
    show sumN n f + f n ≤ sumN n g + g n
    have h1 := sumN_le (n := n) (f := f) (g := g) (fun i hi => h i (by omega))
    have h2 := h n (by omega)
    omega
theorem sumN_mem : ∀ {n : Nat} {f : Nat → Nat} {j : Nat}, j < n → f j ≤ sumN n f
  | 0, f, j, h => absurd h (by omega)
  | n + 1, f, j, h => by
    show f j ≤ sumN n f + f n
    by_cases hj : j = n
    · subst hj; omega
    · have := sumN_mem (f := f) (show j < n by omega); omega
theorem sumN_set : ∀ {n : Nat} {f g : Nat → Nat} {j : Nat}, j < n → (∀ i, i < n → i ≠ j → g i = f i) → sumN n g + f j = sumN n f + g j
  | 0, f, g, j, h, _ => absurd h (by omega)
  | n + 1, f, g, j, h, hs => by
    show sumN n g + g n + f j = sumN n f + f n + g j
    by_cases hj : j = n
    · subst hj
      rw [sumN_congr (f := g) (g := f) (fun i hi => hs i (by omega) (by omega))]; omega
    · have h1 := sumN_set (f := f) (g := g) (show j < n by omega) (fun i hi hne => hs i (by omega) hne)
      have h2 := hs n (by omega) (fun he => hj he.symm)
      omega
theorem sumN_list (l : List (List Cr)) : ∀ n, sumN n (fun i => (l[i]?.getD []).length) = ((l.take n).map List.length).sum
  | 0 => by simp [sumN]
  | n + 1 => by
    show sumN n _ + (l[n]?.getD []).length = _
    rw [sumN_list l n, List.take_add_one, List.map_append, List.sum_append]
    cases l[n]? <;> simp
def wB (b : Br) (i : Nat) : Nat := if doneB b i then 0 else (brB b i).length
def phiB (b : Br) : Nat := b.base.length + sumN b.brs.length (wB b)
structure Bd (K : Nat) (b : Br) : Prop where
  base : phiB b ≤ K
  brs : ∀ i, (brB b i).length ≤ K
theorem Bd.small {K : Nat} {b : Br} (h : Bd K b) (hK : K ≤ 1000) (hv : ValidB b) : SmallB b := by
  obtain ⟨h1, h2⟩ := h
  obtain ⟨v1, v2, v3, v4, _⟩ := hv.1
  unfold phiB at h1
  refine ⟨by omega, fun x hx => ?_, by omega, by omega, by omega, by omega⟩
  obtain ⟨i, hi, rfl⟩ := List.getElem_of_mem hx
  have := h2 i
  unfold brB at this
  rw [List.getElem?_eq_getElem hi] at this
  exact Nat.le_trans this hK
theorem few_bd {b : Br} (h : FewB b) : Bd 54 b := by
  obtain ⟨h1, h2, _⟩ := h
  have h3 : sumN b.brs.length (wB b) ≤ sumB b := by
    unfold sumB
    have := sumN_list b.brs b.brs.length
    rw [List.take_length] at this
    rw [← this]
    refine sumN_le fun i _ => ?_
    unfold wB brB
    split
    · omega
    · exact Nat.le_refl _
  refine ⟨by unfold phiB; omega, fun i => ?_⟩
  unfold brB
  cases hx : b.brs[i]? with
  | none => simp
  | some x =>
    have : x.length ≤ sumB b := le_sum (List.mem_map.2 ⟨x, List.mem_of_getElem? hx, rfl⟩)
    simp only [Option.getD_some]; omega
theorem Bd.mono {K L : Nat} {b : Br} (h : Bd K b) (hk : K ≤ L) : Bd L b := ⟨Nat.le_trans h.base hk, fun i => Nat.le_trans (h.brs i) hk⟩
theorem done_set {d : List Bool} {j i : Nat} (hj : j < d.length) : (d.set j true)[i]?.getD false = if i = j then true else d[i]?.getD false := by
  rw [List.getElem?_set]
  by_cases h : j = i
  · subst h; simp [hj]
  · rw [if_neg h, if_neg (fun he => h he.symm)]
theorem bd_fork {K : Nat} {b : Br} (hv : ValidB b) (h : Bd K b) (par fks : List Int) : Bd K ⟨b.base, b.brs ++ [[]], par, fks, b.done ++ [false]⟩ := by
  obtain ⟨v1, v2, v3, v4, _⟩ := hv.1
  have hb : ∀ i, brB (⟨b.base, b.brs ++ [[]], par, fks, b.done ++ [false]⟩ : Br) i = if i < b.brs.length then brB b i else [] := fun i => by
    unfold brB
    show (b.brs ++ [[]])[i]?.getD [] = _
    by_cases hi : i < b.brs.length
    · rw [if_pos hi, List.getElem?_append_left hi]
    · rw [if_neg hi, List.getElem?_append_right (by omega)]
      cases hk : i - b.brs.length with
      | zero => rfl
      | succ n => simp
  refine ⟨?_, fun i => ?_⟩
  · have h1 := h.base
    unfold phiB at h1 ⊢
    show b.base.length + sumN (b.brs ++ [[]]).length _ ≤ K
    rw [List.length_append, List.length_singleton]
    show b.base.length + (sumN b.brs.length _ + _) ≤ K
    have e1 : wB (⟨b.base, b.brs ++ [[]], par, fks, b.done ++ [false]⟩ : Br) b.brs.length = 0 := by
      unfold wB; rw [hb, if_neg (Nat.lt_irrefl _)]; split <;> rfl
    rw [e1, sumN_congr (g := wB b) (fun i hi => ?_)]
    · omega
    · unfold wB
      rw [hb, if_pos hi]
      have : doneB (⟨b.base, b.brs ++ [[]], par, fks, b.done ++ [false]⟩ : Br) i = doneB b i := by
        unfold doneB; show (b.done ++ [false])[i]?.getD false = _; rw [List.getElem?_append_left (by omega)]
      rw [this]
  · rw [hb]
    split
    · exact h.brs i
    · exact Nat.zero_le _
theorem bd_change {K : Nat} {b : Br} {i : Nat} (h : Bd K b) (hi : i < b.brs.length) (ho : doneB b i = false) (c : Cr) : Bd (K + 1) (more b i [c] b.done) := by
  have hf : wB b i = (brB b i).length := by unfold wB; rw [ho]; rfl
  have h1 := h.base
  unfold phiB at h1
  have hm := sumN_mem (f := wB b) hi
  refine ⟨?_, fun j => ?_⟩
  · unfold phiB
    have hl : (more b i [c] b.done).brs.length = b.brs.length := List.length_set
    rw [hl]
    show b.base.length + _ ≤ _
    have hg : wB (more b i [c] b.done) i = (brB b i).length + 1 := by
      unfold wB; rw [more_brs hi, if_pos rfl]
      show (if doneB b i then 0 else _) = _
      rw [ho]; simp
    have := sumN_set (f := wB b) (g := wB (more b i [c] b.done)) hi (fun j hj hne => by
      unfold wB; rw [more_brs hi, if_neg hne]; rfl)
    omega
  · rw [more_brs hi]
    split
    · rw [List.length_append]; simp; omega
    · have := h.brs j; omega
theorem bd_done {K : Nat} {b : Br} (h : Bd K b) {i : Nat} (hi : i < b.done.length) : Bd K ⟨b.base, b.brs, b.par, b.fks, b.done.set i true⟩ := by
  refine ⟨?_, fun j => h.brs j⟩
  have h1 := h.base
  unfold phiB at h1 ⊢
  have := sumN_le (n := b.brs.length) (f := wB (⟨b.base, b.brs, b.par, b.fks, b.done.set i true⟩ : Br)) (g := wB b) (fun j hj => by
    have hd : doneB (⟨b.base, b.brs, b.par, b.fks, b.done.set i true⟩ : Br) j = if j = i then true else doneB b j := by
      unfold doneB; exact done_set hi
    unfold wB
    rw [hd]
    by_cases hji : j = i
    · rw [if_pos hji]; exact Nat.zero_le _
    · rw [if_neg hji]; exact Nat.le_refl _)
  show b.base.length + sumN b.brs.length _ ≤ K
  omega
theorem bd_merge {K : Nat} {b : Br} {no : Int} (h : Bd K b) (hm : (mergeB b no).2.2 = 0) : Bd K (mergeB b no).1 := by
  obtain ⟨hv, ho, hp, hc, hr, he⟩ := mergeB_ok hm
  rw [he]
  obtain ⟨v1, v2, v3, v4, v5⟩ := hv.1
  obtain ⟨o1, o2, o3⟩ := ho
  have hi : no.toNat < b.brs.length := by omega
  have hid : no.toNat < b.done.length := by omega
  obtain ⟨⟨g1, g2⟩, _⟩ := v5 no.toNat hi
  have hf : wB b no.toNat = (brB b no.toNat).length := by unfold wB; rw [o3]; rfl
  have h1 := h.base
  unfold phiB at h1
  have hmm := sumN_mem (f := wB b) hi
  show Bd K (mergedB b no.toNat)
  unfold mergedB
  by_cases hp0 : parB b no.toNat < 0
  · rw [if_pos hp0]
    have hlen := recL_len hr
    rw [ofB_neg hp0] at hlen ⊢
    have hd : ∀ j, doneB (moreBase b (recL (b.base, (0 : Int)).1 (brB b no.toNat)).1 (b.done.set no.toNat true)) j = if j = no.toNat then true else doneB b j := fun j => by
      unfold doneB; exact done_set hid
    have hs := sumN_set (f := wB b) (g := wB (moreBase b (recL (b.base, (0 : Int)).1 (brB b no.toNat)).1 (b.done.set no.toNat true))) hi (fun j hj hne => by
      unfold wB; rw [hd, if_neg hne]; rfl)
    have hg : wB (moreBase b (recL (b.base, (0 : Int)).1 (brB b no.toNat)).1 (b.done.set no.toNat true)) no.toNat = 0 := by
      unfold wB; rw [hd, if_pos rfl]; rfl
    refine ⟨?_, fun j => h.brs j⟩
    unfold phiB
    show (recL (b.base, (0 : Int)).1 (brB b no.toNat)).1.length + sumN b.brs.length _ ≤ K
    have hlen' : (recL (b.base, (0 : Int)).1 (brB b no.toNat)).1.length = b.base.length + (brB b no.toNat).length := hlen
    omega
  · rw [if_neg hp0]
    have hop : OpenB b (parB b no.toNat) := by
      rcases hp with hp | hp
      · omega
      · exact hp
    obtain ⟨q1, q2, q3⟩ := hop
    have hpi : (parB b no.toNat).toNat < b.brs.length := by omega
    have hne0 : (parB b no.toNat).toNat ≠ no.toNat := by omega
    generalize hP : (parB b no.toNat).toNat = P at *
    have hfp : wB b P = (brB b P).length := by unfold wB; rw [q3]; rfl
    have hd : ∀ j, doneB (more b P (brB b no.toNat) (b.done.set no.toNat true)) j = if j = no.toNat then true else doneB b j := fun j => by
      unfold doneB; exact done_set hid
    have s1 := sumN_set (f := wB b) (g := fun j => if j = no.toNat then 0 else wB b j) hi (fun j hj hne => if_neg hne)
    have s2 := sumN_set (f := fun j => if j = no.toNat then 0 else wB b j) (g := wB (more b P (brB b no.toNat) (b.done.set no.toNat true))) hpi (fun j hj hne => by
      show wB _ j = if j = no.toNat then 0 else wB b j
      unfold wB
      rw [hd, more_brs hpi, if_neg hne]
      by_cases hj2 : j = no.toNat
      · rw [if_pos hj2, if_pos hj2]; rfl
      · rw [if_neg hj2, if_neg hj2])
    have s3 := sumN_mem (f := fun j => if j = no.toNat then 0 else wB b j) hpi
    have hg : wB (more b P (brB b no.toNat) (b.done.set no.toNat true)) P = (brB b P).length + (brB b no.toNat).length := by
      unfold wB
      rw [hd, more_brs hpi, if_pos rfl, if_neg hne0, q3, List.length_append]
      rfl
    simp only [if_neg hne0, if_true] at s1 s2 s3
    refine ⟨?_, fun j => ?_⟩
    · unfold phiB
      have hl : (more b P (brB b no.toNat) (b.done.set no.toNat true)).brs.length = b.brs.length := List.length_set
      rw [hl]
      show b.base.length + _ ≤ K
      omega
    · rw [more_brs hpi]
      split
      · rw [List.length_append]; omega
      · exact h.brs j
theorem bd_do {K : Nat} {b : Br} {m : Mv} (hv : ValidB b) (h : Bd K b) : Bd (K + 1) (doB b m) := by
  have h1 := h.mono (Nat.le_succ K)
  unfold doB
  split
  · split
    · exact h1
    · rename_i he
      obtain ⟨a1, a2, a3, a4⟩ := forkB_ok (Classical.not_not.1 he)
      rw [a4]
      exact bd_fork a1 h1 _ _
  · split
    · split
      · exact h1
      · rename_i he
        obtain ⟨a1, a2, a3, a4⟩ := changeB_ok (Classical.not_not.1 he)
        rw [a4]
        exact bd_change h (by have := a2.1; have := a2.2.1; omega) a2.2.2 m.c
    · split
      · split
        · exact h1
        · rename_i he
          exact bd_merge h1 (Classical.not_not.1 he)
      · split
        · split
          · exact h1
          · rename_i he
            obtain ⟨a1, a2, a3⟩ := dropB_ok (Classical.not_not.1 he)
            rw [a3]
            exact bd_done h1 (by have := a1.1.2.2.2.1; have := a2.1; have := a2.2.1; omega)
        · exact h1

end Go.Proofs.Ytfgckcochilpkaa

/- Branches' walks: the reference's conflicts. -/
set_option linter.unusedVariables false
set_option maxRecDepth 100000
set_option maxHeartbeats 4000000
set_option linter.unusedSimpArgs false
namespace Go.Proofs.Ytfgckcochilpkaa
open Go Go.Eng

def keyF (c : Cr) : Fct := ⟨c.key, 0, 0, 0, 0, 0⟩
theorem keyF_take {cs : List Cr} {i : Nat} (h : i < cs.length) : (cs.take (i + 1)).map keyF = (cs.take i).map keyF ++ [keyF cs[i]] := by
  rw [List.take_succ_eq_append_getElem h, List.map_append]; rfl
theorem refKeys_at (cs : List Cr) (q : Option Addr) (B : Addr) (d : Nat) (w : World) (hc : SlV cc w q B cs d) (hl : cs.length ≤ 1000) :
    Calls Try.prog 51 #[.slice q cs.length d] w (Ret fun r w' => Ext [] w w' ∧ OwnF w.heap.size w' r (cs.map keyF)) := by
  have hf := hc.few
  refine calls_of_Sx (args := [.slice q cs.length d]) Try.func51 rfl rfl ?_
  refine ztx ?_
  refine Ox.pure rfl rfl zas ?_
  refine Ox.fin ?_
  refine ztx ?_
  refine Ox.act rfl rfl (acts_buildSlice (ps := []) rfl rfl rfl rfl rfl rfl rfl rfl) ?_
  rintro vn0 wn0 ⟨en0, bn0, rfl, hbn0, hBn0⟩
  first | (have hCn0 : Cells wn0 ⟨bn0, 0, none⟩ [] := hBn0.cells) | have hCn0 := Blk.cellsL hBn0
  have hln0 := hBn0.lt
  have hzn0 := en0.size
  refine Ox.pure rfl rfl zas ?_
  refine Ox.fin ?_
  refine ztx ?_
  refine Ox.pure rfl rfl zas ?_
  refine Ox.fin ?_
  refine zbl ?_
  refine Sx.loop (ι := Nat × Value) (fun i E wr => E = [(0, .slice q cs.length d), (3, i.2), (4, .int .i64 (i.1 : Int))] ∧ i.1 ≤ cs.length ∧ OwnF w.heap.size wr i.2 ((cs.take i.1).map keyF) ∧ Ext [] w wr) (fun i => cs.length - i.1) (0, .slice (some ⟨bn0, 0, none⟩) 0 0)
    (sub_cons rfl (sub_cons rfl (sub_cons rfl sub_nil))) ⟨rfl, Nat.zero_le _, own_built (size := 8) (len := 0) hBn0 (by omega) rfl (by decide), zxc⟩ ?_
  rintro ⟨i, v⟩ E wr ⟨rfl, hi, hown, er⟩
  dsimp only at hi hown ⊢
  have hz := er.size
  by_cases hlt : i < cs.length
  · have hkl : ((cs.take i).map keyF).length = i := by simp; omega
    have hLk : ∀ u, Ext [] w u → Ld Try.prog u 38 (B.add (i * 6 + 0)) (.agg (kc cs[i].key).toArray) := fun u hu => ld_sub (enc := cc) (sub := kc cs[i].key) (i := i) (l := cs) cc_len (hc.row.ext0 hu) hlt 0 rfl rfl (Nat.le_of_ble_eq_true rfl) rfl
    refine ztx ?_
    refine Ox.pure rfl rfl zmv ?_
    refine Ox.pure rfl rfl zmv ?_
    refine Ox.pure rfl rfl (rp_lenS rfl rfl rfl) ?_
    refine Ox.pure rfl rfl zbc ?_
    refine Ox.fin ?_
    refine zct ?_
    refine zsk ?_
    refine zbl ?_
    refine ztx ?_
    refine Ox.pure rfl rfl zmv ?_
    refine Ox.pure rfl rfl zmv ?_
    refine Ox.pure rfl rfl zmv ?_
    refine Ox.pure rfl rfl (rp_indexAddr i rfl rfl rfl rfl rfl hc.ptr rfl hlt) ?_
    refine Ox.pure rfl rfl zfa ?_
    refine Ox.val rfl rfl (rv_load rfl rfl (fun u hu => hLk u zxc)) ?_
    refine Ox.pure rfl rfl (rp_buildS (ps := [(0, .tmp 17)]) rfl rfl rfl rfl rfl) ?_
    refine Ox.act rfl rfl (acts_buildSlice (ps := [(0, .tmp 18)]) rfl rfl rfl rfl rfl rfl rfl rfl) ?_
    rintro vn5 wn5 ⟨en5, bn5, rfl, hbn5, hBn5⟩
    first | (have hCn5 : Cells wn5 ⟨bn5, 0, none⟩ [_, _, _, _, _, _, _, _] := hBn5.cells) | have hCn5 := Blk.cellsL hBn5
    have hln5 := hBn5.lt
    have hzn5 := en5.size
    refine Ox.act rfl rfl (acts_append (e := 64) (size := 8) (bytes := 64) rfl rfl rfl rfl (own_keep0 hown zxc) (source_slice (m := 1) (news := fc (keyF cs[i])) rfl rfl (fun _ => rfl) (hCn5.ext0 zxc) (fc_one _)) (by first | omega | (dsimp only; omega)) (by first | omega | (dsimp only; omega)) (by omega)) ?_
    rintro va5 wa5 hga5
    refine Ox.pure rfl rfl zas ?_
    refine Ox.fin ?_
    refine ztx ?_
    refine Ox.pure rfl rfl zmv ?_
    refine Ox.pure rfl rfl zba ?_
    refine Ox.pure rfl rfl zas ?_
    refine Ox.fin ?_
    refine ⟨(i + 1, va5), _, sub_cons rfl (sub_cons rfl (sub_cons rfl sub_nil)), ⟨rfl, hlt, ?_, hga5.ext0 zxc (fun g hg => (own_lt hown g (by simp [hg])).1)⟩, by dsimp only; omega⟩
    have h9 := hga5.own
    unfold OwnF
    rw [keyF_take hlt, List.length_append, rowsV_append, rowsV_one]
    exact h9
  · rw [List.take_of_length_le (by omega)] at hown
    refine ztx ?_
    refine Ox.pure rfl rfl zmv ?_
    refine Ox.pure rfl rfl zmv ?_
    refine Ox.pure rfl rfl (rp_lenS rfl rfl rfl) ?_
    refine Ox.pure rfl rfl zbc ?_
    refine Ox.fin ?_
    refine zcf ?_
    refine zex ?_
    refine ztx ?_
    refine Ox.pure rfl rfl zmv ?_
    refine Ox.pure rfl rfl zas ?_
    refine Ox.fin ?_
    refine zrt ?_
    exact endE_ret [_] ⟨rfl, trivial⟩ ⟨zxc, own_keep0 hown zxc⟩

theorem refFresh_at (s : Bs) (hf : Formed s.br) (hsm : Small s) (no : Int) (h0 : 0 ≤ no) (h1 : no < (s.bls.length : Int)) (w : World) (hin : BsIn s w) :
    Calls Try.prog 28 #[.agg (bvc s).toArray, .int .i64 no] w (Ret fun r w' => Ext [] w w' ∧ ∃ (fs : List Fct) (p : Option Addr) (A : Addr) (c : Nat), r = .slice p fs.length c ∧ SlV fc w' p A fs c ∧ fs.map Fct.key = freshK s.br no.toNat ∧ fs.length ≤ 1000) := by
  have hbl := br_len s
  have hbp := hin.bls.ptr
  have hbr := hin.bls.row
  have hpp := hin.par.ptr
  have hpr := hin.par.row
  have hkp := hin.fks.ptr
  have hkr := hin.fks.row
  have hib : no.toNat < s.bls.length := by omega
  obtain ⟨v1, v2, v3, v4, v5⟩ := id hf
  have hip : no.toNat < s.par.length := by have : s.par.length = s.br.brs.length := v2; omega
  have hik : no.toNat < s.fks.length := by have : s.fks.length = s.br.brs.length := v3; omega
  obtain ⟨⟨g1, g2⟩, g3, g4⟩ := v5 no.toNat (by omega)
  obtain ⟨fk, hfk⟩ : ∃ fk : Nat, fkB s.br no.toNat = (fk : Int) := ⟨(fkB s.br no.toNat).toNat, by omega⟩
  have hLp : ∀ u, Ext [] w u → Ld Try.prog u 3 (s.A2.add (no.toNat * 1 + 0)) (.int .i64 (parB s.br no.toNat)) := fun u hu => by
    rw [parB_eq hip]; exact ld_field ic_len (hpr.ext0 hu) hip 0 rfl (by decide) rfl
  have hLk : ∀ u, Ext [] w u → Ld Try.prog u 3 (s.A3.add (no.toNat * 1 + 0)) (.int .i64 (fk : Int)) := fun u hu => by
    rw [← hfk, fkB_eq hik]; exact ld_field ic_len (hkr.ext0 hu) hik 0 rfl (by decide) rfl
  refine calls_of_Sx (args := [.agg (bvc s).toArray, .int .i64 no]) Try.func28 rfl rfl ?_
  by_cases hp0 : parB s.br no.toNat < 0
  · have hlb : lenB s.br (parB s.br no.toNat) = s.base.length := by unfold lenB; rw [if_pos hp0]; rfl
    have hfk2 : fk ≤ s.base.length := by omega
    have hfresh : freshK s.br no.toNat = (s.base.drop fk).map Fct.key := by unfold freshK; rw [if_pos hp0, hfk]; rfl
    have hfs := sl_drop fc_len hin.base hfk2
    have hdl : (s.base.drop fk).length = s.base.length - fk := List.length_drop
    have hble := hin.base.le
    have hsmb := hsm.base
    refine ztx ?_
    refine Ox.act rfl rfl (acts_box rfl rfl) ?_
    rintro vb2 wb2 ⟨eb2, bb2, rfl, hbb2, hBb2⟩
    first | (have hCb2 : Cells wb2 ⟨bb2, 0, none⟩ [_, _, _, _, _] := hBb2.cells) | have hCb2 := Blk.cellsL hBb2
    have hlb2 := hBb2.lt
    have hzb2 := eb2.size
    refine Ox.pure rfl rfl zas ?_
    refine Ox.fin ?_
    refine ztx ?_
    refine Ox.pure rfl rfl zfa ?_
    refine Ox.val rfl rfl zrs ?_
    refine Ox.pure rfl rfl zmv ?_
    refine Ox.pure rfl rfl (rp_indexAddr no.toNat rfl rfl rfl rfl rfl hpp (by omega) hip) ?_
    refine Ox.val rfl rfl (rv_load rfl rfl (fun u hu => hLp u zxc)) ?_
    refine Ox.pure rfl rfl zas ?_
    refine Ox.fin ?_
    refine ztx ?_
    refine Ox.pure rfl rfl zmv ?_
    refine Ox.pure rfl rfl zbc ?_
    refine Ox.fin ?_
    refine zct ?_
    (repeat refine Sx.seq ?_)
    refine Sx.walkR rfl (fun _ _ _ _ h => h) [0, 1, 2, 3, 4, 5, 6, 7, 8] [0, 1, 2, 3, 4, 5, 6, 7, 8] (0) (by kernel_rfl) ?_
    intro hq w1 e1; have hz1 := e1.size
    refine Wx.pure hq rfl rfl rfl rfl zfa ?_
    refine Wx.val hq rfl rfl rfl rfl ([]) zrs ?_
    refine Wx.pure hq rfl rfl rfl rfl zfa ?_
    refine Wx.val hq rfl rfl rfl rfl ([]) zrs ?_
    refine Wx.pure hq rfl rfl rfl rfl zmv ?_
    refine Wx.pure hq rfl rfl rfl rfl (rp_indexAddr no.toNat rfl rfl rfl rfl rfl hkp (by omega) hik) ?_
    refine Wx.val hq rfl rfl rfl rfl ([]) (rv_load rfl rfl (fun u hu => hLk u zxc)) ?_
    refine Wx.pure hq rfl rfl rfl rfl (rp_sliceS fk s.base.length rfl rfl rfl rfl rfl rfl (.inr ⟨_, rfl⟩) (.inl ⟨rfl, rfl⟩) hfk2 hble) ?_
    refine Wx.pure hq rfl rfl rfl rfl zas ?_
    refine Wx.fin ?_
    refine zrt ?_
    refine endE_ret [_] ⟨rfl, trivial⟩ ⟨zxc, s.base.drop fk, _, _, _, ?_, hfs.ext0 zxc, hfresh.symm, by omega⟩
    rw [hdl]; rfl
  · have hpn : (parB s.br no.toNat).toNat < s.bls.length := by omega
    obtain ⟨Af, hsf⟩ := hin.sub _ (List.getElem_mem hpn)
    have hpe := brB_eq (s := s) hpn
    have hLq : ∀ u, Ext [] w u → Ld Try.prog u 59 (s.A1.add ((parB s.br no.toNat).toNat * 1 + 0)) (.slice s.bls[(parB s.br no.toNat).toNat].p s.bls[(parB s.br no.toNat).toNat].l.length s.bls[(parB s.br no.toNat).toNat].c) := fun u hu => ld_field blc_len (hbr.ext0 hu) hpn 0 rfl (by decide) rfl
    have hlb : lenB s.br (parB s.br no.toNat) = s.bls[(parB s.br no.toNat).toNat].l.length := by unfold lenB; rw [if_neg hp0]; show (brB s.br _).length = _; rw [hpe]
    have hfk2 : fk ≤ s.bls[(parB s.br no.toNat).toNat].l.length := by omega
    have hfresh : freshK s.br no.toNat = (s.bls[(parB s.br no.toNat).toNat].l.drop fk).map Cr.key := by unfold freshK; rw [if_neg hp0, hfk, hpe]; rfl
    have hfs := sl_drop cc_len hsf hfk2
    have hdl : (s.bls[(parB s.br no.toNat).toNat].l.drop fk).length = s.bls[(parB s.br no.toNat).toNat].l.length - fk := List.length_drop
    have hble := hsf.le
    have hsmb := hsm.brs (parB s.br no.toNat).toNat
    rw [hpe] at hsmb
    have hK : ∀ u, Ext [] w u → Calls Try.prog 51 #[.slice (if s.bls[(parB s.br no.toNat).toNat].c = fk then s.bls[(parB s.br no.toNat).toNat].p else s.bls[(parB s.br no.toNat).toNat].p.map (·.add (fk * 6))) (s.bls[(parB s.br no.toNat).toNat].l.length - fk) (s.bls[(parB s.br no.toNat).toNat].c - fk)] u (Ret fun r w' => Ext [] u w' ∧ OwnF u.heap.size w' r ((s.bls[(parB s.br no.toNat).toNat].l.drop fk).map keyF)) := fun u hu => by
      have h9 := refKeys_at (s.bls[(parB s.br no.toNat).toNat].l.drop fk) _ _ _ u (hfs.ext0 hu) (by omega)
      rw [hdl] at h9
      exact h9
    refine ztx ?_
    refine Ox.act rfl rfl (acts_box rfl rfl) ?_
    rintro vb2 wb2 ⟨eb2, bb2, rfl, hbb2, hBb2⟩
    first | (have hCb2 : Cells wb2 ⟨bb2, 0, none⟩ [_, _, _, _, _] := hBb2.cells) | have hCb2 := Blk.cellsL hBb2
    have hlb2 := hBb2.lt
    have hzb2 := eb2.size
    refine Ox.pure rfl rfl zas ?_
    refine Ox.fin ?_
    refine ztx ?_
    refine Ox.pure rfl rfl zfa ?_
    refine Ox.val rfl rfl zrs ?_
    refine Ox.pure rfl rfl zmv ?_
    refine Ox.pure rfl rfl (rp_indexAddr no.toNat rfl rfl rfl rfl rfl hpp (by omega) hip) ?_
    refine Ox.val rfl rfl (rv_load rfl rfl (fun u hu => hLp u zxc)) ?_
    refine Ox.pure rfl rfl zas ?_
    refine Ox.fin ?_
    refine ztx ?_
    refine Ox.pure rfl rfl zmv ?_
    refine Ox.pure rfl rfl zbc ?_
    refine Ox.fin ?_
    refine zcf ?_
    refine zsk ?_
    (repeat refine Sx.seq ?_)
    refine Sx.walkR rfl (fun _ _ _ _ h => h) [0, 1, 2, 3, 4, 5, 6, 7, 8, 9, 10, 11, 12] [0, 1, 2, 3, 4, 5, 6, 7, 8, 9, 10, 12] (0) (by kernel_rfl) ?_
    intro hq w2 e2; have hz2 := e2.size
    refine Wx.pure hq rfl rfl rfl rfl zfa ?_
    refine Wx.val hq rfl rfl rfl rfl ([]) zrs ?_
    refine Wx.pure hq rfl rfl rfl rfl zmv ?_
    refine Wx.pure hq rfl rfl rfl rfl (rp_indexAddr (parB s.br no.toNat).toNat rfl rfl rfl rfl rfl hbp (by omega) hpn) ?_
    refine Wx.val hq rfl rfl rfl rfl ([]) (rv_load rfl rfl (fun u hu => hLq u zxc)) ?_
    refine Wx.pure hq rfl rfl rfl rfl zfa ?_
    refine Wx.val hq rfl rfl rfl rfl ([]) zrs ?_
    refine Wx.pure hq rfl rfl rfl rfl zmv ?_
    refine Wx.pure hq rfl rfl rfl rfl (rp_indexAddr no.toNat rfl rfl rfl rfl rfl hkp (by omega) hik) ?_
    refine Wx.val hq rfl rfl rfl rfl ([]) (rv_load rfl rfl (fun u hu => hLk u zxc)) ?_
    refine Wx.pure hq rfl rfl rfl rfl (rp_sliceS fk s.bls[(parB s.br no.toNat).toNat].l.length rfl rfl rfl rfl rfl rfl (.inr ⟨_, rfl⟩) (.inl ⟨rfl, rfl⟩) hfk2 hble) ?_
    refine Wx.actNew rfl rfl rfl rfl (acts_call rfl rfl rfl (hK _ zxc)) ?_
    rintro v3 w3 e3 hv4
    have hz3 := e3.size
    obtain ⟨p4, c4, A4, rfl, hs4, _⟩ := hv4.sl (by rw [List.length_map]; omega)
    refine Wx.pure hq rfl rfl rfl rfl zas ?_
    refine Wx.fin ?_
    refine zrt ?_
    refine endE_ret [_] ⟨rfl, trivial⟩ ⟨zxc, (s.bls[(parB s.br no.toNat).toNat].l.drop fk).map keyF, _, _, _, rfl, hs4.ext0 zxc, ?_, by rw [List.length_map]; omega⟩
    rw [hfresh, List.map_map]; rfl

end Go.Proofs.Ytfgckcochilpkaa
