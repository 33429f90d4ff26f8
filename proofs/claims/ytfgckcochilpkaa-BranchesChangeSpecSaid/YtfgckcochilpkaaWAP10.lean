/- Texts of one proof, put together: BranU. -/
import Derived.Test.YtfgckcochilpkaaRows
import Derived.Test.YtfgckcochilpkaaWAP9
/- Branches' walks: the reference's conflicts, its Merge. -/
set_option linter.unusedVariables false
set_option maxRecDepth 100000
set_option maxHeartbeats 4000000
set_option linter.unusedSimpArgs false
namespace Go.Proofs.Ytfgckcochilpkaa
open Go Go.Eng

theorem filter_one {l : List Ky} (h : l.Nodup) (a : Ky) : l.filter (fun k => decide (k = a)) = if a ∈ l then [a] else [] := by
  induction l with
  | nil => rfl
  | cons x l ih =>
    have hn := List.nodup_cons.1 h
    rw [List.filter_cons, ih hn.2]
    by_cases hx : x = a
    · subst hx
      rw [if_neg hn.1]; simp
    · have hx' : ¬ a = x := fun h => hx h.symm
      by_cases ha : a ∈ l <;> simp [hx, hx', ha]
theorem pair_nodup {l : List Ky} (h : l.Pairwise lessK) : l.Nodup := h.imp fun {a b} hab he => by subst he; exact absurd hab (by unfold lessK; omega)
theorem filter_take {l : List Ky} {P : Ky → Bool} {i : Nat} (h : i < l.length) : (l.take (i + 1)).filter P = (l.take i).filter P ++ if P l[i] then [l[i]] else [] := by
  rw [List.take_succ_eq_append_getElem h, List.filter_append]
  cases hp : P l[i] <;> simp [hp]
theorem refConflicts_at (s : Bs) (hf : Formed s.br) (hsm : Small s) (no : Int) (h0 : 0 ≤ no) (h1 : no < (s.bls.length : Int)) (w : World) (hin : BsIn s w) :
    Calls Try.prog 49 #[.agg (bvc s).toArray, .int .i64 no] w (Ret fun r w' => Ext [] w w' ∧ OwnK w.heap.size w' r (confB s.br no.toNat)) := by
  have hbp := hin.bls.ptr
  have hbr := hin.bls.row
  have hib : no.toNat < s.bls.length := by omega
  have hLb : ∀ u, Ext [] w u → Ld Try.prog u 59 (s.A1.add (no.toNat * 1 + 0)) (.slice s.bls[no.toNat].p s.bls[no.toNat].l.length s.bls[no.toNat].c) := fun u hu => ld_field blc_len (hbr.ext0 hu) hib 0 rfl (by decide) rfl
  obtain ⟨Ab, hsb⟩ := hin.sub _ (List.getElem_mem hib)
  have hbl2 := hsm.brs no.toNat
  have hbe := brB_eq (s := s) hib
  rw [hbe] at hbl2
  have hkl : ∀ l : List Fct, (keysL l).length ≤ l.length := fun l => by have := keysL_le l l.length; rwa [List.take_length] at this
  refine calls_of_Sx (args := [.agg (bvc s).toArray, .int .i64 no]) Try.func49 rfl rfl ?_
  refine ztx ?_
  refine Ox.act rfl rfl (acts_box rfl rfl) ?_
  rintro vb2 wb2 ⟨eb2, bb2, rfl, hbb2, hBb2⟩
  first | (have hCb2 : Cells wb2 ⟨bb2, 0, none⟩ [_, _, _, _, _] := hBb2.cells) | have hCb2 := Blk.cellsL hBb2
  have hlb2 := hBb2.lt
  have hzb2 := eb2.size
  refine Ox.pure rfl rfl zas ?_
  refine Ox.fin ?_
  refine ztx ?_
  refine Ox.pure rfl rfl zfa ?_
  refine Ox.val rfl rfl zrs ?_
  refine Ox.pure rfl rfl zmv ?_
  refine Ox.pure rfl rfl (rp_indexAddr no.toNat rfl rfl rfl rfl rfl hbp (by omega) hib) ?_
  refine Ox.val rfl rfl (rv_load rfl rfl (fun u hu => hLb u zxc)) ?_
  refine Ox.act rfl rfl (acts_call rfl rfl rfl (refKeys_at s.bls[no.toNat].l _ Ab _ _ (hsb.ext0 zxc) (by omega))) ?_
  rintro vu5 wu5 ⟨eu5, hv5⟩
  have hzu5 := eu5.size
  obtain ⟨p5, c5, A5, rfl, hs5, _⟩ := hv5.sl (by rw [List.length_map]; omega)
  refine Ox.act rfl rfl (acts_call rfl rfl rfl (ref_Keys (s.bls[no.toNat].l.map keyF) p5 A5 c5 _ (hs5.ext0 zxc) (by rw [List.length_map]; omega))) ?_
  rintro vu6 wu6 ⟨eu6, hv6⟩
  have hzu6 := eu6.size
  obtain ⟨p6, c6, A6, rfl, hs6, _⟩ := SlV.of_own hv6 (by have := hkl (s.bls[no.toNat].l.map keyF); rw [List.length_map] at this; omega)
  refine Ox.pure rfl rfl zas ?_
  refine Ox.fin ?_
  refine ztx ?_
  refine Ox.val rfl rfl zra ?_
  refine Ox.pure rfl rfl zmv ?_
  refine Ox.act rfl rfl (acts_call rfl rfl rfl (refFresh_at s hf hsm no h0 h1 _ (hin.ext0 zxc))) ?_
  rintro vu7 wu7 ⟨eu7, fs, p7, A7, c7, rfl, hs7, hfs, hfl⟩
  have hzu7 := eu7.size
  refine Ox.act rfl rfl (acts_call rfl rfl rfl (ref_Keys fs p7 A7 c7 _ (hs7.ext0 zxc) (by omega))) ?_
  rintro vu8 wu8 ⟨eu8, hv8⟩
  have hzu8 := eu8.size
  obtain ⟨p8, c8, A8, rfl, hs8, _⟩ := SlV.of_own hv8 (by have := hkl fs; omega)
  refine Ox.pure rfl rfl zas ?_
  refine Ox.fin ?_
  refine ztx ?_
  refine Ox.act rfl rfl (acts_buildSlice (ps := []) rfl rfl rfl rfl rfl rfl rfl rfl) ?_
  rintro vn3 wn3 ⟨en3, bn3, rfl, hbn3, hBn3⟩
  first | (have hCn3 : Cells wn3 ⟨bn3, 0, none⟩ [] := hBn3.cells) | have hCn3 := Blk.cellsL hBn3
  have hln3 := hBn3.lt
  have hzn3 := en3.size
  refine Ox.pure rfl rfl zas ?_
  refine Ox.fin ?_
  refine ztx ?_
  refine Ox.pure rfl rfl zas ?_
  refine Ox.fin ?_
  refine zbl ?_
  obtain ⟨M, hM⟩ : ∃ M, M = keysL (s.bls[no.toNat].l.map keyF) := ⟨_, rfl⟩
  obtain ⟨N, hN⟩ : ∃ N, N = keysL fs := ⟨_, rfl⟩
  have hMl : M.length ≤ 1000 := by have := hkl (s.bls[no.toNat].l.map keyF); rw [List.length_map] at this; rw [hM]; omega
  have hNl : N.length ≤ 1000 := by have := hkl fs; rw [hN]; omega
  have hMk : M = keysK ((brB s.br no.toNat).map Cr.key) := by rw [hM, keysL_K, hbe, List.map_map]; rfl
  have hNk : N = keysK (freshK s.br no.toNat) := by rw [hN, keysL_K, hfs]
  have hNn : N.Nodup := by rw [hNk]; exact pair_nodup (keysK_spec _).1
  have hconf : confB s.br no.toNat = M.filter fun k => decide (k ∈ N) := by
    unfold confB
    rw [← hMk]
    congr 1
    funext k
    rw [hNk]
    exact decide_eq_decide.2 ((keysK_spec (freshK s.br no.toNat)).2 k).symm
  rw [← hM, ← hN]
  rw [← hM] at hs6
  rw [← hN] at hs8
  have hb3 := hBn3
  refine Sx.loop (ι := Nat × Value) (fun i E wr => E = [(5, .slice p6 M.length c6), (6, .slice p8 N.length c8), (7, i.2), (8, .int .i64 (i.1 : Int))] ∧ i.1 ≤ M.length ∧ OwnK wu8.heap.size wr i.2 ((M.take i.1).filter fun k => decide (k ∈ N)) ∧ Ext [] wu8 wr) (fun i => M.length - i.1) (0, .slice (some ⟨bn3, 0, none⟩) 0 0)
    (sub_cons rfl (sub_cons rfl (sub_cons rfl (sub_cons rfl sub_nil)))) ⟨rfl, Nat.zero_le _, own_built (size := 3) (len := 0) hBn3 (by omega) rfl (by decide), zxc⟩ ?_
  rintro ⟨i, v⟩ E wr ⟨rfl, hi, hown, er⟩
  dsimp only at hi hown ⊢
  have hz := er.size
  have hs8e : Ext [] wu8 wr := er
  by_cases hlt : i < M.length
  · refine ztx ?_
    refine Ox.pure rfl rfl zmv ?_
    refine Ox.pure rfl rfl zmv ?_
    refine Ox.pure rfl rfl (rp_lenS rfl rfl rfl) ?_
    refine Ox.pure rfl rfl zbc ?_
    refine Ox.fin ?_
    refine zct ?_
    refine zsk ?_
    refine zbl ?_
    refine ztx ?_
    refine Ox.pure rfl rfl zas ?_
    refine Ox.fin ?_
    refine zbl ?_
    refine Sx.loop (ι := Nat × Value) (fun k E wk => E = [(5, .slice p6 M.length c6), (6, .slice p8 N.length c8), (7, k.2), (8, .int .i64 (i : Int)), (9, .int .i64 (k.1 : Int))] ∧ k.1 ≤ N.length ∧ OwnK wu8.heap.size wk k.2 ((M.take i).filter (fun k => decide (k ∈ N)) ++ (N.take k.1).filter (fun x => decide (x = M[i]))) ∧ Ext [] wu8 wk) (fun k => N.length - k.1) (0, v)
      (sub_cons rfl (sub_cons rfl (sub_cons rfl (sub_cons rfl (sub_cons rfl sub_nil))))) ⟨rfl, Nat.zero_le _, by simpa using hown, zxc⟩ ?_
    rintro ⟨k, v⟩ E wk ⟨rfl, hk, hown, ek⟩
    dsimp only at hk hown ⊢
    have hzk := ek.size
    by_cases hkl' : k < N.length
    · have hst := filter_take (P := fun x => decide (x = M[i])) hkl'
      have hLl : ((M.take i).filter (fun k => decide (k ∈ N)) ++ (N.take k).filter (fun x => decide (x = M[i]))).length ≤ 2000 := by
        have q1 := List.length_filter_le (fun k => decide (k ∈ N)) (M.take i)
        have q2 := List.length_filter_le (fun x => decide (x = M[i])) (N.take k)
        rw [List.length_take] at q1 q2
        rw [List.length_append]; omega
      by_cases he : M[i] = N[k]
      · refine ztx ?_
        refine Ox.pure rfl rfl zmv ?_
        refine Ox.pure rfl rfl zmv ?_
        refine Ox.pure rfl rfl (rp_lenS rfl rfl rfl) ?_
        refine Ox.pure rfl rfl zbc ?_
        refine Ox.fin ?_
        refine zct ?_
        refine zsk ?_
        refine zbl ?_
        (repeat refine Sx.seq ?_)
        refine Sx.walkR rfl (fun _ _ _ _ h => h) [0, 1, 2, 3, 4, 5, 6, 7, 8] [0, 1, 2, 3, 4, 5, 6, 7, 8] (0) (by kernel_rfl) ?_
        intro hq w1 e1; have hz1 := e1.size
        refine Wx.pure hq rfl rfl rfl rfl zmv ?_
        refine Wx.pure hq rfl rfl rfl rfl zmv ?_
        refine Wx.pure hq rfl rfl rfl rfl (rp_indexAddr i rfl rfl rfl rfl rfl hs6.ptr rfl hlt) ?_
        refine Wx.val hq rfl rfl rfl rfl ([]) (rv_load rfl rfl (fun u hu => ld_elem kc_len (hs6.row.ext0 zxc) hlt rfl rfl)) ?_
        refine Wx.pure hq rfl rfl rfl rfl zmv ?_
        refine Wx.pure hq rfl rfl rfl rfl zmv ?_
        refine Wx.pure hq rfl rfl rfl rfl (rp_indexAddr k rfl rfl rfl rfl rfl hs8.ptr rfl hkl') ?_
        refine Wx.val hq rfl rfl rfl rfl ([]) (rv_load rfl rfl (fun u hu => ld_elem kc_len (hs8.row.ext0 zxc) hkl' rfl rfl)) ?_
        refine Wx.pure hq rfl rfl rfl rfl (by first | exact rp_eqA_t rfl egKy rfl rfl (eqKy M[i] N[k]) (by assumption) | exact rp_eqA_f rfl egKy rfl rfl (eqKy M[i] N[k]) (by assumption)) ?_
        refine Wx.fin ?_
        refine zct ?_
        refine ztx ?_
        refine Ox.pure rfl rfl zmv ?_
        refine Ox.pure rfl rfl zmv ?_
        refine Ox.pure rfl rfl zmv ?_
        refine Ox.pure rfl rfl (rp_indexAddr i rfl rfl rfl rfl rfl hs6.ptr rfl hlt) ?_
        refine Ox.val rfl rfl (rv_load rfl rfl (fun u hu => ld_elem kc_len (hs6.row.ext0 zxc) hlt rfl rfl)) ?_
        refine Ox.act rfl rfl (acts_buildSlice (ps := [(0, .tmp 47)]) rfl rfl rfl rfl rfl rfl rfl rfl) ?_
        rintro vn11 wn11 ⟨en11, bn11, rfl, hbn11, hBn11⟩
        first | (have hCn11 : Cells wn11 ⟨bn11, 0, none⟩ [_, _, _] := hBn11.cells) | have hCn11 := Blk.cellsL hBn11
        have hln11 := hBn11.lt
        have hzn11 := en11.size
        refine Ox.act rfl rfl (acts_append (e := 38) (size := 3) (bytes := 24) rfl rfl rfl rfl (own_keep0 hown zxc) (source_slice (m := 1) (news := kc M[i]) rfl rfl (fun _ => rfl) (hCn11.ext0 zxc) (kc_one _)) (by first | omega | (dsimp only; omega)) (by first | omega | (dsimp only; omega)) (by omega)) ?_
        rintro va11 wa11 hga11
        refine Ox.pure rfl rfl zas ?_
        refine Ox.fin ?_
        refine ztx ?_
        refine Ox.pure rfl rfl zmv ?_
        refine Ox.pure rfl rfl zba ?_
        refine Ox.pure rfl rfl zas ?_
        refine Ox.fin ?_
        refine ⟨(k + 1, va11), _, sub_cons rfl (sub_cons rfl (sub_cons rfl (sub_cons rfl (sub_cons rfl sub_nil)))), ⟨rfl, hkl', ?_, hga11.ext0 zxc (fun g hg => (own_lt hown g (by simp [hg])).1)⟩, by dsimp only; omega⟩
        have h9 := hga11.own
        unfold OwnK
        rw [hst, decide_eq_true he.symm, if_pos rfl, ← he, ← List.append_assoc, List.length_append (bs := [M[i]]), rowsV_append (b := [M[i]]), rowsV_one]
        exact h9
      · refine ztx ?_
        refine Ox.pure rfl rfl zmv ?_
        refine Ox.pure rfl rfl zmv ?_
        refine Ox.pure rfl rfl (rp_lenS rfl rfl rfl) ?_
        refine Ox.pure rfl rfl zbc ?_
        refine Ox.fin ?_
        refine zct ?_
        refine zsk ?_
        refine zbl ?_
        (repeat refine Sx.seq ?_)
        refine Sx.walkR rfl (fun _ _ _ _ h => h) [0, 1, 2, 3, 4, 5, 6, 7, 8] [0, 1, 2, 3, 4, 5, 6, 7, 8] (0) (by kernel_rfl) ?_
        intro hq w2 e2; have hz2 := e2.size
        refine Wx.pure hq rfl rfl rfl rfl zmv ?_
        refine Wx.pure hq rfl rfl rfl rfl zmv ?_
        refine Wx.pure hq rfl rfl rfl rfl (rp_indexAddr i rfl rfl rfl rfl rfl hs6.ptr rfl hlt) ?_
        refine Wx.val hq rfl rfl rfl rfl ([]) (rv_load rfl rfl (fun u hu => ld_elem kc_len (hs6.row.ext0 zxc) hlt rfl rfl)) ?_
        refine Wx.pure hq rfl rfl rfl rfl zmv ?_
        refine Wx.pure hq rfl rfl rfl rfl zmv ?_
        refine Wx.pure hq rfl rfl rfl rfl (rp_indexAddr k rfl rfl rfl rfl rfl hs8.ptr rfl hkl') ?_
        refine Wx.val hq rfl rfl rfl rfl ([]) (rv_load rfl rfl (fun u hu => ld_elem kc_len (hs8.row.ext0 zxc) hkl' rfl rfl)) ?_
        refine Wx.pure hq rfl rfl rfl rfl (by first | exact rp_eqA_t rfl egKy rfl rfl (eqKy M[i] N[k]) (by assumption) | exact rp_eqA_f rfl egKy rfl rfl (eqKy M[i] N[k]) (by assumption)) ?_
        refine Wx.fin ?_
        refine zcf ?_
        refine zsk ?_
        refine ztx ?_
        refine Ox.pure rfl rfl zmv ?_
        refine Ox.pure rfl rfl zba ?_
        refine Ox.pure rfl rfl zas ?_
        refine Ox.fin ?_
        refine ⟨(k + 1, v), _, sub_cons rfl (sub_cons rfl (sub_cons rfl (sub_cons rfl (sub_cons rfl sub_nil)))), ⟨rfl, hkl', ?_, zxc⟩, by dsimp only; omega⟩
        rw [hst, decide_eq_false (fun h => he h.symm), if_neg (by decide), List.append_nil]
        exact own_keep0 hown zxc
    · rw [List.take_of_length_le (show N.length ≤ k by omega), filter_one hNn] at hown
      have hst := filter_take (P := fun k => decide (k ∈ N)) hlt
      refine ztx ?_
      refine Ox.pure rfl rfl zmv ?_
      refine Ox.pure rfl rfl zmv ?_
      refine Ox.pure rfl rfl (rp_lenS rfl rfl rfl) ?_
      refine Ox.pure rfl rfl zbc ?_
      refine Ox.fin ?_
      refine zcf ?_
      refine zex ?_
      refine ztx ?_
      refine Ox.pure rfl rfl zmv ?_
      refine Ox.pure rfl rfl zba ?_
      refine Ox.pure rfl rfl zas ?_
      refine Ox.fin ?_
      refine ⟨(i + 1, v), _, sub_cons rfl (sub_cons rfl (sub_cons rfl (sub_cons rfl sub_nil))), ⟨rfl, hlt, ?_, zxc⟩, by dsimp only; omega⟩
      rw [hst]
      by_cases hm : M[i] ∈ N
      · rw [if_pos hm] at hown
        rw [decide_eq_true hm, if_pos rfl]
        exact own_keep0 hown zxc
      · rw [if_neg hm] at hown
        rw [decide_eq_false hm, if_neg (by decide)]
        exact own_keep0 hown zxc
  · rw [List.take_of_length_le (show M.length ≤ i by omega), ← hconf] at hown
    refine ztx ?_
    refine Ox.pure rfl rfl zmv ?_
    refine Ox.pure rfl rfl zmv ?_
    refine Ox.pure rfl rfl (rp_lenS rfl rfl rfl) ?_
    refine Ox.pure rfl rfl zbc ?_
    refine Ox.fin ?_
    refine zcf ?_
    refine zex ?_
    refine ztx ?_
    refine Ox.pure rfl rfl zmv ?_
    refine Ox.pure rfl rfl zas ?_
    refine Ox.fin ?_
    refine zrt ?_
    exact endE_ret [_] ⟨rfl, trivial⟩ ⟨zxc, own_base (own_keep0 hown zxc) (by omega)⟩

theorem refMerge_br (s : Bs) (hsm : Small s) (hfw : Few s) (no : Int) (w : World) (hin : BsIn s w) :
    Calls Try.prog 23 #[.agg (bvc s).toArray, .int .i64 no] w (Ret fun r w' => Ext [] w w' ∧ RMrg w.heap.size w' r (mergeB s.br no)) := by
  have hbl := br_len s
  have hbp := hin.bls.ptr
  have hbr := hin.bls.row
  have hpp := hin.par.ptr
  have hpr := hin.par.row
  refine calls_of_Sx (args := [.agg (bvc s).toArray, .int .i64 no]) Try.func23 rfl rfl ?_
  by_cases hv : ValidB s.br; rotate_left
  · have he : mergeB s.br no = (Br0, [], 540) := if_pos hv
    refine ztx ?_
    refine Ox.act rfl rfl (acts_box rfl rfl) ?_
    rintro vb2 wb2 ⟨eb2, bb2, rfl, hbb2, hBb2⟩
    first | (have hCb2 : Cells wb2 ⟨bb2, 0, none⟩ [_, _, _, _, _] := hBb2.cells) | have hCb2 := Blk.cellsL hBb2
    have hlb2 := hBb2.lt
    have hzb2 := eb2.size
    refine Ox.act rfl rfl (acts_alloc rfl rfl) ?_
    rintro vb4 wb4 ⟨eb4, bb4, rfl, hbb4, hBb4⟩
    first | (have hCb4 : Cells wb4 ⟨bb4, 0, none⟩ [_, _, _, _, _] := hBb4.cells) | have hCb4 := Blk.cellsL hBb4
    have hlb4 := hBb4.lt
    have hzb4 := eb4.size
    refine Ox.pure rfl rfl zas ?_
    refine Ox.pure rfl rfl zas ?_
    refine Ox.fin ?_
    refine ztx ?_
    refine Ox.val rfl rfl zra ?_
    refine Ox.act rfl rfl (acts_call rfl rfl rfl (refValid_br s hsm _ (hin.ext0 zxc))) ?_
    rintro vv1 wv1 ⟨ev1, rfl⟩
    have hzv1 := ev1.size
    first | rw [decide_eq_true hv] | rw [decide_eq_false hv]
    refine Ox.pure rfl rfl (rp_not rfl rfl) ?_
    refine Ox.fin ?_
    refine zct ?_
    refine ztx ?_
    refine Ox.pure rfl rfl (rp_buildS (ps := []) rfl rfl rfl rfl rfl) ?_
    refine Ox.act rfl rfl (acts_store_all rfl rfl rfl (hBb4.ext (X := []) zxc (by simp)) rfl rfl rfl (bvc_one Bs0)) ?_
    rintro vs2 ws2 ⟨rfl, qs2, hBs2⟩
    have es2 : Ext [] w ws2 := Ext.renew zxc qs2 (by omega)
    refine Ox.pure rfl rfl zas ?_
    refine Ox.pure rfl rfl zas ?_
    refine Ox.fin ?_
    refine zrt ?_
    exact endE_ret [.agg (bvc Bs0).toArray, .slice none 0 0, .int .i64 540] ⟨⟨⟨bb4, 0, none⟩, rfl, hBs2.cellsL.ldA rfl rfl⟩, rfl, rfl, trivial⟩ ⟨zxc, by rw [he]; exact RMrg.fail _ _ _⟩
  have hdl : s.done.length = s.bls.length := by have : s.done.length = s.br.brs.length := hv.1.2.2.2.1; omega
  have hLp : ∀ u, Ext [] w u → ∀ h : no.toNat < s.par.length, Ld Try.prog u 3 (s.A2.add (no.toNat * 1 + 0)) (.int .i64 (parB s.br no.toNat)) := fun u hu h => by
    rw [parB_eq h]; exact ld_field ic_len (hpr.ext0 hu) h 0 rfl (by decide) rfl
  by_cases ho : OpenB s.br no; rotate_left
  · have he : mergeB s.br no = (Br0, [], 1) := (if_neg (fun h => h hv)).trans (if_pos (.inl ho))
    refine ztx ?_
    refine Ox.act rfl rfl (acts_box rfl rfl) ?_
    rintro vb2 wb2 ⟨eb2, bb2, rfl, hbb2, hBb2⟩
    first | (have hCb2 : Cells wb2 ⟨bb2, 0, none⟩ [_, _, _, _, _] := hBb2.cells) | have hCb2 := Blk.cellsL hBb2
    have hlb2 := hBb2.lt
    have hzb2 := eb2.size
    refine Ox.act rfl rfl (acts_alloc rfl rfl) ?_
    rintro vb4 wb4 ⟨eb4, bb4, rfl, hbb4, hBb4⟩
    first | (have hCb4 : Cells wb4 ⟨bb4, 0, none⟩ [_, _, _, _, _] := hBb4.cells) | have hCb4 := Blk.cellsL hBb4
    have hlb4 := hBb4.lt
    have hzb4 := eb4.size
    refine Ox.pure rfl rfl zas ?_
    refine Ox.pure rfl rfl zas ?_
    refine Ox.fin ?_
    refine ztx ?_
    refine Ox.val rfl rfl zra ?_
    refine Ox.act rfl rfl (acts_call rfl rfl rfl (refValid_br s hsm _ (hin.ext0 zxc))) ?_
    rintro vv1 wv1 ⟨ev1, rfl⟩
    have hzv1 := ev1.size
    first | rw [decide_eq_true hv] | rw [decide_eq_false hv]
    refine Ox.pure rfl rfl (rp_not rfl rfl) ?_
    refine Ox.fin ?_
    refine zcf ?_
    refine zsk ?_
    (repeat refine Sx.seq ?_)
    refine Sx.walkR rfl (fun _ _ _ _ h => h) [0, 1, 2, 3, 4, 5, 6, 7, 8, 9, 10, 11, 12, 13, 14, 15, 16, 17, 18, 19, 20, 21] [0, 1, 3, 4, 5, 6, 7, 8, 9, 10, 11, 12, 13, 14, 15, 16, 17, 19, 20, 21] (0) (by kernel_rfl) ?_
    intro hq w3 e3; have hz3 := e3.size
    refine Wx.val hq rfl rfl rfl rfl ([]) zra ?_
    refine Wx.pure hq rfl rfl rfl rfl zmv ?_
    refine Wx.actNew rfl rfl rfl rfl (acts_call rfl rfl rfl (open_at_r s no _ (hin.ext0 zxc) hdl)) ?_
    rintro v4 w4 e4 rfl
    have hz4 := e4.size
    first | rw [decide_eq_true ho] | rw [decide_eq_false ho]
    refine Wx.pure hq rfl rfl rfl rfl (rp_not rfl rfl) ?_
    refine Wx.pure hq rfl rfl rfl rfl zmv ?_
    first | (refine Wx.skip hq rfl rfl rfl rfl ?_) | (refine Wx.pure hq rfl rfl rfl rfl zfa ?_)
    first | (refine Wx.skip hq rfl rfl rfl rfl ?_) | (refine Wx.val hq rfl rfl rfl rfl ([]) zrs ?_)
    first | (refine Wx.skip hq rfl rfl rfl rfl ?_) | (refine Wx.pure hq rfl rfl rfl rfl zmv ?_)
    first | (refine Wx.skip hq rfl rfl rfl rfl ?_) | (refine Wx.pure hq rfl rfl rfl rfl (rp_indexAddr no.toNat rfl rfl rfl rfl rfl hpp (by omega) hip) ?_)
    first | (refine Wx.skip hq rfl rfl rfl rfl ?_) | (refine Wx.val hq rfl rfl rfl rfl ([]) (rv_load rfl rfl (fun u hu => hLp u zxc hip)) ?_)
    first | (refine Wx.skip hq rfl rfl rfl rfl ?_) | (refine Wx.pure hq rfl rfl rfl rfl zbc ?_)
    first | (refine Wx.skip hq rfl rfl rfl rfl ?_) | (refine Wx.pure hq rfl rfl rfl rfl zmv ?_)
    first | (refine Wx.skip hq rfl rfl rfl rfl ?_) | (refine Wx.val hq rfl rfl rfl rfl ([]) zra ?_)
    first | (refine Wx.skip hq rfl rfl rfl rfl ?_) | (refine Wx.pure hq rfl rfl rfl rfl zfa ?_)
    first | (refine Wx.skip hq rfl rfl rfl rfl ?_) | (refine Wx.val hq rfl rfl rfl rfl ([]) zrs ?_)
    first | (refine Wx.skip hq rfl rfl rfl rfl ?_) | (refine Wx.pure hq rfl rfl rfl rfl zmv ?_)
    first | (refine Wx.skip hq rfl rfl rfl rfl ?_) | (refine Wx.pure hq rfl rfl rfl rfl (rp_indexAddr no.toNat rfl rfl rfl rfl rfl hpp (by omega) hip) ?_)
    first | (refine Wx.skip hq rfl rfl rfl rfl ?_) | (refine Wx.val hq rfl rfl rfl rfl ([]) (rv_load rfl rfl (fun u hu => hLp u zxc hip)) ?_)
    first | (refine Wx.actSkip rfl rfl rfl rfl ?_) | (refine Wx.actNew rfl rfl rfl rfl (acts_call rfl rfl rfl (open_at_r s (parB s.br no.toNat) _ (hin.ext0 zxc) hdl)) ?_; rintro v5 w5 e5 rfl; have hz5 := e5.size; first | rw [decide_eq_true hop] | rw [decide_eq_false hop])
    first | (refine Wx.skip hq rfl rfl rfl rfl ?_) | (refine Wx.pure hq rfl rfl rfl rfl (rp_not rfl rfl) ?_)
    first | (refine Wx.skip hq rfl rfl rfl rfl ?_) | (refine Wx.pure hq rfl rfl rfl rfl zpk ?_)
    refine Wx.pure hq rfl rfl rfl rfl zpk ?_
    refine Wx.fin ?_
    refine zct ?_
    refine ztx ?_
    refine Ox.pure rfl rfl (rp_buildS (ps := []) rfl rfl rfl rfl rfl) ?_
    refine Ox.act rfl rfl (acts_store_all rfl rfl rfl (hBb4.ext (X := []) zxc (by simp)) rfl rfl rfl (bvc_one Bs0)) ?_
    rintro vs4 ws4 ⟨rfl, qs4, hBs4⟩
    have es4 : Ext [] w ws4 := Ext.renew zxc qs4 (by omega)
    refine Ox.pure rfl rfl zas ?_
    refine Ox.pure rfl rfl zas ?_
    refine Ox.fin ?_
    refine zrt ?_
    exact endE_ret [.agg (bvc Bs0).toArray, .slice none 0 0, .int .i64 1] ⟨⟨⟨bb4, 0, none⟩, rfl, hBs4.cellsL.ldA rfl rfl⟩, rfl, rfl, trivial⟩ ⟨zxc, by rw [he]; exact RMrg.fail _ _ _⟩
  obtain ⟨o1, o2, _⟩ := id ho
  obtain ⟨v1, v2, v3, v4, v5⟩ := id hv.1
  have hip : no.toNat < s.par.length := by have : s.par.length = s.br.brs.length := v2; omega
  have hib : no.toNat < s.bls.length := by omega
  obtain ⟨⟨g1, g2⟩, g3, g4⟩ := v5 no.toNat (by omega)
  by_cases hp : parB s.br no.toNat ≠ -1 ∧ ¬ OpenB s.br (parB s.br no.toNat)
  · have hm := hp.1
    have hop := hp.2
    have he : mergeB s.br no = (Br0, [], 1) := (if_neg (fun h => h hv)).trans (if_pos (.inr hp))
    refine ztx ?_
    refine Ox.act rfl rfl (acts_box rfl rfl) ?_
    rintro vb2 wb2 ⟨eb2, bb2, rfl, hbb2, hBb2⟩
    first | (have hCb2 : Cells wb2 ⟨bb2, 0, none⟩ [_, _, _, _, _] := hBb2.cells) | have hCb2 := Blk.cellsL hBb2
    have hlb2 := hBb2.lt
    have hzb2 := eb2.size
    refine Ox.act rfl rfl (acts_alloc rfl rfl) ?_
    rintro vb4 wb4 ⟨eb4, bb4, rfl, hbb4, hBb4⟩
    first | (have hCb4 : Cells wb4 ⟨bb4, 0, none⟩ [_, _, _, _, _] := hBb4.cells) | have hCb4 := Blk.cellsL hBb4
    have hlb4 := hBb4.lt
    have hzb4 := eb4.size
    refine Ox.pure rfl rfl zas ?_
    refine Ox.pure rfl rfl zas ?_
    refine Ox.fin ?_
    refine ztx ?_
    refine Ox.val rfl rfl zra ?_
    refine Ox.act rfl rfl (acts_call rfl rfl rfl (refValid_br s hsm _ (hin.ext0 zxc))) ?_
    rintro vv1 wv1 ⟨ev1, rfl⟩
    have hzv1 := ev1.size
    first | rw [decide_eq_true hv] | rw [decide_eq_false hv]
    refine Ox.pure rfl rfl (rp_not rfl rfl) ?_
    refine Ox.fin ?_
    refine zcf ?_
    refine zsk ?_
    (repeat refine Sx.seq ?_)
    refine Sx.walkR rfl (fun _ _ _ _ h => h) [0, 1, 2, 3, 4, 5, 6, 7, 8, 9, 10, 11, 12, 13, 14, 15, 16, 17, 18, 19, 20, 21] [0, 1, 3, 4, 5, 6, 7, 8, 9, 10, 11, 12, 13, 14, 15, 16, 17, 19, 20, 21] (0) (by kernel_rfl) ?_
    intro hq w6 e6; have hz6 := e6.size
    refine Wx.val hq rfl rfl rfl rfl ([]) zra ?_
    refine Wx.pure hq rfl rfl rfl rfl zmv ?_
    refine Wx.actNew rfl rfl rfl rfl (acts_call rfl rfl rfl (open_at_r s no _ (hin.ext0 zxc) hdl)) ?_
    rintro v7 w7 e7 rfl
    have hz7 := e7.size
    first | rw [decide_eq_true ho] | rw [decide_eq_false ho]
    refine Wx.pure hq rfl rfl rfl rfl (rp_not rfl rfl) ?_
    refine Wx.pure hq rfl rfl rfl rfl zmv ?_
    first | (refine Wx.skip hq rfl rfl rfl rfl ?_) | (refine Wx.pure hq rfl rfl rfl rfl zfa ?_)
    first | (refine Wx.skip hq rfl rfl rfl rfl ?_) | (refine Wx.val hq rfl rfl rfl rfl ([]) zrs ?_)
    first | (refine Wx.skip hq rfl rfl rfl rfl ?_) | (refine Wx.pure hq rfl rfl rfl rfl zmv ?_)
    first | (refine Wx.skip hq rfl rfl rfl rfl ?_) | (refine Wx.pure hq rfl rfl rfl rfl (rp_indexAddr no.toNat rfl rfl rfl rfl rfl hpp (by omega) hip) ?_)
    first | (refine Wx.skip hq rfl rfl rfl rfl ?_) | (refine Wx.val hq rfl rfl rfl rfl ([]) (rv_load rfl rfl (fun u hu => hLp u zxc hip)) ?_)
    first | (refine Wx.skip hq rfl rfl rfl rfl ?_) | (refine Wx.pure hq rfl rfl rfl rfl zbc ?_)
    first | (refine Wx.skip hq rfl rfl rfl rfl ?_) | (refine Wx.pure hq rfl rfl rfl rfl zmv ?_)
    first | (refine Wx.skip hq rfl rfl rfl rfl ?_) | (refine Wx.val hq rfl rfl rfl rfl ([]) zra ?_)
    first | (refine Wx.skip hq rfl rfl rfl rfl ?_) | (refine Wx.pure hq rfl rfl rfl rfl zfa ?_)
    first | (refine Wx.skip hq rfl rfl rfl rfl ?_) | (refine Wx.val hq rfl rfl rfl rfl ([]) zrs ?_)
    first | (refine Wx.skip hq rfl rfl rfl rfl ?_) | (refine Wx.pure hq rfl rfl rfl rfl zmv ?_)
    first | (refine Wx.skip hq rfl rfl rfl rfl ?_) | (refine Wx.pure hq rfl rfl rfl rfl (rp_indexAddr no.toNat rfl rfl rfl rfl rfl hpp (by omega) hip) ?_)
    first | (refine Wx.skip hq rfl rfl rfl rfl ?_) | (refine Wx.val hq rfl rfl rfl rfl ([]) (rv_load rfl rfl (fun u hu => hLp u zxc hip)) ?_)
    first | (refine Wx.actSkip rfl rfl rfl rfl ?_) | (refine Wx.actNew rfl rfl rfl rfl (acts_call rfl rfl rfl (open_at_r s (parB s.br no.toNat) _ (hin.ext0 zxc) hdl)) ?_; rintro v8 w8 e8 rfl; have hz8 := e8.size; first | rw [decide_eq_true hop] | rw [decide_eq_false hop])
    first | (refine Wx.skip hq rfl rfl rfl rfl ?_) | (refine Wx.pure hq rfl rfl rfl rfl (rp_not rfl rfl) ?_)
    first | (refine Wx.skip hq rfl rfl rfl rfl ?_) | (refine Wx.pure hq rfl rfl rfl rfl zpk ?_)
    refine Wx.pure hq rfl rfl rfl rfl zpk ?_
    refine Wx.fin ?_
    refine zct ?_
    refine ztx ?_
    refine Ox.pure rfl rfl (rp_buildS (ps := []) rfl rfl rfl rfl rfl) ?_
    refine Ox.act rfl rfl (acts_store_all rfl rfl rfl (hBb4.ext (X := []) zxc (by simp)) rfl rfl rfl (bvc_one Bs0)) ?_
    rintro vs4 ws4 ⟨rfl, qs4, hBs4⟩
    have es4 : Ext [] w ws4 := Ext.renew zxc qs4 (by omega)
    refine Ox.pure rfl rfl zas ?_
    refine Ox.pure rfl rfl zas ?_
    refine Ox.fin ?_
    refine zrt ?_
    exact endE_ret [.agg (bvc Bs0).toArray, .slice none 0 0, .int .i64 1] ⟨⟨⟨bb4, 0, none⟩, rfl, hBs4.cellsL.ldA rfl rfl⟩, rfl, rfl, trivial⟩ ⟨zxc, by rw [he]; exact RMrg.fail _ _ _⟩
  have he0 : mergeB s.br no = if 0 < (confB s.br no.toNat).length then (Br0, confB s.br no.toNat, 541) else if (recL (ofB s.br (parB s.br no.toNat)).1 (brB s.br no.toNat)).2 ≠ 0 then (Br0, [], (recL (ofB s.br (parB s.br no.toNat)).1 (brB s.br no.toNat)).2)
      else if parB s.br no.toNat < 0 then (⟨(recL (ofB s.br (parB s.br no.toNat)).1 (brB s.br no.toNat)).1, s.br.brs, s.br.par, s.br.fks, s.br.done.set no.toNat true⟩, [], 0)
      else (⟨s.br.base, s.br.brs.set (parB s.br no.toNat).toNat (brB s.br (parB s.br no.toNat).toNat ++ brB s.br no.toNat), s.br.par, s.br.fks, s.br.done.set no.toNat true⟩, [], 0) := (if_neg (fun h => h hv)).trans (if_neg (by rintro (h | h); exact h ho; exact hp h))
  refine ztx ?_
  refine Ox.act rfl rfl (acts_box rfl rfl) ?_
  rintro vb2 wb2 ⟨eb2, bb2, rfl, hbb2, hBb2⟩
  first | (have hCb2 : Cells wb2 ⟨bb2, 0, none⟩ [_, _, _, _, _] := hBb2.cells) | have hCb2 := Blk.cellsL hBb2
  have hlb2 := hBb2.lt
  have hzb2 := eb2.size
  refine Ox.act rfl rfl (acts_alloc rfl rfl) ?_
  rintro vb4 wb4 ⟨eb4, bb4, rfl, hbb4, hBb4⟩
  first | (have hCb4 : Cells wb4 ⟨bb4, 0, none⟩ [_, _, _, _, _] := hBb4.cells) | have hCb4 := Blk.cellsL hBb4
  have hlb4 := hBb4.lt
  have hzb4 := eb4.size
  refine Ox.pure rfl rfl zas ?_
  refine Ox.pure rfl rfl zas ?_
  refine Ox.fin ?_
  refine ztx ?_
  refine Ox.val rfl rfl zra ?_
  refine Ox.act rfl rfl (acts_call rfl rfl rfl (refValid_br s hsm _ (hin.ext0 zxc))) ?_
  rintro vv1 wv1 ⟨ev1, rfl⟩
  have hzv1 := ev1.size
  first | rw [decide_eq_true hv] | rw [decide_eq_false hv]
  refine Ox.pure rfl rfl (rp_not rfl rfl) ?_
  refine Ox.fin ?_
  refine zcf ?_
  refine zsk ?_
  refine Sx.seq (Sx.upto (fun E' w' => (∀ t u, get [(1, .int .i64 no), (2, .pointer (some ⟨bb2, 0, none⟩)), (4, .pointer (some ⟨bb4, 0, none⟩))] t = some u → get E' t = some u) ∧ Ext [] wv1 w') ?_ ?_)
  · by_cases hm : parB s.br no.toNat = -1
    · (repeat refine Sx.seq ?_)
      refine Sx.walkR rfl (fun _ _ _ _ h => h) [0, 1, 2, 3, 4, 5, 6, 7, 8, 9, 10, 11, 12, 13, 14, 15, 16, 17, 18, 19, 20, 21] [0, 1, 3, 4, 5, 6, 7, 8, 9, 10, 11, 12, 13, 14, 15, 16, 17, 19, 20, 21] (0) (by kernel_rfl) ?_
      intro hq w9 e9; have hz9 := e9.size
      refine Wx.val hq rfl rfl rfl rfl ([]) zra ?_
      refine Wx.pure hq rfl rfl rfl rfl zmv ?_
      refine Wx.actNew rfl rfl rfl rfl (acts_call rfl rfl rfl (open_at_r s no _ (hin.ext0 zxc) hdl)) ?_
      rintro v10 w10 e10 rfl
      have hz10 := e10.size
      first | rw [decide_eq_true ho] | rw [decide_eq_false ho]
      refine Wx.pure hq rfl rfl rfl rfl (rp_not rfl rfl) ?_
      refine Wx.pure hq rfl rfl rfl rfl zmv ?_
      first | (refine Wx.skip hq rfl rfl rfl rfl ?_) | (refine Wx.pure hq rfl rfl rfl rfl zfa ?_)
      first | (refine Wx.skip hq rfl rfl rfl rfl ?_) | (refine Wx.val hq rfl rfl rfl rfl ([]) zrs ?_)
      first | (refine Wx.skip hq rfl rfl rfl rfl ?_) | (refine Wx.pure hq rfl rfl rfl rfl zmv ?_)
      first | (refine Wx.skip hq rfl rfl rfl rfl ?_) | (refine Wx.pure hq rfl rfl rfl rfl (rp_indexAddr no.toNat rfl rfl rfl rfl rfl hpp (by omega) hip) ?_)
      first | (refine Wx.skip hq rfl rfl rfl rfl ?_) | (refine Wx.val hq rfl rfl rfl rfl ([]) (rv_load rfl rfl (fun u hu => hLp u zxc hip)) ?_)
      first | (refine Wx.skip hq rfl rfl rfl rfl ?_) | (refine Wx.pure hq rfl rfl rfl rfl zbc ?_)
      first | (refine Wx.skip hq rfl rfl rfl rfl ?_) | (refine Wx.pure hq rfl rfl rfl rfl zmv ?_)
      first | (refine Wx.skip hq rfl rfl rfl rfl ?_) | (refine Wx.val hq rfl rfl rfl rfl ([]) zra ?_)
      first | (refine Wx.skip hq rfl rfl rfl rfl ?_) | (refine Wx.pure hq rfl rfl rfl rfl zfa ?_)
      first | (refine Wx.skip hq rfl rfl rfl rfl ?_) | (refine Wx.val hq rfl rfl rfl rfl ([]) zrs ?_)
      first | (refine Wx.skip hq rfl rfl rfl rfl ?_) | (refine Wx.pure hq rfl rfl rfl rfl zmv ?_)
      first | (refine Wx.skip hq rfl rfl rfl rfl ?_) | (refine Wx.pure hq rfl rfl rfl rfl (rp_indexAddr no.toNat rfl rfl rfl rfl rfl hpp (by omega) hip) ?_)
      first | (refine Wx.skip hq rfl rfl rfl rfl ?_) | (refine Wx.val hq rfl rfl rfl rfl ([]) (rv_load rfl rfl (fun u hu => hLp u zxc hip)) ?_)
      first | (refine Wx.actSkip rfl rfl rfl rfl ?_) | (refine Wx.actNew rfl rfl rfl rfl (acts_call rfl rfl rfl (open_at_r s (parB s.br no.toNat) _ (hin.ext0 zxc) hdl)) ?_; rintro v11 w11 e11 rfl; have hz11 := e11.size; first | rw [decide_eq_true hop] | rw [decide_eq_false hop])
      first | (refine Wx.skip hq rfl rfl rfl rfl ?_) | (refine Wx.pure hq rfl rfl rfl rfl (rp_not rfl rfl) ?_)
      first | (refine Wx.skip hq rfl rfl rfl rfl ?_) | (refine Wx.pure hq rfl rfl rfl rfl zpk ?_)
      refine Wx.pure hq rfl rfl rfl rfl zpk ?_
      refine Wx.fin ?_
      refine zcf ?_
      refine zsk ?_
      exact ⟨sub_cons rfl (sub_cons rfl (sub_cons rfl sub_nil)), zxc⟩
    · have hop : OpenB s.br (parB s.br no.toNat) := Classical.byContradiction fun h => hp ⟨hm, h⟩
      (repeat refine Sx.seq ?_)
      refine Sx.walkR rfl (fun _ _ _ _ h => h) [0, 1, 2, 3, 4, 5, 6, 7, 8, 9, 10, 11, 12, 13, 14, 15, 16, 17, 18, 19, 20, 21] [0, 1, 3, 4, 5, 6, 7, 8, 9, 10, 11, 12, 13, 14, 15, 16, 17, 19, 20, 21] (0) (by kernel_rfl) ?_
      intro hq w12 e12; have hz12 := e12.size
      refine Wx.val hq rfl rfl rfl rfl ([]) zra ?_
      refine Wx.pure hq rfl rfl rfl rfl zmv ?_
      refine Wx.actNew rfl rfl rfl rfl (acts_call rfl rfl rfl (open_at_r s no _ (hin.ext0 zxc) hdl)) ?_
      rintro v13 w13 e13 rfl
      have hz13 := e13.size
      first | rw [decide_eq_true ho] | rw [decide_eq_false ho]
      refine Wx.pure hq rfl rfl rfl rfl (rp_not rfl rfl) ?_
      refine Wx.pure hq rfl rfl rfl rfl zmv ?_
      first | (refine Wx.skip hq rfl rfl rfl rfl ?_) | (refine Wx.pure hq rfl rfl rfl rfl zfa ?_)
      first | (refine Wx.skip hq rfl rfl rfl rfl ?_) | (refine Wx.val hq rfl rfl rfl rfl ([]) zrs ?_)
      first | (refine Wx.skip hq rfl rfl rfl rfl ?_) | (refine Wx.pure hq rfl rfl rfl rfl zmv ?_)
      first | (refine Wx.skip hq rfl rfl rfl rfl ?_) | (refine Wx.pure hq rfl rfl rfl rfl (rp_indexAddr no.toNat rfl rfl rfl rfl rfl hpp (by omega) hip) ?_)
      first | (refine Wx.skip hq rfl rfl rfl rfl ?_) | (refine Wx.val hq rfl rfl rfl rfl ([]) (rv_load rfl rfl (fun u hu => hLp u zxc hip)) ?_)
      first | (refine Wx.skip hq rfl rfl rfl rfl ?_) | (refine Wx.pure hq rfl rfl rfl rfl zbc ?_)
      first | (refine Wx.skip hq rfl rfl rfl rfl ?_) | (refine Wx.pure hq rfl rfl rfl rfl zmv ?_)
      first | (refine Wx.skip hq rfl rfl rfl rfl ?_) | (refine Wx.val hq rfl rfl rfl rfl ([]) zra ?_)
      first | (refine Wx.skip hq rfl rfl rfl rfl ?_) | (refine Wx.pure hq rfl rfl rfl rfl zfa ?_)
      first | (refine Wx.skip hq rfl rfl rfl rfl ?_) | (refine Wx.val hq rfl rfl rfl rfl ([]) zrs ?_)
      first | (refine Wx.skip hq rfl rfl rfl rfl ?_) | (refine Wx.pure hq rfl rfl rfl rfl zmv ?_)
      first | (refine Wx.skip hq rfl rfl rfl rfl ?_) | (refine Wx.pure hq rfl rfl rfl rfl (rp_indexAddr no.toNat rfl rfl rfl rfl rfl hpp (by omega) hip) ?_)
      first | (refine Wx.skip hq rfl rfl rfl rfl ?_) | (refine Wx.val hq rfl rfl rfl rfl ([]) (rv_load rfl rfl (fun u hu => hLp u zxc hip)) ?_)
      first | (refine Wx.actSkip rfl rfl rfl rfl ?_) | (refine Wx.actNew rfl rfl rfl rfl (acts_call rfl rfl rfl (open_at_r s (parB s.br no.toNat) _ (hin.ext0 zxc) hdl)) ?_; rintro v14 w14 e14 rfl; have hz14 := e14.size; first | rw [decide_eq_true hop] | rw [decide_eq_false hop])
      first | (refine Wx.skip hq rfl rfl rfl rfl ?_) | (refine Wx.pure hq rfl rfl rfl rfl (rp_not rfl rfl) ?_)
      first | (refine Wx.skip hq rfl rfl rfl rfl ?_) | (refine Wx.pure hq rfl rfl rfl rfl zpk ?_)
      refine Wx.pure hq rfl rfl rfl rfl zpk ?_
      refine Wx.fin ?_
      refine zcf ?_
      refine zsk ?_
      exact ⟨sub_cons rfl (sub_cons rfl (sub_cons rfl sub_nil)), zxc⟩
  rintro E' wm ⟨hsub, em⟩
  refine thenE_normal (Sx.weaken ?_ hsub)
  have hzm := em.size
  have hcl : (confB s.br no.toNat).length ≤ 1000 := by
    have h1 : (confB s.br no.toNat).length ≤ (keysK ((brB s.br no.toNat).map Cr.key)).length := List.length_filter_le _ _
    have h2 : ∀ (l out : List Ky), (l.foldl insK out).length ≤ out.length + l.length := fun l => by
      induction l with
      | nil => intro out; exact Nat.le_refl _
      | cons x l ih =>
        intro out
        have h3 := ih (insK out x)
        have h4 := insK_length out x
        show (l.foldl insK (insK out x)).length ≤ _
        simp only [List.length_cons]; omega
    have h3 := h2 ((brB s.br no.toNat).map Cr.key) []
    rw [List.length_map] at h3
    have h5 := hsm.brs no.toNat
    unfold keysK at h1
    simp only [List.length_nil, Nat.zero_add] at h3
    omega
  by_cases hc : 0 < (confB s.br no.toNat).length
  · have he := he0.trans (if_pos hc)
    refine ztx ?_
    refine Ox.val rfl rfl zra ?_
    refine Ox.pure rfl rfl zmv ?_
    refine Ox.act rfl rfl (acts_call rfl rfl rfl (refConflicts_at s hv.1 hsm no o1 (by omega) _ (hin.ext0 zxc))) ?_
    rintro v15 w15 ⟨e15, ho5⟩
    have hz15 := e15.size
    obtain ⟨p5, c5, A5, rfl, _, _⟩ := SlV.of_own ho5 (by omega)
    refine Ox.pure rfl rfl zas ?_
    refine Ox.fin ?_
    refine ztx ?_
    refine Ox.pure rfl rfl zmv ?_
    refine Ox.pure rfl rfl (rp_lenS rfl rfl rfl) ?_
    refine Ox.pure rfl rfl zbc ?_
    refine Ox.fin ?_
    refine zct ?_
    refine ztx ?_
    refine Ox.pure rfl rfl (rp_buildS (ps := []) rfl rfl rfl rfl rfl) ?_
    refine Ox.pure rfl rfl zmv ?_
    refine Ox.act rfl rfl (acts_store_all rfl rfl rfl (hBb4.ext (X := []) zxc (by simp)) rfl rfl rfl (bvc_one Bs0)) ?_
    rintro vs7 ws7 ⟨rfl, qs7, hBs7⟩
    have es7 : Ext [] w ws7 := Ext.renew zxc qs7 (by omega)
    refine Ox.pure rfl rfl zas ?_
    refine Ox.pure rfl rfl zas ?_
    refine Ox.fin ?_
    refine zrt ?_
    exact endE_ret [.agg (bvc Bs0).toArray, .slice p5 (confB s.br no.toNat).length c5, .int .i64 541] ⟨⟨⟨bb4, 0, none⟩, rfl, hBs7.cellsL.ldA rfl rfl⟩, rfl, rfl, trivial⟩ ⟨zxc, by rw [he]; obtain ⟨A5, hs5⟩ := own_sl_at (own_keep ho5 qs7 (own_notin ho5 (by have := hBb4.lt; omega))) (by omega); exact ⟨_, p5, A5, c5, rfl, RBr.zero _ _, hs5⟩⟩
  have he1 := he0.trans (if_neg hc)
  have hpl : parB s.br no.toNat < (s.bls.length : Int) := by omega
  have hofl := of_few hv.1 hsm (parB s.br no.toNat) hpl
  have hofc := of_check hv.2.1 (parB s.br no.toNat)
  have hLb : ∀ u, Ext [] w u → Ld Try.prog u 59 (s.A1.add (no.toNat * 1 + 0)) (.slice s.bls[no.toNat].p s.bls[no.toNat].l.length s.bls[no.toNat].c) := fun u hu => ld_field blc_len (hbr.ext0 hu) hib 0 rfl (by decide) rfl
  obtain ⟨Ab, hsb⟩ := hin.sub _ (List.getElem_mem hib)
  have hbe := brB_eq (s := s) hib
  have hbl2 := hsm.brs no.toNat
  rw [hbe] at hbl2
  rw [hbe] at he1
  by_cases hz : (recL (ofB s.br (parB s.br no.toNat)).1 s.bls[no.toNat].l).2 = 0; rotate_left
  · have he := he1.trans (if_pos hz)
    refine ztx ?_
    refine Ox.val rfl rfl zra ?_
    refine Ox.pure rfl rfl zmv ?_
    refine Ox.act rfl rfl (acts_call rfl rfl rfl (refConflicts_at s hv.1 hsm no o1 (by omega) _ (hin.ext0 zxc))) ?_
    rintro v16 w16 ⟨e16, ho5⟩
    have hz16 := e16.size
    obtain ⟨p5, c5, A5, rfl, _, _⟩ := SlV.of_own ho5 (by omega)
    refine Ox.pure rfl rfl zas ?_
    refine Ox.fin ?_
    refine ztx ?_
    refine Ox.pure rfl rfl zmv ?_
    refine Ox.pure rfl rfl (rp_lenS rfl rfl rfl) ?_
    refine Ox.pure rfl rfl zbc ?_
    refine Ox.fin ?_
    refine zcf ?_
    refine zsk ?_
    refine ztx ?_
    refine Ox.pure rfl rfl zfa ?_
    refine Ox.val rfl rfl zrs ?_
    refine Ox.pure rfl rfl zmv ?_
    refine Ox.pure rfl rfl (rp_indexAddr no.toNat rfl rfl rfl rfl rfl hpp (by omega) hip) ?_
    refine Ox.val rfl rfl (rv_load rfl rfl (fun u hu => hLp u zxc hip)) ?_
    refine Ox.pure rfl rfl zas ?_
    refine Ox.fin ?_
    (repeat refine Sx.seq ?_)
    refine Sx.walkR rfl (fun _ _ _ _ h => h) [0, 1, 2, 3, 4, 5, 6, 7, 8, 9, 10] [0, 1, 2, 3, 6, 7, 8, 9, 10] (0) (by kernel_rfl) ?_
    intro hq w17 e17; have hz17 := e17.size
    refine Wx.val hq rfl rfl rfl rfl ([]) zra ?_
    refine Wx.pure hq rfl rfl rfl rfl zmv ?_
    refine Wx.val hq rfl rfl rfl rfl ([]) zra ?_
    refine Wx.pure hq rfl rfl rfl rfl zmv ?_
    refine Wx.actNew rfl rfl rfl rfl (acts_call rfl rfl rfl (length_at_r s (parB s.br no.toNat) _ (hin.ext0 zxc) hpl)) ?_
    rintro v18 w18 e18 rfl
    have hz18 := e18.size
    refine Wx.actNew rfl rfl rfl rfl (acts_call rfl rfl rfl (refOf_no s hv.1 hv.2.1 hsm (parB s.br no.toNat) g1 hpl _ (hin.ext0 zxc))) ?_
    rintro v19 w19 e19 ⟨p9, A9, c9, rfl, hs9⟩
    have hz19 := e19.size
    refine Wx.pure hq rfl rfl rfl rfl zmv ?_
    refine Wx.pure hq rfl rfl rfl rfl (rp_extract rfl rfl rfl) ?_
    refine Wx.pure hq rfl rfl rfl rfl (rp_extract rfl rfl rfl) ?_
    refine Wx.pure hq rfl rfl rfl rfl zas ?_
    refine Wx.pure hq rfl rfl rfl rfl zas ?_
    refine Wx.fin ?_
    refine ztx ?_
    refine Ox.pure rfl rfl zmv ?_
    refine Ox.pure rfl rfl zfa ?_
    refine Ox.val rfl rfl zrs ?_
    refine Ox.pure rfl rfl zmv ?_
    refine Ox.pure rfl rfl (rp_indexAddr no.toNat rfl rfl rfl rfl rfl hbp (by omega) hib) ?_
    refine Ox.val rfl rfl (rv_load rfl rfl (fun u hu => hLb u zxc)) ?_
    refine Ox.act rfl rfl (acts_call rfl rfl rfl (refRecords_at (ofB s.br (parB s.br no.toNat)).1 s.bls[no.toNat].l p9 _ A9 _ c9 _ _ (hs9.ext0 zxc) (hsb.ext0 zxc) hofc (by omega))) ?_
    rintro vr10 wr10 ⟨er10, p10, A10, c10, rfl, hs10⟩
    have hzr10 := er10.size
    refine Ox.pure rfl rfl zmv ?_
    refine Ox.pure rfl rfl (rp_extract rfl rfl rfl) ?_
    refine Ox.pure rfl rfl (rp_extract rfl rfl rfl) ?_
    refine Ox.pure rfl rfl zas ?_
    refine Ox.pure rfl rfl zas ?_
    refine Ox.fin ?_
    refine ztx ?_
    refine Ox.pure rfl rfl zmv ?_
    refine Ox.pure rfl rfl zbc ?_
    refine Ox.fin ?_
    refine zct ?_
    refine ztx ?_
    refine Ox.pure rfl rfl (rp_buildS (ps := []) rfl rfl rfl rfl rfl) ?_
    refine Ox.pure rfl rfl zmv ?_
    refine Ox.act rfl rfl (acts_store_all rfl rfl rfl (hBb4.ext (X := []) zxc (by simp)) rfl rfl rfl (bvc_one Bs0)) ?_
    rintro vs12 ws12 ⟨rfl, qs12, hBs12⟩
    have es12 : Ext [] w ws12 := Ext.renew zxc qs12 (by omega)
    refine Ox.pure rfl rfl zas ?_
    refine Ox.pure rfl rfl zas ?_
    refine Ox.fin ?_
    refine zrt ?_
    exact endE_ret [.agg (bvc Bs0).toArray, .slice none 0 0, .int .i64 (recL (ofB s.br (parB s.br no.toNat)).1 s.bls[no.toNat].l).2] ⟨⟨⟨bb4, 0, none⟩, rfl, hBs12.cellsL.ldA rfl rfl⟩, rfl, rfl, trivial⟩ ⟨zxc, by rw [he]; exact RMrg.fail _ _ _⟩
  have he2 := he1.trans (if_neg (fun h => h hz))
  refine ztx ?_
  refine Ox.val rfl rfl zra ?_
  refine Ox.pure rfl rfl zmv ?_
  refine Ox.act rfl rfl (acts_call rfl rfl rfl (refConflicts_at s hv.1 hsm no o1 (by omega) _ (hin.ext0 zxc))) ?_
  rintro v20 w20 ⟨e20, ho5⟩
  have hz20 := e20.size
  obtain ⟨p5, c5, A5, rfl, _, _⟩ := SlV.of_own ho5 (by omega)
  refine Ox.pure rfl rfl zas ?_
  refine Ox.fin ?_
  refine ztx ?_
  refine Ox.pure rfl rfl zmv ?_
  refine Ox.pure rfl rfl (rp_lenS rfl rfl rfl) ?_
  refine Ox.pure rfl rfl zbc ?_
  refine Ox.fin ?_
  refine zcf ?_
  refine zsk ?_
  refine ztx ?_
  refine Ox.pure rfl rfl zfa ?_
  refine Ox.val rfl rfl zrs ?_
  refine Ox.pure rfl rfl zmv ?_
  refine Ox.pure rfl rfl (rp_indexAddr no.toNat rfl rfl rfl rfl rfl hpp (by omega) hip) ?_
  refine Ox.val rfl rfl (rv_load rfl rfl (fun u hu => hLp u zxc hip)) ?_
  refine Ox.pure rfl rfl zas ?_
  refine Ox.fin ?_
  (repeat refine Sx.seq ?_)
  refine Sx.walkR rfl (fun _ _ _ _ h => h) [0, 1, 2, 3, 4, 5, 6, 7, 8, 9, 10] [0, 1, 2, 3, 6, 7, 8, 9, 10] (0) (by kernel_rfl) ?_
  intro hq w21 e21; have hz21 := e21.size
  refine Wx.val hq rfl rfl rfl rfl ([]) zra ?_
  refine Wx.pure hq rfl rfl rfl rfl zmv ?_
  refine Wx.val hq rfl rfl rfl rfl ([]) zra ?_
  refine Wx.pure hq rfl rfl rfl rfl zmv ?_
  refine Wx.actNew rfl rfl rfl rfl (acts_call rfl rfl rfl (length_at_r s (parB s.br no.toNat) _ (hin.ext0 zxc) hpl)) ?_
  rintro v22 w22 e22 rfl
  have hz22 := e22.size
  refine Wx.actNew rfl rfl rfl rfl (acts_call rfl rfl rfl (refOf_no s hv.1 hv.2.1 hsm (parB s.br no.toNat) g1 hpl _ (hin.ext0 zxc))) ?_
  rintro v23 w23 e23 ⟨p9, A9, c9, rfl, hs9⟩
  have hz23 := e23.size
  refine Wx.pure hq rfl rfl rfl rfl zmv ?_
  refine Wx.pure hq rfl rfl rfl rfl (rp_extract rfl rfl rfl) ?_
  refine Wx.pure hq rfl rfl rfl rfl (rp_extract rfl rfl rfl) ?_
  refine Wx.pure hq rfl rfl rfl rfl zas ?_
  refine Wx.pure hq rfl rfl rfl rfl zas ?_
  refine Wx.fin ?_
  refine ztx ?_
  refine Ox.pure rfl rfl zmv ?_
  refine Ox.pure rfl rfl zfa ?_
  refine Ox.val rfl rfl zrs ?_
  refine Ox.pure rfl rfl zmv ?_
  refine Ox.pure rfl rfl (rp_indexAddr no.toNat rfl rfl rfl rfl rfl hbp (by omega) hib) ?_
  refine Ox.val rfl rfl (rv_load rfl rfl (fun u hu => hLb u zxc)) ?_
  refine Ox.act rfl rfl (acts_call rfl rfl rfl (refRecords_at (ofB s.br (parB s.br no.toNat)).1 s.bls[no.toNat].l p9 _ A9 _ c9 _ _ (hs9.ext0 zxc) (hsb.ext0 zxc) hofc (by omega))) ?_
  rintro vr10 wr10 ⟨er10, p10, A10, c10, rfl, hs10⟩
  have hzr10 := er10.size
  refine Ox.pure rfl rfl zmv ?_
  refine Ox.pure rfl rfl (rp_extract rfl rfl rfl) ?_
  refine Ox.pure rfl rfl (rp_extract rfl rfl rfl) ?_
  refine Ox.pure rfl rfl zas ?_
  refine Ox.pure rfl rfl zas ?_
  refine Ox.fin ?_
  refine ztx ?_
  refine Ox.pure rfl rfl zmv ?_
  refine Ox.pure rfl rfl zbc ?_
  refine Ox.fin ?_
  refine zcf ?_
  refine zsk ?_
  refine ztx ?_
  refine Ox.val rfl rfl zra ?_
  refine Ox.act rfl rfl (acts_call rfl rfl rfl (refCopied_at s hfw _ (hin.ext0 zxc))) ?_
  rintro vu13 wu13 ⟨eu13, s', rfl, hbr', hbls, htr, hO⟩
  have hzu13 := eu13.size
  have hzu13 := eu13.size
  refine Ox.act rfl rfl (acts_alloc rfl rfl) ?_
  rintro vb13 wb13 ⟨eb13, bb13, rfl, hbb13, hBb13⟩
  first | (have hCb13 : Cells wb13 ⟨bb13, 0, none⟩ [_, _, _, _, _] := hBb13.cells) | have hCb13 := Blk.cellsL hBb13
  have hlb13 := hBb13.lt
  have hzb13 := eb13.size
  refine Ox.act rfl rfl (acts_store_all rfl rfl rfl hBb13 rfl rfl rfl (bvc_one s')) ?_
  rintro vs13 ws13 ⟨rfl, qs13, hBs13⟩
  have es13 : Ext [] wr10 ws13 := (show Ext [] wr10 wu13 from zxc).trans (Ext.renew eb13 qs13 hbb13)
  have hzs13 := es13.size
  have hys13 := qs13.size
  have hxs13 := eb13.size
  have hO13 := OB.put (hO.ext0 eb13) hBb13 qs13 hBs13
  have hCs13 := hO13.cells
  have hd' : s'.done = s.done := congrArg Br.done hbr'
  have hp' : s'.par = s.par := congrArg Br.par hbr'
  have hf' : s'.fks = s.fks := congrArg Br.fks hbr'
  have hw1 : s'.bls.length ≤ 1000 := by rw [hbls]; exact hfw.bls
  have hw2 : s'.par.length ≤ 1000 := by rw [hp']; exact hfw.par
  have hw3 : s'.fks.length ≤ 1000 := by rw [hf']; exact hfw.fks
  have hw4 : s'.done.length ≤ 1000 := by rw [hd']; exact hfw.done
  have hi' : no.toNat < s'.bls.length := by rw [hbls]; exact hib
  have hid : no.toNat < s'.done.length := by rw [hd']; omega
  have hdt := hO.in_.done.ptr
  refine Ox.fin ?_
  refine ztx ?_
  refine Ox.pure rfl rfl zfa ?_
  refine Ox.val rfl rfl zrs ?_
  refine Ox.pure rfl rfl zmv ?_
  refine Ox.pure rfl rfl (rp_indexAddr no.toNat rfl rfl rfl rfl rfl hdt (by omega) hid) ?_
  refine Ox.act rfl rfl (acts_store_own (enc := boc) boc_len true rfl rfl rfl rfl rfl hO13.o4 hdt hid (boc_one true)) ?_
  rintro vs14 ws14 ⟨rfl, qs14, hos14⟩
  have hO14 := OB.set4 hO13 qs14 hos14
  have es14 : Ext [] wr10 ws14 := OB.step (v := Value.slice s'.p4 s'.done.length s'.c4) es13 qs14 hO13.o4 (by omega)
  have hzs14 := es14.size
  have hCs14 := hO14.cells
  refine Ox.fin ?_
  have v2' : s'.par.length ≤ 1000 := hw2
  have hlb := hBb4.lt
  by_cases hp0 : parB s.br no.toNat < 0
  · have he := he2.trans (if_pos hp0)
    generalize hR : recL (ofB s.br (parB s.br no.toNat)).1 s.bls[no.toNat].l = R at *
    refine ztx ?_
    refine Ox.pure rfl rfl zmv ?_
    refine Ox.pure rfl rfl zbc ?_
    refine Ox.fin ?_
    refine zct ?_
    refine ztx ?_
    refine Ox.pure rfl rfl zmv ?_
    refine Ox.pure rfl rfl zfa ?_
    refine Ox.act rfl rfl (acts_store (off := 0) rfl rfl rfl rfl rfl hO14.blk (Nat.le_of_ble_eq_true rfl) (by (first | assumption | exact List.all_eq_true.mp rfl | simp [Value.cells, Value.oneCell']))) ?_
    rintro vs16 ws16 ⟨rfl, qs16, hBs16⟩
    have es16 : Ext [] wr10 ws16 := Ext.renew es14 qs16 (by omega)
    have hzs16 := es16.size
    have hO16 := OB.base (l := R.1) (A := A10) hO14 qs16 hBs16
    have hCs16 := hO16.cells
    refine Ox.fin ?_
    refine ztx ?_
    refine Ox.val rfl rfl zra ?_
    refine Ox.act rfl rfl (acts_store_all rfl rfl rfl (hBb4.ext (X := []) zxc (by simp)) rfl rfl rfl (bvc_one _)) ?_
    rintro vsz wsz ⟨rfl, qsz, hBsz⟩
    have esz : Ext [] w wsz := Ext.renew zxc qsz (by omega)
    have hOz := hO16.other (hBb4.ext (X := []) zxc (by simp)) qsz (by have := hBb4.lt; omega)
    refine Ox.pure rfl rfl zas ?_
    refine Ox.pure rfl rfl zas ?_
    refine Ox.fin ?_
    refine zrt ?_
    have h5 := sl_keep (hs10.ext0 es16) qsz (fun hl => by have := sl_off fc_len fc_ns (by decide) (s0 := Bs0) (hs10.ext0 es16) (hBb4.ext (X := []) (w' := ws16) zxc (by simp)) hl; simpa using this)
    have hres := hOz.res ⟨hw1, hw2, hw3, by simpa using hw4⟩ h5 (fun x hx => by
      have hx' : x ∈ s.bls := by rw [← hbls]; exact hx
      exact (hin.sub x hx').imp fun _ h9 => h9.ext0 zxc)
    refine endE_ret [.agg (bvc _).toArray, .slice none 0 0, .int .i64 0] ⟨⟨⟨bb4, 0, none⟩, rfl, hBsz.cellsL.ldA rfl rfl⟩, rfl, rfl, trivial⟩ ⟨zxc, ?_⟩
    rw [he]
    refine ⟨_, none, ⟨0, 0, none⟩, 0, rfl, ?_, SlV.nil _ _⟩
    obtain ⟨s9, e9, h9, e8, z9⟩ := hres
    refine ⟨s9, e9, h9, e8.trans ?_, fun h => Nat.le_trans (by omega) (z9 h)⟩
    show Br.mk R.1 (s'.bls.map Bl.l) s'.par s'.fks (s'.done.set no.toNat true) = _
    rw [show s'.bls.map Bl.l = s.br.brs from congrArg Br.brs hbr', show s'.par = s.br.par from congrArg Br.par hbr', show s'.fks = s.br.fks from congrArg Br.fks hbr', show s'.done = s.br.done from congrArg Br.done hbr']
  · have he := he2.trans (if_neg hp0)
    have hpn : (parB s.br no.toNat).toNat < s.bls.length := by omega
    obtain ⟨Ap, hsp⟩ := hin.sub _ (List.getElem_mem hpn)
    have hpe := brB_eq (s := s) hpn
    have hbl3 := hsm.brs (parB s.br no.toNat).toNat
    rw [hpe] at hbl3
    have hLq : ∀ u, Ext [] w u → Ld Try.prog u 59 (s.A1.add ((parB s.br no.toNat).toNat * 1 + 0)) (.slice s.bls[(parB s.br no.toNat).toNat].p s.bls[(parB s.br no.toNat).toNat].l.length s.bls[(parB s.br no.toNat).toNat].c) := fun u hu => ld_field blc_len (hbr.ext0 hu) hpn 0 rfl (by decide) rfl
    have hpn' : (parB s.br no.toNat).toNat < s'.bls.length := by rw [hbls]; exact hpn
    have hpt := hO.in_.bls.ptr
    refine ztx ?_
    refine Ox.pure rfl rfl zmv ?_
    refine Ox.pure rfl rfl zbc ?_
    refine Ox.fin ?_
    refine zcf ?_
    (repeat refine Sx.seq ?_)
    refine Sx.walkR rfl (fun _ _ _ _ h => h) [0, 1, 2, 4, 5, 6, 7, 8, 10, 11, 12, 13, 14, 3, 9, 15, 16, 17] [0, 1, 2, 4, 5, 6, 7, 8, 10, 11, 12, 13, 14, 16] (0) (by kernel_rfl) ?_
    intro hq wD eD; have hzD := eD.size
    refine Wx.pure hq rfl rfl rfl rfl zfa ?_
    refine Wx.val hq rfl rfl rfl rfl ([]) zrs ?_
    refine Wx.pure hq rfl rfl rfl rfl zmv ?_
    refine Wx.pure hq rfl rfl rfl rfl zfa ?_
    refine Wx.val hq rfl rfl rfl rfl ([]) zrs ?_
    refine Wx.pure hq rfl rfl rfl rfl zmv ?_
    refine Wx.pure hq rfl rfl rfl rfl (rp_indexAddr (parB s.br no.toNat).toNat rfl rfl rfl rfl rfl hbp (by omega) hpn) ?_
    refine Wx.val hq rfl rfl rfl rfl ([]) (rv_load rfl rfl (fun u hu => hLq u zxc)) ?_
    refine Wx.pure hq rfl rfl rfl rfl zfa ?_
    refine Wx.val hq rfl rfl rfl rfl ([]) zrs ?_
    refine Wx.pure hq rfl rfl rfl rfl zmv ?_
    refine Wx.pure hq rfl rfl rfl rfl (rp_indexAddr no.toNat rfl rfl rfl rfl rfl hbp (by omega) hib) ?_
    refine Wx.val hq rfl rfl rfl rfl ([]) (rv_load rfl rfl (fun u hu => hLb u zxc)) ?_
    refine Wx.actNew rfl rfl rfl rfl (acts_buildSlice (ps := []) rfl rfl rfl rfl rfl rfl rfl rfl) ?_
    rintro vn3 wn3 en3 ⟨bn3, rfl, hbn3, hBn3⟩
    first | (have hCn3 : Cells wn3 ⟨bn3, 0, none⟩ [] := hBn3.cells) | have hCn3 := Blk.cellsL hBn3
    have hln3 := hBn3.lt
    have hzn3 := en3.size
    refine Wx.actNew rfl rfl rfl rfl (acts_append_new (e := 42) (size := 6) (bytes := 48) (base := wD.heap.size) rfl rfl rfl rfl (hBn3.ext (X := []) zxc (by simp)) ((hsp.ext0 zxc).src rfl cc_len cc_one) (by omega) (by omega) (by omega)) ?_
    rintro va9 wa9 ea9 ⟨hoa9, hra9⟩
    have hza9 := ea9.size
    have hza9 := ea9.size
    obtain ⟨p9, k9, A9', rfl, _, _⟩ := SlV.of_own (enc := cc) (l := s.bls[(parB s.br no.toNat).toNat].l) hoa9 (by omega)
    refine Wx.actX [(1, [], wD)] rfl rfl rfl rfl ((Value.slice p9 s.bls[(parB s.br no.toNat).toNat].l.length k9).ownBlock.toList) (.drop (by kernel_rfl) (.drop (by kernel_rfl) (.drop (by kernel_rfl) (.drop (by kernel_rfl) (.keep (fun y hy => .inr (own_lt hoa9 y hy).1) (PendK.nil)))))) (acts_append (e := 42) (size := 6) (bytes := 48) rfl rfl rfl rfl (own_keep0 hoa9 zxc) ((hsb.ext0 zxc).src rfl cc_len cc_one) (by first | omega | (dsimp only; omega)) (by first | omega | (dsimp only; omega)) (by omega)) (fun _ _ h => h.ext) ?_
    rintro va15 wa15 hga15
    obtain ⟨p15, k15, A15, rfl, _, _⟩ := SlV.of_own (enc := cc) (l := s.bls[(parB s.br no.toNat).toNat].l ++ s.bls[no.toNat].l) (by have h9 := hga15.own; rw [List.length_append, rowsV_append]; exact h9) (by simp; omega)
    have ho15 : wa15.ownsRow wD.heap.size 42 6 (.slice p15 (s.bls[(parB s.br no.toNat).toNat].l ++ s.bls[no.toNat].l).length k15) (s.bls[(parB s.br no.toNat).toNat].l ++ s.bls[no.toNat].l).length (rowsV cc (s.bls[(parB s.br no.toNat).toNat].l ++ s.bls[no.toNat].l)) := by have h9 := hga15.own; rw [rowsV_append]; rw [List.length_append] at h9 ⊢; exact h9
    have ea15 : Ext [] ws14 wa15 := hga15.ext0 zxc (fun g hg => by have := (own_lt hoa9 g (by simp [hg])).1; omega)
    have hza15 := ea15.size
    have hP := OB.ext0 (w' := wa15) hO14 zxc
    refine Wx.pure hq rfl rfl rfl rfl (rp_indexAddr (parB s.br no.toNat).toNat rfl rfl rfl rfl rfl hpt (by omega) hpn') ?_
    refine Wx.actLast rfl rfl rfl rfl (by kernel_rfl) (acts_store_own (enc := blc) blc_len (⟨p15, k15, s.bls[(parB s.br no.toNat).toNat].l ++ s.bls[no.toNat].l⟩ : Bl) rfl rfl rfl rfl rfl hP.o1 hpt hpn' (blc_one _)) ?_
    rintro vs17 ws17 ⟨rfl, qs17, hos17⟩
    have hS := OB.set1 hP qs17 hos17
    have es17 : Ext [] wr10 ws17 := OB.step (v := Value.slice s'.p1 s'.bls.length s'.c1) zxc qs17 hP.o1 (by omega)
    have hzs17 := es17.size
    have hCs17 := hS.cells
    have ho17 := own_keep ho15 qs17 (fun g hg hm => own_apart ho15 hP.o1 (by decide) g hg (by simpa using hm))
    refine Wx.fin ?_
    refine ztx ?_
    refine Ox.val rfl rfl zra ?_
    refine Ox.act rfl rfl (acts_store_all rfl rfl rfl (hBb4.ext (X := []) zxc (by simp)) rfl rfl rfl (bvc_one _)) ?_
    rintro vsz wsz ⟨rfl, qsz, hBsz⟩
    have esz : Ext [] w wsz := Ext.renew zxc qsz (by omega)
    have hOz := hS.other (hBb4.ext (X := []) zxc (by simp)) qsz (by have := hBb4.lt; omega)
    refine Ox.pure rfl rfl zas ?_
    refine Ox.pure rfl rfl zas ?_
    refine Ox.fin ?_
    refine zrt ?_
    obtain ⟨A19, hs19⟩ := own_sl_at (own_keep ho17 qsz (own_ne ho17 (hBb4.ext (X := []) (w' := ws17) zxc (by simp)) (by decide))) (by simp; omega)
    have hres := hOz.res ⟨by simpa using hw1, hw2, hw3, by simpa using hw4⟩ (htr _ (hin.base.ext0 zxc)) (fun x hx => by
      rcases List.mem_or_eq_of_mem_set hx with h | h
      · have h' : x ∈ s.bls := by rw [← hbls]; exact h
        exact (hin.sub x h').imp fun _ h9 => h9.ext0 zxc
      · rw [h]; exact ⟨_, hs19⟩)
    refine endE_ret [.agg (bvc _).toArray, .slice none 0 0, .int .i64 0] ⟨⟨⟨bb4, 0, none⟩, rfl, hBsz.cellsL.ldA rfl rfl⟩, rfl, rfl, trivial⟩ ⟨zxc, ?_⟩
    rw [he]
    refine ⟨_, none, ⟨0, 0, none⟩, 0, rfl, ?_, SlV.nil _ _⟩
    obtain ⟨s9, e9, h9, e8, z9⟩ := hres
    refine ⟨s9, e9, h9, e8.trans ?_, fun h => Nat.le_trans (by omega) (z9 h)⟩
    show Br.mk s'.base ((s'.bls.set (parB s.br no.toNat).toNat (⟨p15, k15, s.bls[(parB s.br no.toNat).toNat].l ++ s.bls[no.toNat].l⟩ : Bl)).map Bl.l) s'.par s'.fks (s'.done.set no.toNat true) = _
    rw [List.map_set, show s'.base = s.br.base from congrArg Br.base hbr', show s'.bls.map Bl.l = s.br.brs from congrArg Br.brs hbr', show s'.par = s.br.par from congrArg Br.par hbr', show s'.fks = s.br.fks from congrArg Br.fks hbr', show s'.done = s.br.done from congrArg Br.done hbr', hpe]

end Go.Proofs.Ytfgckcochilpkaa
