/- The law BranchesMerged: a merge changes exactly what the branch has changed: for every branching, number and key, no condition. -/
import Derived.Test.YtfgckcochilpkaaRows
import Derived.Test.YtfgckcochilpkaaWBP8
set_option linter.unusedVariables false
set_option maxRecDepth 100000
set_option maxHeartbeats 4000000
set_option linter.unusedSimpArgs false
namespace Go.Proofs.Ytfgckcochilpkaa
open Go Go.Eng

theorem addL_code (l : List Fct) (f : Fct) : (addL l f).2 = 0 ∨ (addL l f).2 = 40 ∨ (addL l f).2 = 41 := by
  unfold addL
  split
  · exact checkL_in l
  · split
    · exact .inr (.inl rfl)
    · split
      · exact .inr (.inr rfl)
      · exact .inl rfl
theorem recL_code : ∀ (cs : List Cr) (l : List Fct), (recL l cs).2 = 0 ∨ (recL l cs).2 = 40 ∨ (recL l cs).2 = 41
  | [], l => .inl rfl
  | c :: cs, l => by
    rw [recL_cons]
    split
    · exact recL_code cs _
    · exact addL_code l _
theorem merge_541 {b : Br} {no : Int} (h : (mergeB b no).2.2 = 541) : ValidB b ∧ OpenB b no ∧ 0 < (confB b no.toNat).length ∧ mergeB b no = (Br0, confB b no.toNat, 541) := by
  unfold mergeB at h ⊢
  by_cases h1 : ¬ ValidB b
  · rw [if_pos h1] at h; exact absurd h (by decide)
  rw [if_neg h1] at h ⊢
  by_cases h2 : ¬ OpenB b no ∨ (parB b no.toNat ≠ -1 ∧ ¬ OpenB b (parB b no.toNat))
  · rw [if_pos h2] at h; exact absurd h (by decide)
  rw [if_neg h2] at h ⊢
  by_cases h3 : 0 < (confB b no.toNat).length
  · rw [if_pos h3]
    exact ⟨Classical.not_not.1 h1, Classical.not_not.1 (fun h9 => h2 (.inl h9)), h3, rfl⟩
  rw [if_neg h3] at h
  exfalso
  by_cases h4 : (recL (ofB b (parB b no.toNat)).1 (brB b no.toNat)).2 ≠ 0
  · rw [if_pos h4] at h
    have h5 : (recL (ofB b (parB b no.toNat)).1 (brB b no.toNat)).2 = 541 := h
    rcases recL_code (brB b no.toNat) (ofB b (parB b no.toNat)).1 with h6 | h6 | h6 <;> omega
  rw [if_neg h4] at h
  split at h <;> exact absurd (show (0 : Int) = 541 from h) (by decide)
theorem merge_fail {b : Br} {no : Int} (h : (mergeB b no).2.2 ≠ 0) (h2 : (mergeB b no).2.2 ≠ 541) : (mergeB b no).1 = Br0 ∧ (mergeB b no).2.1 = [] := by
  unfold mergeB at h h2 ⊢
  split
  · exact ⟨rfl, rfl⟩
  · rename_i h1
    rw [if_neg h1] at h h2
    split
    · exact ⟨rfl, rfl⟩
    · rename_i h3
      rw [if_neg h3] at h h2
      split
      · rename_i h4; rw [if_pos h4] at h2; exact absurd rfl h2
      · rename_i h4
        rw [if_neg h4] at h h2
        split
        · exact ⟨rfl, rfl⟩
        · rename_i h5
          rw [if_neg h5] at h
          split at h <;> exact absurd rfl h
theorem factsB_of' {b : Br} {no : Int} (hv : ValidB b) (h1 : -1 ≤ no) (h2 : no < (b.brs.length : Int)) : factsB b no = ((ofB b no).1, 0) := by
  rw [show factsB b no = ofB b no from (if_neg (fun h => h hv)).trans (if_neg (by omega))]
  exact Prod.ext rfl (valid_of hv h2)
theorem map_no_cell {w : World} {g : Nat} {l : List (Ky × Unit)} {A : Addr} {v : Value} (h : MapL kvK evT w g l) (ha : A.block = g) (hc : w.cell? A = some v) : False := by
  subst ha
  obtain ⟨es, clock, hb, _⟩ := h
  unfold World.cell? at hc
  rw [hb] at hc
  cases hc
theorem in_t {P : Program} {n : Nat} {E : Env} {op : Oper} {X : List Nat} {w : World} {m : List Ky} {k : Ky} (h : k ∈ m) (hr : RunV P n E op X w (.bool (decide (k ∈ m)))) : RunV P n E op X w (.bool true) := by
  rwa [decide_eq_true h] at hr
theorem in_f {P : Program} {n : Nat} {E : Env} {op : Oper} {X : List Nat} {w : World} {m : List Ky} {k : Ky} (h : k ∉ m) (hr : RunV P n E op X w (.bool (decide (k ∈ m)))) : RunV P n E op X w (.bool false) := by
  rwa [decide_eq_false h] at hr
theorem setK_take {α : Type} {f : α → Ky} {l : List α} {i : Nat} (h : i < l.length) : putL (setL (setK ((l.take i).map f))) (f l[i]) () = setL (setK ((l.take (i + 1)).map f)) := by
  rw [List.take_succ_eq_append_getElem h, List.map_append, List.map_singleton, setK_snoc]
  exact putL_set
theorem mergedLaw (s : Bs) (no : Int) (other : Ky) (W : World) (hin : BsIn s W) :
    Calls Try.prog 8 #[.agg (bvc s).toArray, .int .i64 no, .agg (kc other).toArray] W (Ret fun r w' => Ext [] W w' ∧ r = .bool true) := by
  have hbl := br_len s
  have hbf := hin.bls.few
  have hbp := hin.bls.ptr
  have hbr := hin.bls.row
  have hpf := hin.par.few
  refine calls_of_Sx (args := [.agg (bvc s).toArray, .int .i64 no, .agg (kc other).toArray]) Try.func8 rfl rfl ?_
  by_cases hch1 : FewB s.br; rotate_left
  ·   refine ztx ?_
      refine Ox.act rfl rfl (acts_box rfl rfl) ?_
      rintro vb3 wb3 ⟨eb3, bb3, rfl, hbb3, hBb3⟩
      first | (have hCb3 : Cells wb3 ⟨bb3, 0, none⟩ [_, _, _, _, _] := hBb3.cells) | have hCb3 := Blk.cellsL hBb3
      have hlb3 := hBb3.lt
      have hzb3 := eb3.size
      refine Ox.act rfl rfl (acts_box rfl rfl) ?_
      rintro vb5 wb5 ⟨eb5, bb5, rfl, hbb5, hBb5⟩
      first | (have hCb5 : Cells wb5 ⟨bb5, 0, none⟩ [_, _, _] := hBb5.cells) | have hCb5 := Blk.cellsL hBb5
      have hlb5 := hBb5.lt
      have hzb5 := eb5.size
      refine Ox.pure rfl rfl zas ?_
      refine Ox.fin ?_
      refine ztx ?_
      refine Ox.act rfl rfl (acts_call rfl rfl rfl (saneB_at _)) ?_
      rintro v1 w1 ⟨e1, rfl⟩
      have hz1 := e1.size
      refine Ox.pure rfl rfl (rp_not rfl rfl) ?_
      refine Ox.fin ?_
      refine zcf ?_
      refine zsk ?_
      refine ztx ?_
      refine Ox.val rfl rfl zra ?_
      refine Ox.act rfl rfl (acts_call rfl rfl rfl (ref_FewB s _ (hin.ext0 zxc))) ?_
      rintro v2 w2 ⟨e2, rfl⟩
      have hz2 := e2.size
      first | rw [decide_eq_true (show FewB s.br by assumption)] | rw [decide_eq_false (show ¬ FewB s.br by assumption)]
      refine Ox.pure rfl rfl (rp_not rfl rfl) ?_
      refine Ox.pure rfl rfl zmv ?_
      first | (refine Ox.skip rfl rfl ?_) | (refine Ox.pure rfl rfl zmv ?_)
      first | (refine Ox.skip rfl rfl ?_) | (refine Ox.pure rfl rfl zbc ?_)
      refine Ox.pure rfl rfl zpk ?_
      refine Ox.pure rfl rfl zmv ?_
      first | (refine Ox.skip rfl rfl ?_) | (refine Ox.pure rfl rfl zmv ?_)
      first | (refine Ox.skip rfl rfl ?_) | (refine Ox.pure rfl rfl zfa ?_)
      first | (refine Ox.skip rfl rfl ?_) | (refine Ox.val rfl rfl zrs ?_)
      first | (refine Ox.skip rfl rfl ?_) | (refine Ox.pure rfl rfl (rp_lenS rfl rfl rfl) ?_)
      first | (refine Ox.skip rfl rfl ?_) | (refine Ox.pure rfl rfl zbc ?_)
      refine Ox.pure rfl rfl zpk ?_
      refine Ox.fin ?_
      refine zct ?_
      refine ztx ?_
      refine Ox.pure rfl rfl zas ?_
      refine Ox.fin ?_
      refine zrt ?_
      exact endE_ret [_] ⟨rfl, trivial⟩ ⟨zxc, rfl⟩
  by_cases hch2 : 0 ≤ no; rotate_left
  ·   refine ztx ?_
      refine Ox.act rfl rfl (acts_box rfl rfl) ?_
      rintro vb3 wb3 ⟨eb3, bb3, rfl, hbb3, hBb3⟩
      first | (have hCb3 : Cells wb3 ⟨bb3, 0, none⟩ [_, _, _, _, _] := hBb3.cells) | have hCb3 := Blk.cellsL hBb3
      have hlb3 := hBb3.lt
      have hzb3 := eb3.size
      refine Ox.act rfl rfl (acts_box rfl rfl) ?_
      rintro vb5 wb5 ⟨eb5, bb5, rfl, hbb5, hBb5⟩
      first | (have hCb5 : Cells wb5 ⟨bb5, 0, none⟩ [_, _, _] := hBb5.cells) | have hCb5 := Blk.cellsL hBb5
      have hlb5 := hBb5.lt
      have hzb5 := eb5.size
      refine Ox.pure rfl rfl zas ?_
      refine Ox.fin ?_
      refine ztx ?_
      refine Ox.act rfl rfl (acts_call rfl rfl rfl (saneB_at _)) ?_
      rintro v3 w3 ⟨e3, rfl⟩
      have hz3 := e3.size
      refine Ox.pure rfl rfl (rp_not rfl rfl) ?_
      refine Ox.fin ?_
      refine zcf ?_
      refine zsk ?_
      refine ztx ?_
      refine Ox.val rfl rfl zra ?_
      refine Ox.act rfl rfl (acts_call rfl rfl rfl (ref_FewB s _ (hin.ext0 zxc))) ?_
      rintro v4 w4 ⟨e4, rfl⟩
      have hz4 := e4.size
      first | rw [decide_eq_true (show FewB s.br by assumption)] | rw [decide_eq_false (show ¬ FewB s.br by assumption)]
      refine Ox.pure rfl rfl (rp_not rfl rfl) ?_
      refine Ox.pure rfl rfl zmv ?_
      first | (refine Ox.skip rfl rfl ?_) | (refine Ox.pure rfl rfl zmv ?_)
      first | (refine Ox.skip rfl rfl ?_) | (refine Ox.pure rfl rfl zbc ?_)
      refine Ox.pure rfl rfl zpk ?_
      refine Ox.pure rfl rfl zmv ?_
      first | (refine Ox.skip rfl rfl ?_) | (refine Ox.pure rfl rfl zmv ?_)
      first | (refine Ox.skip rfl rfl ?_) | (refine Ox.pure rfl rfl zfa ?_)
      first | (refine Ox.skip rfl rfl ?_) | (refine Ox.val rfl rfl zrs ?_)
      first | (refine Ox.skip rfl rfl ?_) | (refine Ox.pure rfl rfl (rp_lenS rfl rfl rfl) ?_)
      first | (refine Ox.skip rfl rfl ?_) | (refine Ox.pure rfl rfl zbc ?_)
      refine Ox.pure rfl rfl zpk ?_
      refine Ox.fin ?_
      refine zct ?_
      refine ztx ?_
      refine Ox.pure rfl rfl zas ?_
      refine Ox.fin ?_
      refine zrt ?_
      exact endE_ret [_] ⟨rfl, trivial⟩ ⟨zxc, rfl⟩
  by_cases hch3 : no < (s.bls.length : Int); rotate_left
  ·   refine ztx ?_
      refine Ox.act rfl rfl (acts_box rfl rfl) ?_
      rintro vb3 wb3 ⟨eb3, bb3, rfl, hbb3, hBb3⟩
      first | (have hCb3 : Cells wb3 ⟨bb3, 0, none⟩ [_, _, _, _, _] := hBb3.cells) | have hCb3 := Blk.cellsL hBb3
      have hlb3 := hBb3.lt
      have hzb3 := eb3.size
      refine Ox.act rfl rfl (acts_box rfl rfl) ?_
      rintro vb5 wb5 ⟨eb5, bb5, rfl, hbb5, hBb5⟩
      first | (have hCb5 : Cells wb5 ⟨bb5, 0, none⟩ [_, _, _] := hBb5.cells) | have hCb5 := Blk.cellsL hBb5
      have hlb5 := hBb5.lt
      have hzb5 := eb5.size
      refine Ox.pure rfl rfl zas ?_
      refine Ox.fin ?_
      refine ztx ?_
      refine Ox.act rfl rfl (acts_call rfl rfl rfl (saneB_at _)) ?_
      rintro v5 w5 ⟨e5, rfl⟩
      have hz5 := e5.size
      refine Ox.pure rfl rfl (rp_not rfl rfl) ?_
      refine Ox.fin ?_
      refine zcf ?_
      refine zsk ?_
      refine ztx ?_
      refine Ox.val rfl rfl zra ?_
      refine Ox.act rfl rfl (acts_call rfl rfl rfl (ref_FewB s _ (hin.ext0 zxc))) ?_
      rintro v6 w6 ⟨e6, rfl⟩
      have hz6 := e6.size
      first | rw [decide_eq_true (show FewB s.br by assumption)] | rw [decide_eq_false (show ¬ FewB s.br by assumption)]
      refine Ox.pure rfl rfl (rp_not rfl rfl) ?_
      refine Ox.pure rfl rfl zmv ?_
      first | (refine Ox.skip rfl rfl ?_) | (refine Ox.pure rfl rfl zmv ?_)
      first | (refine Ox.skip rfl rfl ?_) | (refine Ox.pure rfl rfl zbc ?_)
      refine Ox.pure rfl rfl zpk ?_
      refine Ox.pure rfl rfl zmv ?_
      first | (refine Ox.skip rfl rfl ?_) | (refine Ox.pure rfl rfl zmv ?_)
      first | (refine Ox.skip rfl rfl ?_) | (refine Ox.pure rfl rfl zfa ?_)
      first | (refine Ox.skip rfl rfl ?_) | (refine Ox.val rfl rfl zrs ?_)
      first | (refine Ox.skip rfl rfl ?_) | (refine Ox.pure rfl rfl (rp_lenS rfl rfl rfl) ?_)
      first | (refine Ox.skip rfl rfl ?_) | (refine Ox.pure rfl rfl zbc ?_)
      refine Ox.pure rfl rfl zpk ?_
      refine Ox.fin ?_
      refine zct ?_
      refine ztx ?_
      refine Ox.pure rfl rfl zas ?_
      refine Ox.fin ?_
      refine zrt ?_
      exact endE_ret [_] ⟨rfl, trivial⟩ ⟨zxc, rfl⟩
  have hfew : FewB s.br := hch1
  have h0 : 0 ≤ no := hch2
  have h1 : no < (s.bls.length : Int) := hch3
  obtain ⟨hm, hw⟩ := small_of rfl (few_small hfew)
  have hib : no.toNat < s.bls.length := by omega
  have hLb : ∀ u, Ext [] W u → Ld Try.prog u 59 (s.A1.add (no.toNat * 1 + 0)) (.slice s.bls[no.toNat].p s.bls[no.toNat].l.length s.bls[no.toNat].c) := fun u hu => ld_field blc_len (hbr.ext0 hu) hib 0 rfl (by decide) rfl
  obtain ⟨Ab, hsb⟩ := hin.sub _ (List.getElem_mem hib)
  have hbe := brB_eq (s := s) hib
  obtain ⟨cs, hcs⟩ : ∃ cs, cs = s.bls[no.toNat].l := ⟨_, rfl⟩
  obtain ⟨q, hq⟩ : ∃ q, q = s.bls[no.toNat].p := ⟨_, rfl⟩
  obtain ⟨d, hd⟩ : ∃ d, d = s.bls[no.toNat].c := ⟨_, rfl⟩
  rw [← hcs, ← hq, ← hd] at hLb hsb
  rw [← hcs] at hbe
  have hsbp := hsb.ptr
  have hsbr := hsb.row
  have hsbf := hsb.few
  obtain ⟨K, hK⟩ : ∃ K, K = (mergeB s.br no).2.1 := ⟨_, rfl⟩
  obtain ⟨er5, her5⟩ : ∃ e, e = (mergeB s.br no).2.2 := ⟨_, rfl⟩
  refine ztx ?_
  refine Ox.act rfl rfl (acts_box rfl rfl) ?_
  rintro vb3 wb3 ⟨eb3, bb3, rfl, hbb3, hBb3⟩
  first | (have hCb3 : Cells wb3 ⟨bb3, 0, none⟩ [_, _, _, _, _] := hBb3.cells) | have hCb3 := Blk.cellsL hBb3
  have hlb3 := hBb3.lt
  have hzb3 := eb3.size
  refine Ox.act rfl rfl (acts_box rfl rfl) ?_
  rintro vb5 wb5 ⟨eb5, bb5, rfl, hbb5, hBb5⟩
  first | (have hCb5 : Cells wb5 ⟨bb5, 0, none⟩ [_, _, _] := hBb5.cells) | have hCb5 := Blk.cellsL hBb5
  have hlb5 := hBb5.lt
  have hzb5 := eb5.size
  refine Ox.pure rfl rfl zas ?_
  refine Ox.fin ?_
  refine ztx ?_
  refine Ox.act rfl rfl (acts_call rfl rfl rfl (saneB_at _)) ?_
  rintro v7 w7 ⟨e7, rfl⟩
  have hz7 := e7.size
  refine Ox.pure rfl rfl (rp_not rfl rfl) ?_
  refine Ox.fin ?_
  refine zcf ?_
  refine zsk ?_
  refine ztx ?_
  refine Ox.val rfl rfl zra ?_
  refine Ox.act rfl rfl (acts_call rfl rfl rfl (ref_FewB s _ (hin.ext0 zxc))) ?_
  rintro v8 w8 ⟨e8, rfl⟩
  have hz8 := e8.size
  first | rw [decide_eq_true (show FewB s.br by assumption)] | rw [decide_eq_false (show ¬ FewB s.br by assumption)]
  refine Ox.pure rfl rfl (rp_not rfl rfl) ?_
  refine Ox.pure rfl rfl zmv ?_
  first | (refine Ox.skip rfl rfl ?_) | (refine Ox.pure rfl rfl zmv ?_)
  first | (refine Ox.skip rfl rfl ?_) | (refine Ox.pure rfl rfl zbc ?_)
  refine Ox.pure rfl rfl zpk ?_
  refine Ox.pure rfl rfl zmv ?_
  first | (refine Ox.skip rfl rfl ?_) | (refine Ox.pure rfl rfl zmv ?_)
  first | (refine Ox.skip rfl rfl ?_) | (refine Ox.pure rfl rfl zfa ?_)
  first | (refine Ox.skip rfl rfl ?_) | (refine Ox.val rfl rfl zrs ?_)
  first | (refine Ox.skip rfl rfl ?_) | (refine Ox.pure rfl rfl (rp_lenS rfl rfl rfl) ?_)
  first | (refine Ox.skip rfl rfl ?_) | (refine Ox.pure rfl rfl zbc ?_)
  refine Ox.pure rfl rfl zpk ?_
  refine Ox.fin ?_
  refine zcf ?_
  refine zsk ?_
  refine ztx ?_
  refine Ox.val rfl rfl zra ?_
  refine Ox.pure rfl rfl zmv ?_
  refine Ox.act rfl rfl (acts_call rfl rfl rfl (merge_br s hm hw no _ (hin.ext0 zxc))) ?_
  rintro vu5 wu5 ⟨eu5, v5, p5, A5, c5, rfl, ⟨s5, rfl, hi5, hb5, hz5⟩, hk5⟩
  have hzu5 := eu5.size
  refine Ox.pure rfl rfl zmv ?_
  refine Ox.pure rfl rfl (rp_extract rfl rfl rfl) ?_
  refine Ox.pure rfl rfl (rp_extract rfl rfl rfl) ?_
  refine Ox.pure rfl rfl (rp_extract rfl rfl rfl) ?_
  refine Ox.act rfl rfl (acts_alloc rfl rfl) ?_
  rintro va5 wa5 ⟨ea5, ba5, rfl, hba5, hBa5⟩
  first | (have hCa5 : Cells wa5 ⟨ba5, 0, none⟩ [_, _, _, _, _] := hBa5.cells) | have hCa5 := Blk.cellsL hBa5
  have hla5 := hBa5.lt
  have hza5 := ea5.size
  refine Ox.act rfl rfl (acts_store_all rfl rfl rfl hBa5 rfl (by first | rfl | assumption) (by first | rfl | assumption) (by (first | assumption | exact List.all_eq_true.mp rfl | simp [Value.cells, Value.oneCell']))) ?_
  rintro vc5 wc5 ⟨rfl, qc5, hBc5⟩
  have ec5 := Ext.renew ea5 qc5 hba5
  have hzc5 := ec5.size
  have hlc5 := hBc5.lt
  first | (have hCc5 : Cells wc5 ⟨ba5, 0, none⟩ [_, _, _, _, _] := hBc5.cells) | have hCc5 := Blk.cellsL hBc5
  refine Ox.pure rfl rfl zas ?_
  refine Ox.pure rfl rfl zas ?_
  refine Ox.fin ?_
  refine ztx ?_
  refine Ox.act rfl rfl (acts_makeMap kvK evT rfl) ?_
  rintro vmk wmk ⟨emk, gm, rfl, hgm, hMmk⟩
  have hzmk := emk.size
  have hzmk := emk.size
  have hlmk := hMmk.lt
  refine Ox.pure rfl rfl zas ?_
  refine Ox.fin ?_
  refine ztx ?_
  refine Ox.pure rfl rfl zfa ?_
  refine Ox.val rfl rfl zrs ?_
  refine Ox.pure rfl rfl zmv ?_
  refine Ox.pure rfl rfl (rp_indexAddr no.toNat rfl rfl rfl rfl rfl hbp (by omega) hib) ?_
  refine Ox.val rfl rfl (rv_load rfl rfl (fun u hu => hLb u zxc)) ?_
  refine Ox.pure rfl rfl (rp_lenS rfl rfl rfl) ?_
  refine Ox.pure rfl rfl zmv ?_
  refine Ox.fin ?_
  refine zbl ?_
  rw [← hK] at hk5
  have h5m : Ext [] wb5 wmk := zxc
  have h3m : Ext [] wb3 wmk := zxc
  have hWm : Ext [] W wmk := zxc
  refine Sx.loop (ι := Nat) (fun i E wr => E = [(1, .int .i64 no), (3, .pointer (some ⟨bb3, 0, none⟩)), (5, .pointer (some ⟨bb5, 0, none⟩)), (7, .pointer (some ⟨ba5, 0, none⟩)), (8, .slice p5 K.length c5), (9, .int .i64 er5), (10, .map (some gm)), (58, .slice q cs.length d), (59, .int .i64 (cs.length : Int)), (60, .int .i64 (i : Int))] ∧ i ≤ cs.length ∧ Ext [gm] wmk wr ∧ MapL kvK evT wr gm (setL (setK ((cs.take i).map Cr.key)))) (fun i => cs.length - i) 0
    (by rw [hK, her5]; exact sub_cons rfl (sub_cons rfl (sub_cons rfl (sub_cons rfl (sub_cons rfl (sub_cons rfl (sub_cons rfl (sub_cons rfl (sub_cons rfl (sub_cons rfl sub_nil)))))))))) ⟨rfl, Nat.zero_le _, Ext.refl _ _, hMmk.ext0 zxc⟩ ?_
  rintro i E wr ⟨rfl, hi, er, hM⟩
  have hz := er.size
  have er2 : Ext [] W wr := Ext.renew hWm er (by omega)
  have er9 : Ext [] wc5 wr := Ext.renew emk er (by omega)
  have hC3 := hCb3.ext (w' := wr) (X := [gm]) ((Ext.up h3m).trans er) (by have := hBb3.lt; simp; omega)
  have hC5 := hCb5.ext (w' := wr) (X := [gm]) ((Ext.up h5m).trans er) (by have := hBb5.lt; simp; omega)
  by_cases hlt : i < cs.length
  · 
    refine ztx ?_
    refine Ox.pure rfl rfl zbc ?_
    refine Ox.fin ?_
    refine zct ?_
    refine zsk ?_
    refine zbl ?_
    refine ztx ?_
    refine Ox.pure rfl rfl (rp_indexAddr i rfl rfl rfl rfl rfl hsbp rfl hlt) ?_
    refine Ox.val rfl rfl (rv_load rfl rfl (fun u hu => ld_elem cc_len (hsbr.ext0 zxc) hlt rfl rfl)) ?_
    refine Ox.act rfl rfl (acts_alloc rfl rfl) ?_
    rintro vx9 wx9 ⟨ex9, bx9, rfl, hbx9, hBx9⟩
    first | (have hCx9 : Cells wx9 ⟨bx9, 0, none⟩ [_, _, _, _, _, _] := hBx9.cells) | have hCx9 := Blk.cellsL hBx9
    have hlx9 := hBx9.lt
    have hzx9 := ex9.size
    refine Ox.act rfl rfl (acts_store_all rfl rfl rfl hBx9 rfl (by first | rfl | assumption) (by first | rfl | assumption) (by (first | assumption | exact List.all_eq_true.mp rfl | simp [Value.cells, Value.oneCell']))) ?_
    rintro vy9 wy9 ⟨rfl, qy9, hBy9⟩
    have ey9 := Ext.renew ex9 qy9 hbx9
    have hzy9 := ey9.size
    have hly9 := hBy9.lt
    first | (have hCy9 : Cells wy9 ⟨bx9, 0, none⟩ [_, _, _, _, _, _] := hBy9.cells) | have hCy9 := Blk.cellsL hBy9
    refine Ox.fin ?_
    refine ztx ?_
    refine Ox.pure rfl rfl zmv ?_
    refine Ox.pure rfl rfl zfa ?_
    refine Ox.val rfl rfl zra ?_
    refine Ox.act rfl rfl (acts_mapUpdate cs[i].key () rfl rfl keyKy rfl rfl rfl (hM.ext0 zxc)) ?_
    rintro vu10 wu10 ⟨rfl, qu10, hMu10⟩
    refine Ox.fin ?_
    refine ztx ?_
    refine Ox.pure rfl rfl zba ?_
    refine Ox.pure rfl rfl zmv ?_
    refine Ox.fin ?_
    exact ⟨i + 1, _, sub_cons rfl (sub_cons rfl (sub_cons rfl (sub_cons rfl (sub_cons rfl (sub_cons rfl (sub_cons rfl (sub_cons rfl (sub_cons rfl (sub_cons rfl sub_nil))))))))), ⟨rfl, hlt, er.trans ((Ext.up zxc).trans qu10), setK_take hlt ▸ hMu10⟩, by omega⟩
  rw [List.take_of_length_le (by omega)] at hM
  obtain ⟨m, hmk⟩ : ∃ m, m = setK (cs.map Cr.key) := ⟨_, rfl⟩
  rw [← hmk] at hM
  have hmem : ∀ k, k ∈ m ↔ k ∈ (brB s.br no.toNat).map Cr.key := fun k => by rw [hmk, hbe]; exact (setK_spec _).2 k
  by_cases h541 : er5 = 541
  · obtain ⟨hv, ho, hcl, hme⟩ := merge_541 (her5.symm.trans h541)
    have hKc : K = confB s.br no.toNat := by rw [hK, hme]
    have hb5' : s5.br = Bs0.br := hb5.trans (by rw [hme]; rfl)
    obtain ⟨hKp, hKm⟩ := confB_spec s.br no.toNat
    rw [← hKc] at hKp hKm hcl
    have hKl := hk5.few
    refine ztx ?_
    refine Ox.pure rfl rfl zbc ?_
    refine Ox.fin ?_
    refine zcf ?_
    refine zex ?_
    refine ztx ?_
    refine Ox.pure rfl rfl zmv ?_
    refine Ox.pure rfl rfl zbc ?_
    refine Ox.fin ?_
    refine zct ?_
    refine ztx ?_
    refine Ox.act rfl rfl (acts_makeMap kvK evT rfl) ?_
    rintro vmq wmq ⟨emq, gq, rfl, hgq, hMmq⟩
    have hzmq := emq.size
    have hzmq := emq.size
    have hlmq := hMmq.lt
    refine Ox.pure rfl rfl zas ?_
    refine Ox.fin ?_
    refine ztx ?_
    refine Ox.val rfl rfl zra ?_
    refine Ox.pure rfl rfl zmv ?_
    refine Ox.act rfl rfl (acts_call rfl rfl rfl (refFresh_at s hv.1 hm no h0 h1 _ (hin.ext0 zxc))) ?_
    rintro vu14 wu14 ⟨eu14, fs, p14, A14, c14, rfl, hs14, hfs, hfl⟩
    have hzu14 := eu14.size
    refine Ox.pure rfl rfl (rp_lenS rfl rfl rfl) ?_
    refine Ox.pure rfl rfl zmv ?_
    refine Ox.fin ?_
    refine zbl ?_
    have hltm := hM.lt
    refine Sx.loop (ι := Nat) (fun j E wk => E = [(7, .pointer (some ⟨ba5, 0, none⟩)), (8, .slice p5 K.length c5), (10, .map (some gm)), (13, .map (some gq)), (73, .slice p14 fs.length c14), (74, .int .i64 (fs.length : Int)), (75, .int .i64 (j : Int))] ∧ j ≤ fs.length ∧ Ext [gq] wu14 wk ∧ MapL kvK evT wk gq (setL (setK ((fs.take j).map Fct.key)))) (fun j => fs.length - j) 0
      (sub_cons rfl (sub_cons rfl (sub_cons rfl (sub_cons rfl (sub_cons rfl (sub_cons rfl (sub_cons rfl sub_nil))))))) ⟨rfl, Nat.zero_le _, Ext.refl _ _, hMmq.ext0 zxc⟩ ?_
    rintro j E wk ⟨rfl, hj, ek, hMq⟩
    have hzk := ek.size
    have ek2 : Ext [] wr wk := Ext.renew zxc ek (by omega)
    have hs14k : SlV fc wk p14 A14 fs c14 ∨ True := .inr trivial
    by_cases hlt2 : j < fs.length
    · have hltq := hMmq.lt
      have hro : ∀ u, Ext [] wk u → Ld Try.prog u 64 (A14.add (j * 8)) (.agg (fc fs[j]).toArray) := fun u hu => by
        have h8 : A14.block ≠ gq := fun he => by
          obtain ⟨f0, ft, rfl⟩ : ∃ f0 ft, fs = f0 :: ft := by
            cases fs with
            | nil => exact absurd hlt2 (by simp)
            | cons x y => exact ⟨x, y, rfl⟩
          have h9 := hs14.row 0 (.int .i64 f0.key.k) rfl
          exact map_no_cell (hMmq.ext0 (w' := wu14) zxc) (by rw [addr_block]; exact he) h9
        exact ld_elem fc_len ((hs14.row.ext ek (by simpa using h8)).ext0 hu) hlt2 rfl rfl
      refine ztx ?_
      refine Ox.pure rfl rfl zbc ?_
      refine Ox.fin ?_
      refine zct ?_
      refine zsk ?_
      refine zbl ?_
      refine ztx ?_
      refine Ox.pure rfl rfl (rp_indexAddr j rfl rfl rfl rfl rfl hs14.ptr rfl hlt2) ?_
      refine Ox.val rfl rfl (rv_load rfl rfl (fun u hu => hro u zxc)) ?_
      refine Ox.act rfl rfl (acts_alloc rfl rfl) ?_
      rintro vx16 wx16 ⟨ex16, bx16, rfl, hbx16, hBx16⟩
      first | (have hCx16 : Cells wx16 ⟨bx16, 0, none⟩ [_, _, _, _, _, _, _, _] := hBx16.cells) | have hCx16 := Blk.cellsL hBx16
      have hlx16 := hBx16.lt
      have hzx16 := ex16.size
      refine Ox.act rfl rfl (acts_store_all rfl rfl rfl hBx16 rfl (by first | rfl | assumption) (by first | rfl | assumption) (by (first | assumption | exact List.all_eq_true.mp rfl | simp [Value.cells, Value.oneCell']))) ?_
      rintro vy16 wy16 ⟨rfl, qy16, hBy16⟩
      have ey16 := Ext.renew ex16 qy16 hbx16
      have hzy16 := ey16.size
      have hly16 := hBy16.lt
      first | (have hCy16 : Cells wy16 ⟨bx16, 0, none⟩ [_, _, _, _, _, _, _, _] := hBy16.cells) | have hCy16 := Blk.cellsL hBy16
      refine Ox.fin ?_
      refine ztx ?_
      refine Ox.pure rfl rfl zmv ?_
      refine Ox.pure rfl rfl zfa ?_
      refine Ox.val rfl rfl zra ?_
      refine Ox.act rfl rfl (acts_mapUpdate fs[j].key () rfl rfl keyKy rfl rfl rfl (hMq.ext0 zxc)) ?_
      rintro vu17 wu17 ⟨rfl, qu17, hMu17⟩
      refine Ox.fin ?_
      refine ztx ?_
      refine Ox.pure rfl rfl zba ?_
      refine Ox.pure rfl rfl zmv ?_
      refine Ox.fin ?_
      exact ⟨j + 1, _, sub_cons rfl (sub_cons rfl (sub_cons rfl (sub_cons rfl (sub_cons rfl (sub_cons rfl (sub_cons rfl sub_nil)))))), ⟨rfl, hlt2, ek.trans ((Ext.up zxc).trans qu17), setK_take hlt2 ▸ hMu17⟩, by omega⟩
    rw [List.take_of_length_le (by omega), hfs] at hMq
    obtain ⟨m2, hm2⟩ : ∃ m2, m2 = setK (freshK s.br no.toNat) := ⟨_, rfl⟩
    rw [← hm2] at hMq
    have hmem2 : ∀ k, k ∈ m2 ↔ k ∈ freshK s.br no.toNat := fun k => by rw [hm2]; exact (setK_spec _).2 k
    refine ztx ?_
    refine Ox.pure rfl rfl zbc ?_
    refine Ox.fin ?_
    refine zcf ?_
    refine zex ?_
    refine ztx ?_
    refine Ox.pure rfl rfl zmv ?_
    refine Ox.pure rfl rfl (rp_lenS rfl rfl rfl) ?_
    refine Ox.pure rfl rfl zmv ?_
    refine Ox.fin ?_
    refine zbl ?_
    refine Sx.loop (ι := Nat) (fun j E wl => E = [(7, .pointer (some ⟨ba5, 0, none⟩)), (8, .slice p5 K.length c5), (10, .map (some gm)), (13, .map (some gq)), (83, .slice p5 K.length c5), (84, .int .i64 (K.length : Int)), (85, .int .i64 (j : Int))] ∧ j ≤ K.length ∧ Ext [] wk wl) (fun j => K.length - j) 0
      (sub_cons rfl (sub_cons rfl (sub_cons rfl (sub_cons rfl (sub_cons rfl (sub_cons rfl (sub_cons rfl sub_nil))))))) ⟨rfl, Nat.zero_le _, zxc⟩ ?_
    rintro j E wl ⟨rfl, hj, el⟩
    have hzl := el.size
    by_cases hlt3 : j < K.length
    · have hin1 : K[j] ∈ m := (hmem _).2 ((hKm K[j]).1 (List.getElem_mem hlt3)).1
      have hin2 : K[j] ∈ m2 := (hmem2 _).2 ((hKm K[j]).1 (List.getElem_mem hlt3)).2
      rcases Nat.eq_zero_or_pos j with hj0 | hj0
      · refine ztx ?_
        refine Ox.pure rfl rfl zbc ?_
        refine Ox.fin ?_
        refine zct ?_
        refine zsk ?_
        refine zbl ?_
        refine ztx ?_
        refine Ox.pure rfl rfl zmv ?_
        refine Ox.pure rfl rfl (rp_indexAddr j rfl rfl rfl rfl rfl hk5.ptr rfl hlt3) ?_
        refine Ox.val rfl rfl (rv_load rfl rfl (fun u hu => ld_elem kc_len (hk5.row.ext0 zxc) hlt3 rfl rfl)) ?_
        refine Ox.act rfl rfl (acts_alloc rfl rfl) ?_
        rintro vx21 wx21 ⟨ex21, bx21, rfl, hbx21, hBx21⟩
        first | (have hCx21 : Cells wx21 ⟨bx21, 0, none⟩ [_, _, _] := hBx21.cells) | have hCx21 := Blk.cellsL hBx21
        have hlx21 := hBx21.lt
        have hzx21 := ex21.size
        refine Ox.pure rfl rfl zas ?_
        refine Ox.act rfl rfl (acts_store_all rfl rfl rfl hBx21 rfl (by first | rfl | assumption) (by first | rfl | assumption) (by (first | assumption | exact List.all_eq_true.mp rfl | simp [Value.cells, Value.oneCell']))) ?_
        rintro vy21 wy21 ⟨rfl, qy21, hBy21⟩
        have ey21 := Ext.renew ex21 qy21 hbx21
        have hzy21 := ey21.size
        have hly21 := hBy21.lt
        first | (have hCy21 : Cells wy21 ⟨bx21, 0, none⟩ [_, _, _] := hBy21.cells) | have hCy21 := Blk.cellsL hBy21
        refine Ox.fin ?_
        (repeat refine Sx.seq ?_)
        refine Sx.walkR rfl (fun _ _ _ _ h => h) [0, 1, 2, 3, 4, 5, 6, 7, 8, 9, 10, 11, 12, 13, 14, 15, 16, 17, 18, 19, 20, 21, 22, 23] [0, 1, 2, 3, 4, 5, 6, 7, 8, 9, 10, 11, 12, 13, 14, 15, 16, 17, 18, 19, 21, 22, 23] (0) (by kernel_rfl) ?_
        intro hq w9 e9; have hz9 := e9.size
        refine Wx.pure hq rfl rfl rfl rfl zmv ?_
        refine Wx.val hq rfl rfl rfl rfl ([]) zra ?_
        refine Wx.val hq rfl rfl rfl rfl ([]) (in_t hin1 (rv_in K[j] rfl rfl keyKy rfl rfl rfl (fun u hu => hM.ext0 zxc))) ?_
        refine Wx.pure hq rfl rfl rfl rfl (rp_not rfl rfl) ?_
        refine Wx.pure hq rfl rfl rfl rfl zmv ?_
        first | (refine Wx.skip hq rfl rfl rfl rfl ?_) | (refine Wx.pure hq rfl rfl rfl rfl zmv ?_)
        first | (refine Wx.skip hq rfl rfl rfl rfl ?_) | (refine Wx.val hq rfl rfl rfl rfl ([]) zra ?_)
        first | (refine Wx.skip hq rfl rfl rfl rfl ?_) | (refine Wx.val hq rfl rfl rfl rfl ([]) (in_t hin2 (rv_in K[j] rfl rfl keyKy rfl rfl rfl (fun u hu => hMq.ext0 zxc))) ?_)
        first | (refine Wx.skip hq rfl rfl rfl rfl ?_) | (refine Wx.pure hq rfl rfl rfl rfl (rp_not rfl rfl) ?_)
        refine Wx.pure hq rfl rfl rfl rfl zpk ?_
        refine Wx.pure hq rfl rfl rfl rfl zmv ?_
        first | (refine Wx.skip hq rfl rfl rfl rfl ?_) | (refine Wx.pure hq rfl rfl rfl rfl zmv ?_)
        first | (refine Wx.skip hq rfl rfl rfl rfl ?_) | (refine Wx.pure hq rfl rfl rfl rfl zbc ?_)
        first | (refine Wx.skip hq rfl rfl rfl rfl ?_) | (refine Wx.pure hq rfl rfl rfl rfl zmv ?_)
        first | (refine Wx.skip hq rfl rfl rfl rfl ?_) | (refine Wx.pure hq rfl rfl rfl rfl zmv ?_)
        first | (refine Wx.skip hq rfl rfl rfl rfl ?_) | (refine Wx.pure hq rfl rfl rfl rfl zmv ?_)
        first | (refine Wx.skip hq rfl rfl rfl rfl ?_) | (refine Wx.pure hq rfl rfl rfl rfl zbs ?_)
        first | (refine Wx.skip hq rfl rfl rfl rfl ?_) | (refine Wx.pure hq rfl rfl rfl rfl (rp_indexAddr (j - 1) rfl rfl rfl rfl rfl hk5.ptr (by omega) (by omega)) ?_)
        first | (refine Wx.skip hq rfl rfl rfl rfl ?_) | (refine Wx.val hq rfl rfl rfl rfl ([]) (rv_load rfl rfl (fun u hu => hLk1 u zxc)) ?_)
        first | (refine Wx.skip hq rfl rfl rfl rfl ?_) | (refine Wx.val hq rfl rfl rfl rfl ([]) zra ?_)
        first | (refine Wx.actSkip rfl rfl rfl rfl ?_) | (refine Wx.actNew rfl rfl rfl rfl (acts_call rfl rfl rfl (ref_LessKey (K[j - 1]'(by omega)) K[j] _)) ?_; rintro v10 w10 e10 rfl; have hz10 := e10.size; rw [decide_eq_true (List.pairwise_iff_getElem.1 hKp (j - 1) j (by omega) hlt3 (by omega))])
        first | (refine Wx.skip hq rfl rfl rfl rfl ?_) | (refine Wx.pure hq rfl rfl rfl rfl (rp_not rfl rfl) ?_)
        first | (refine Wx.skip hq rfl rfl rfl rfl ?_) | (refine Wx.pure hq rfl rfl rfl rfl zpk ?_)
        refine Wx.pure hq rfl rfl rfl rfl zpk ?_
        refine Wx.fin ?_
        refine zcf ?_
        refine zsk ?_
        refine ztx ?_
        refine Ox.pure rfl rfl zba ?_
        refine Ox.pure rfl rfl zmv ?_
        refine Ox.fin ?_
        exact ⟨j + 1, _, sub_cons rfl (sub_cons rfl (sub_cons rfl (sub_cons rfl (sub_cons rfl (sub_cons rfl (sub_cons rfl sub_nil)))))), ⟨rfl, hlt3, zxc⟩, by omega⟩
      · have hj1 : j - 1 < K.length := by omega
        have hLk1 : ∀ u, Ext [] wu5 u → Ld Try.prog u 38 (A5.add ((j - 1) * 3)) (.agg (kc K[j - 1]).toArray) := fun u hu => ld_elem kc_len (hk5.row.ext0 hu) hj1 rfl rfl
        refine ztx ?_
        refine Ox.pure rfl rfl zbc ?_
        refine Ox.fin ?_
        refine zct ?_
        refine zsk ?_
        refine zbl ?_
        refine ztx ?_
        refine Ox.pure rfl rfl zmv ?_
        refine Ox.pure rfl rfl (rp_indexAddr j rfl rfl rfl rfl rfl hk5.ptr rfl hlt3) ?_
        refine Ox.val rfl rfl (rv_load rfl rfl (fun u hu => ld_elem kc_len (hk5.row.ext0 zxc) hlt3 rfl rfl)) ?_
        refine Ox.act rfl rfl (acts_alloc rfl rfl) ?_
        rintro vx21 wx21 ⟨ex21, bx21, rfl, hbx21, hBx21⟩
        first | (have hCx21 : Cells wx21 ⟨bx21, 0, none⟩ [_, _, _] := hBx21.cells) | have hCx21 := Blk.cellsL hBx21
        have hlx21 := hBx21.lt
        have hzx21 := ex21.size
        refine Ox.pure rfl rfl zas ?_
        refine Ox.act rfl rfl (acts_store_all rfl rfl rfl hBx21 rfl (by first | rfl | assumption) (by first | rfl | assumption) (by (first | assumption | exact List.all_eq_true.mp rfl | simp [Value.cells, Value.oneCell']))) ?_
        rintro vy21 wy21 ⟨rfl, qy21, hBy21⟩
        have ey21 := Ext.renew ex21 qy21 hbx21
        have hzy21 := ey21.size
        have hly21 := hBy21.lt
        first | (have hCy21 : Cells wy21 ⟨bx21, 0, none⟩ [_, _, _] := hBy21.cells) | have hCy21 := Blk.cellsL hBy21
        refine Ox.fin ?_
        (repeat refine Sx.seq ?_)
        refine Sx.walkR rfl (fun _ _ _ _ h => h) [0, 1, 2, 3, 4, 5, 6, 7, 8, 9, 10, 11, 12, 13, 14, 15, 16, 17, 18, 19, 20, 21, 22, 23] [0, 1, 2, 3, 4, 5, 6, 7, 8, 9, 10, 11, 12, 13, 14, 15, 16, 17, 18, 19, 21, 22, 23] (0) (by kernel_rfl) ?_
        intro hq w11 e11; have hz11 := e11.size
        refine Wx.pure hq rfl rfl rfl rfl zmv ?_
        refine Wx.val hq rfl rfl rfl rfl ([]) zra ?_
        refine Wx.val hq rfl rfl rfl rfl ([]) (in_t hin1 (rv_in K[j] rfl rfl keyKy rfl rfl rfl (fun u hu => hM.ext0 zxc))) ?_
        refine Wx.pure hq rfl rfl rfl rfl (rp_not rfl rfl) ?_
        refine Wx.pure hq rfl rfl rfl rfl zmv ?_
        first | (refine Wx.skip hq rfl rfl rfl rfl ?_) | (refine Wx.pure hq rfl rfl rfl rfl zmv ?_)
        first | (refine Wx.skip hq rfl rfl rfl rfl ?_) | (refine Wx.val hq rfl rfl rfl rfl ([]) zra ?_)
        first | (refine Wx.skip hq rfl rfl rfl rfl ?_) | (refine Wx.val hq rfl rfl rfl rfl ([]) (in_t hin2 (rv_in K[j] rfl rfl keyKy rfl rfl rfl (fun u hu => hMq.ext0 zxc))) ?_)
        first | (refine Wx.skip hq rfl rfl rfl rfl ?_) | (refine Wx.pure hq rfl rfl rfl rfl (rp_not rfl rfl) ?_)
        refine Wx.pure hq rfl rfl rfl rfl zpk ?_
        refine Wx.pure hq rfl rfl rfl rfl zmv ?_
        first | (refine Wx.skip hq rfl rfl rfl rfl ?_) | (refine Wx.pure hq rfl rfl rfl rfl zmv ?_)
        first | (refine Wx.skip hq rfl rfl rfl rfl ?_) | (refine Wx.pure hq rfl rfl rfl rfl zbc ?_)
        first | (refine Wx.skip hq rfl rfl rfl rfl ?_) | (refine Wx.pure hq rfl rfl rfl rfl zmv ?_)
        first | (refine Wx.skip hq rfl rfl rfl rfl ?_) | (refine Wx.pure hq rfl rfl rfl rfl zmv ?_)
        first | (refine Wx.skip hq rfl rfl rfl rfl ?_) | (refine Wx.pure hq rfl rfl rfl rfl zmv ?_)
        first | (refine Wx.skip hq rfl rfl rfl rfl ?_) | (refine Wx.pure hq rfl rfl rfl rfl zbs ?_)
        first | (refine Wx.skip hq rfl rfl rfl rfl ?_) | (refine Wx.pure hq rfl rfl rfl rfl (rp_indexAddr (j - 1) rfl rfl rfl rfl rfl hk5.ptr (by omega) (by omega)) ?_)
        first | (refine Wx.skip hq rfl rfl rfl rfl ?_) | (refine Wx.val hq rfl rfl rfl rfl ([]) (rv_load rfl rfl (fun u hu => hLk1 u zxc)) ?_)
        first | (refine Wx.skip hq rfl rfl rfl rfl ?_) | (refine Wx.val hq rfl rfl rfl rfl ([]) zra ?_)
        first | (refine Wx.actSkip rfl rfl rfl rfl ?_) | (refine Wx.actNew rfl rfl rfl rfl (acts_call rfl rfl rfl (ref_LessKey (K[j - 1]'(by omega)) K[j] _)) ?_; rintro v12 w12 e12 rfl; have hz12 := e12.size; rw [decide_eq_true (List.pairwise_iff_getElem.1 hKp (j - 1) j (by omega) hlt3 (by omega))])
        first | (refine Wx.skip hq rfl rfl rfl rfl ?_) | (refine Wx.pure hq rfl rfl rfl rfl (rp_not rfl rfl) ?_)
        first | (refine Wx.skip hq rfl rfl rfl rfl ?_) | (refine Wx.pure hq rfl rfl rfl rfl zpk ?_)
        refine Wx.pure hq rfl rfl rfl rfl zpk ?_
        refine Wx.fin ?_
        refine zcf ?_
        refine zsk ?_
        refine ztx ?_
        refine Ox.pure rfl rfl zba ?_
        refine Ox.pure rfl rfl zmv ?_
        refine Ox.fin ?_
        exact ⟨j + 1, _, sub_cons rfl (sub_cons rfl (sub_cons rfl (sub_cons rfl (sub_cons rfl (sub_cons rfl (sub_cons rfl sub_nil)))))), ⟨rfl, hlt3, zxc⟩, by omega⟩
    have hCa := hCc5.ext0 (w' := wl) zxc
    refine ztx ?_
    refine Ox.pure rfl rfl zbc ?_
    refine Ox.fin ?_
    refine zcf ?_
    refine zex ?_
    refine ztx ?_
    refine Ox.pure rfl rfl zmv ?_
    refine Ox.pure rfl rfl (rp_lenS rfl rfl rfl) ?_
    refine Ox.pure rfl rfl zbc ?_
    refine Ox.pure rfl rfl zmv ?_
    first | (refine Ox.skip rfl rfl ?_) | (refine Ox.val rfl rfl zra ?_)
    first | (refine Ox.skip rfl rfl ?_) | (refine Ox.pure rfl rfl (rp_buildS (ps := []) rfl rfl rfl rfl rfl) ?_)
    first | (refine Ox.skip rfl rfl ?_) | (refine Ox.act rfl rfl (acts_call rfl rfl rfl (ref_SameB s5 Bs0 _ (hi5.ext0 zxc) (Bs0_in _))) ?_; rintro v13 w13 ⟨e13, rfl⟩; have hz13 := e13.size; rw [decide_eq_true hb5'])
    refine Ox.pure rfl rfl zpk ?_
    refine Ox.pure rfl rfl zas ?_
    refine Ox.fin ?_
    refine zrt ?_
    exact endE_ret [_] ⟨rfl, trivial⟩ ⟨zxc, rfl⟩
  by_cases hz5 : er5 = 0; rotate_left
  · obtain ⟨hf1, hf2⟩ := merge_fail (fun h => hz5 (her5.trans h)) (fun h => h541 (her5.trans h))
    have hKn : K = [] := hK.trans hf2
    have hb5' : s5.br = Bs0.br := hb5.trans hf1
    have hKl : K.length = 0 := by rw [hKn]; rfl
    have hCa := hCc5.ext0 (w' := wr) zxc
    refine ztx ?_
    refine Ox.pure rfl rfl zbc ?_
    refine Ox.fin ?_
    refine zcf ?_
    refine zex ?_
    refine ztx ?_
    refine Ox.pure rfl rfl zmv ?_
    refine Ox.pure rfl rfl zbc ?_
    refine Ox.fin ?_
    refine zcf ?_
    refine zsk ?_
    refine ztx ?_
    refine Ox.pure rfl rfl zmv ?_
    refine Ox.pure rfl rfl zbc ?_
    refine Ox.fin ?_
    refine zct ?_
    refine ztx ?_
    refine Ox.pure rfl rfl zmv ?_
    refine Ox.pure rfl rfl (rp_lenS rfl rfl rfl) ?_
    refine Ox.pure rfl rfl zbc ?_
    refine Ox.pure rfl rfl zmv ?_
    first | (refine Ox.skip rfl rfl ?_) | (refine Ox.val rfl rfl zra ?_)
    first | (refine Ox.skip rfl rfl ?_) | (refine Ox.pure rfl rfl (rp_buildS (ps := []) rfl rfl rfl rfl rfl) ?_)
    first | (refine Ox.skip rfl rfl ?_) | (refine Ox.act rfl rfl (acts_call rfl rfl rfl (ref_SameB s5 Bs0 _ (hi5.ext0 zxc) (Bs0_in _))) ?_; rintro v14 w14 ⟨e14, rfl⟩; have hz14 := e14.size; rw [decide_eq_true hb5'])
    refine Ox.pure rfl rfl zpk ?_
    refine Ox.pure rfl rfl zas ?_
    refine Ox.fin ?_
    refine zrt ?_
    exact endE_ret [_] ⟨rfl, trivial⟩ ⟨zxc, rfl⟩
  have hok : (mergeB s.br no).2.2 = 0 := her5.symm.trans hz5
  obtain ⟨hv, ho, hpo, hcf, hrec, hme⟩ := mergeB_ok hok
  have hbd := bd_merge (few_bd hfew) hok
  have hb5m : s5.br = mergedB s.br no.toNat := hb5.trans (by rw [hme])
  obtain ⟨hv5, hlen5, _⟩ := mergedB_keep hv ho hrec
  obtain ⟨hm5, hw5⟩ := small_of hb5 (hbd.small (by omega) (by rw [hme]; exact hv5))
  obtain ⟨v1, v2, v3, v4, v5⟩ := id hv.1
  obtain ⟨⟨g1, g2⟩, _⟩ := v5 no.toNat (by omega)
  have hip : no.toNat < s.par.length := by have : s.par.length = s.br.brs.length := v2; omega
  have hpl : s.par.length = s.bls.length := by have : s.par.length = s.br.brs.length := v2; omega
  have hd5 : s5.done = s.done.set no.toNat true := (congrArg Br.done hb5m).trans (merged_done _ _)
  have hdl : s.done.length = s.bls.length := by have : s.done.length = s.br.brs.length := v4; omega
  have hdl5 : s5.done.length = s.bls.length := by rw [hd5, List.length_set]; exact hdl
  have hLp : ∀ u, Ext [] W u → Ld Try.prog u 3 (s.A2.add (no.toNat * 1 + 0)) (.int .i64 (parB s.br no.toNat)) := fun u hu => by
    rw [parB_eq hip]; exact ld_field ic_len (hin.par.row.ext0 hu) hip 0 rfl (by decide) rfl
  have hLd : ∀ u, Ext [] wu5 u → Ld Try.prog u 4 (s5.A4.add (no.toNat * 1 + 0)) (.bool true) := fun u hu => by
    have h9 := ld_field (P := Try.prog) (t := 4) (i := no.toNat) boc_len (hi5.done.row.ext0 hu) (by omega) 0 rfl (by decide) rfl
    have h8 : s5.done[no.toNat]'(by omega) = true := by simp [hd5]
    rw [h8] at h9
    exact h9
  obtain ⟨B, hBf⟩ : ∃ B, B = (ofB s.br (parB s.br no.toNat)).1 := ⟨_, rfl⟩
  obtain ⟨O, hOf⟩ : ∃ O, O = (ofB s.br no).1 := ⟨_, rfl⟩
  obtain ⟨R, hRf⟩ : ∃ R, R = (recL (ofB s.br (parB s.br no.toNat)).1 (brB s.br no.toNat)).1 := ⟨_, rfl⟩
  have hf31 : factsB s.br (parB s.br no.toNat) = (B, 0) := by rw [hBf]; exact factsB_of' hv g1 (by omega)
  have hf32 : factsB s.br no = (O, 0) := by rw [hOf]; exact factsB_of' hv (by omega) (by omega)
  have hf33 : factsB s5.br (parB s.br no.toNat) = (R, 0) := by
    rw [hb5m, factsB_of' hv5 g1 (by rw [hlen5]; omega), merged_after hv ho hrec, hRf]
  have hf31a := congrArg Prod.fst hf31
  have hf31b := congrArg Prod.snd hf31
  dsimp only at hf31a hf31b
  have hf32a := congrArg Prod.fst hf32
  have hf32b := congrArg Prod.snd hf32
  dsimp only at hf32a hf32b
  have hf33a := congrArg Prod.fst hf33
  have hf33b := congrArg Prod.snd hf33
  dsimp only at hf33a hf33b
  have hchk : checkL R = 0 := by rw [hRf]; exact recL_check (ofB_check hv.2.1 _)
  have hRl : R.length = B.length + cs.length := by rw [hRf, hBf, ← hbe]; exact recL_len hrec
  have hBl : B.length ≤ 65000 := by rw [hBf]; exact of_few hv.1 hm _ (by omega)
  have hOl : O.length ≤ 65000 := by rw [hOf]; exact of_few hv.1 hm _ (by omega)
  have hcl : cs.length ≤ 1000 := by have := hm.brs no.toNat; rw [hbe] at this; exact this
  have hal := fun k => merged_alike hv ho hcf hrec (T := 16777217) (by omega) k 0 1024
  rw [← hRf, ← hBf, ← hOf] at hal
  refine ztx ?_
  refine Ox.pure rfl rfl zbc ?_
  refine Ox.fin ?_
  refine zcf ?_
  refine zex ?_
  refine ztx ?_
  refine Ox.pure rfl rfl zmv ?_
  refine Ox.pure rfl rfl zbc ?_
  refine Ox.fin ?_
  refine zcf ?_
  refine zsk ?_
  refine ztx ?_
  refine Ox.pure rfl rfl zmv ?_
  refine Ox.pure rfl rfl zbc ?_
  refine Ox.fin ?_
  refine zcf ?_
  refine zsk ?_
  refine ztx ?_
  refine Ox.pure rfl rfl zmv ?_
  refine Ox.pure rfl rfl zfa ?_
  refine Ox.val rfl rfl zrs ?_
  refine Ox.pure rfl rfl (rp_lenS rfl rfl rfl) ?_
  refine Ox.pure rfl rfl zbc ?_
  refine Ox.pure rfl rfl zmv ?_
  first | (refine Ox.skip rfl rfl ?_) | (refine Ox.pure rfl rfl zmv ?_)
  first | (refine Ox.skip rfl rfl ?_) | (refine Ox.pure rfl rfl zfa ?_)
  first | (refine Ox.skip rfl rfl ?_) | (refine Ox.val rfl rfl zrs ?_)
  first | (refine Ox.skip rfl rfl ?_) | (refine Ox.pure rfl rfl (rp_lenS rfl rfl rfl) ?_)
  first | (refine Ox.skip rfl rfl ?_) | (refine Ox.pure rfl rfl zbc ?_)
  refine Ox.pure rfl rfl zpk ?_
  refine Ox.pure rfl rfl zmv ?_
  first | (refine Ox.skip rfl rfl ?_) | (refine Ox.pure rfl rfl zfa ?_)
  first | (refine Ox.skip rfl rfl ?_) | (refine Ox.val rfl rfl zrs ?_)
  first | (refine Ox.skip rfl rfl ?_) | (refine Ox.pure rfl rfl zmv ?_)
  first | (refine Ox.skip rfl rfl ?_) | (refine Ox.pure rfl rfl (rp_indexAddr no.toNat rfl rfl rfl rfl rfl hi5.done.ptr (by omega) (by omega)) ?_)
  first | (refine Ox.skip rfl rfl ?_) | (refine Ox.val rfl rfl (rv_load rfl rfl (fun u hu => hLd u zxc)) ?_)
  first | (refine Ox.skip rfl rfl ?_) | (refine Ox.pure rfl rfl (rp_not rfl rfl) ?_)
  refine Ox.pure rfl rfl zpk ?_
  refine Ox.fin ?_
  refine zcf ?_
  refine zsk ?_
  refine ztx ?_
  refine Ox.pure rfl rfl zfa ?_
  refine Ox.val rfl rfl zrs ?_
  refine Ox.pure rfl rfl zmv ?_
  refine Ox.pure rfl rfl (rp_indexAddr no.toNat rfl rfl rfl rfl rfl hin.par.ptr (by omega) hip) ?_
  refine Ox.val rfl rfl (rv_load rfl rfl (fun u hu => hLp u zxc)) ?_
  refine Ox.pure rfl rfl zas ?_
  refine Ox.fin ?_
  refine ztx ?_
  refine Ox.val rfl rfl zra ?_
  refine Ox.pure rfl rfl zmv ?_
  refine Ox.act rfl rfl (acts_call rfl rfl rfl (facts_br s hm (parB s.br no.toNat) _ (hin.ext0 zxc))) ?_
  rintro v15 w15 ⟨e15, p31, A31, c31, rfl, hs31⟩
  have hz15 := e15.size
  rw [hf31a] at hs31; rw [hf31a, hf31b]
  refine Ox.pure rfl rfl zmv ?_
  refine Ox.pure rfl rfl (rp_extract rfl rfl rfl) ?_
  refine Ox.pure rfl rfl (rp_extract rfl rfl rfl) ?_
  refine Ox.pure rfl rfl zas ?_
  refine Ox.pure rfl rfl zas ?_
  refine Ox.fin ?_
  refine ztx ?_
  refine Ox.val rfl rfl zra ?_
  refine Ox.pure rfl rfl zmv ?_
  refine Ox.act rfl rfl (acts_call rfl rfl rfl (facts_br s hm no _ (hin.ext0 zxc))) ?_
  rintro v16 w16 ⟨e16, p32, A32, c32, rfl, hs32⟩
  have hz16 := e16.size
  rw [hf32a] at hs32; rw [hf32a, hf32b]
  refine Ox.pure rfl rfl zmv ?_
  refine Ox.pure rfl rfl (rp_extract rfl rfl rfl) ?_
  refine Ox.pure rfl rfl (rp_extract rfl rfl rfl) ?_
  refine Ox.pure rfl rfl zas ?_
  refine Ox.pure rfl rfl zas ?_
  refine Ox.fin ?_
  refine ztx ?_
  refine Ox.val rfl rfl zra ?_
  refine Ox.pure rfl rfl zmv ?_
  refine Ox.act rfl rfl (acts_call rfl rfl rfl (facts_br s5 hm5 (parB s.br no.toNat) _ (hi5.ext0 zxc))) ?_
  rintro v17 w17 ⟨e17, p33, A33, c33, rfl, hs33⟩
  have hz17 := e17.size
  rw [hf33a] at hs33; rw [hf33a, hf33b]
  refine Ox.pure rfl rfl zmv ?_
  refine Ox.pure rfl rfl (rp_extract rfl rfl rfl) ?_
  refine Ox.pure rfl rfl (rp_extract rfl rfl rfl) ?_
  refine Ox.pure rfl rfl zas ?_
  refine Ox.pure rfl rfl zas ?_
  refine Ox.fin ?_
  refine ztx ?_
  refine Ox.pure rfl rfl zmv ?_
  refine Ox.pure rfl rfl zbc ?_
  refine Ox.pure rfl rfl zmv ?_
  first | (refine Ox.skip rfl rfl ?_) | (refine Ox.pure rfl rfl zmv ?_)
  first | (refine Ox.skip rfl rfl ?_) | (refine Ox.pure rfl rfl zbc ?_)
  refine Ox.pure rfl rfl zpk ?_
  refine Ox.pure rfl rfl zmv ?_
  first | (refine Ox.skip rfl rfl ?_) | (refine Ox.pure rfl rfl zmv ?_)
  first | (refine Ox.skip rfl rfl ?_) | (refine Ox.pure rfl rfl zbc ?_)
  refine Ox.pure rfl rfl zpk ?_
  refine Ox.pure rfl rfl zmv ?_
  first | (refine Ox.skip rfl rfl ?_) | (refine Ox.pure rfl rfl zmv ?_)
  first | (refine Ox.skip rfl rfl ?_) | (refine Ox.act rfl rfl (acts_call rfl rfl rfl (check_at R p33 A33 c33 _ (hs33.ext0 zxc))) ?_; rintro vu34 wu34 ⟨eu34, rfl⟩; have hzu34 := eu34.size; rw [hchk])
  first | (refine Ox.skip rfl rfl ?_) | (refine Ox.pure rfl rfl zbc ?_)
  refine Ox.pure rfl rfl zpk ?_
  refine Ox.pure rfl rfl zmv ?_
  first | (refine Ox.skip rfl rfl ?_) | (refine Ox.pure rfl rfl zmv ?_)
  first | (refine Ox.skip rfl rfl ?_) | (refine Ox.pure rfl rfl (rp_lenS rfl rfl rfl) ?_)
  first | (refine Ox.skip rfl rfl ?_) | (refine Ox.pure rfl rfl zmv ?_)
  first | (refine Ox.skip rfl rfl ?_) | (refine Ox.pure rfl rfl (rp_lenS rfl rfl rfl) ?_)
  first | (refine Ox.skip rfl rfl ?_) | (refine Ox.pure rfl rfl zfa ?_)
  first | (refine Ox.skip rfl rfl ?_) | (refine Ox.val rfl rfl zrs ?_)
  first | (refine Ox.skip rfl rfl ?_) | (refine Ox.pure rfl rfl zmv ?_)
  first | (refine Ox.skip rfl rfl ?_) | (refine Ox.pure rfl rfl (rp_indexAddr no.toNat rfl rfl rfl rfl rfl hbp (by omega) hib) ?_)
  first | (refine Ox.skip rfl rfl ?_) | (refine Ox.val rfl rfl (rv_load rfl rfl (fun u hu => hLb u zxc)) ?_)
  first | (refine Ox.skip rfl rfl ?_) | (refine Ox.pure rfl rfl (rp_lenS rfl rfl rfl) ?_)
  first | (refine Ox.skip rfl rfl ?_) | (refine Ox.pure rfl rfl zba ?_)
  first | (refine Ox.skip rfl rfl ?_) | (refine Ox.pure rfl rfl zbc ?_)
  refine Ox.pure rfl rfl zpk ?_
  refine Ox.fin ?_
  refine zcf ?_
  refine zsk ?_
  refine ztx ?_
  refine Ox.val rfl rfl zra ?_
  refine Ox.act rfl rfl (acts_buildSlice (ps := [(0, .tmp 205)]) rfl rfl rfl rfl rfl rfl rfl rfl) ?_
  rintro vn36 wn36 ⟨en36, bn36, rfl, hbn36, hBn36⟩
  first | (have hCn36 : Cells wn36 ⟨bn36, 0, none⟩ [_, _, _] := hBn36.cells) | have hCn36 := Blk.cellsL hBn36
  have hln36 := hBn36.lt
  have hzn36 := en36.size
  refine Ox.act rfl rfl (acts_append (e := 38) (size := 3) (bytes := 24) rfl rfl rfl rfl (own_built (base := wu34.heap.size) (size := 3) (len := 1) hBn36 (by omega) rfl (by decide)) (source_slice (m := 0) (news := []) (p := none) (A := ⟨0, 0, none⟩) (c := 0) rfl rfl (fun h => absurd h (by decide)) (cells_nil _ _) (fun u hu => by cases hu)) (by first | omega | (dsimp only; omega)) (by first | omega | (dsimp only; omega)) (by omega)) ?_
  rintro va36 wa36 hga36
  have ea36 : Ext [] wu34 wa36 := hga36.ext0 zxc (fun g hg => by have h9 : bn36 = g := (by simpa [Value.ownBlock] using hg); omega)
  have hza36 := ea36.size
  refine Ox.pure rfl rfl zas ?_
  refine Ox.fin ?_
  refine ztx ?_
  refine Ox.act rfl rfl (acts_buildSlice (ps := []) rfl rfl rfl rfl rfl rfl rfl rfl) ?_
  rintro vn37 wn37 ⟨en37, bn37, rfl, hbn37, hBn37⟩
  first | (have hCn37 : Cells wn37 ⟨bn37, 0, none⟩ [] := hBn37.cells) | have hCn37 := Blk.cellsL hBn37
  have hln37 := hBn37.lt
  have hzn37 := en37.size
  refine Ox.pure rfl rfl zmv ?_
  refine Ox.act rfl rfl (acts_append_new (e := 64) (size := 8) (bytes := 64) (base := wa36.heap.size) rfl rfl rfl rfl (hBn37.ext (X := []) zxc (by simp)) ((hs31.ext0 zxc).src rfl fc_len fc_one) (by omega) (by omega) (by omega)) ?_
  rintro va37 wa37 ⟨ea37, hoa37, hra37⟩
  have hza37 := ea37.size
  have hza37 := ea37.size
  refine Ox.pure rfl rfl zmv ?_
  refine Ox.act rfl rfl (acts_append (e := 64) (size := 8) (bytes := 64) rfl rfl rfl rfl (hoa37) ((hs32.ext0 zxc).src rfl fc_len fc_one) (by first | omega | (dsimp only; omega)) (by first | omega | (dsimp only; omega)) (by omega)) ?_
  rintro vb37 wb37 hgb37
  have ho37 : wb37.ownsRow wa36.heap.size 64 8 vb37 (B ++ O).length (rowsV fc (B ++ O)) := by have h9 := hgb37.own; rw [List.length_append, rowsV_append]; exact h9
  obtain ⟨p37, c37, A37, rfl, hs37, _⟩ := SlV.of_own ho37 (by rw [List.length_append]; omega)
  have eb37 : Ext [] wa36 wb37 := hgb37.ext0 zxc (fun g hg => (own_lt hoa37 g (by simp [hg])).1)
  have hzb37 := eb37.size
  refine Ox.pure rfl rfl (rp_lenS rfl rfl rfl) ?_
  refine Ox.pure rfl rfl zmv ?_
  refine Ox.fin ?_
  refine zbl ?_
  obtain ⟨Z, hZ⟩ : ∃ Z, Z = B ++ O := ⟨_, rfl⟩
  rw [← hZ] at hs37 ho37
  have hZl : Z.length ≤ 130000 := by rw [hZ, List.length_append]; omega
  have hk0 : OwnK wu34.heap.size wb37 va36 (other :: (Z.take 0).map Fct.key) := by
    have h9 := hga36.own
    have h8 : wa36.ownsRow wu34.heap.size 38 3 va36 1 (kc other ++ []) := h9
    have h7 : OwnK wu34.heap.size wa36 va36 [other] := by unfold OwnK; rw [rowsV_one, ← List.append_nil (kc other)]; exact h8
    exact own_keep0 h7 zxc
  refine Sx.loop (ι := Nat × Value) (fun i E wk => E = [(10, .map (some gm)), (19, .slice p31 B.length c31), (21, .slice p32 O.length c32), (23, .slice p33 R.length c33), (25, i.2), (212, .slice p37 Z.length c37), (213, .int .i64 (Z.length : Int)), (214, .int .i64 (i.1 : Int))] ∧ i.1 ≤ Z.length ∧ OwnK wu34.heap.size wk i.2 (other :: (Z.take i.1).map Fct.key) ∧ Ext [] wu34 wk ∧ wk.ownsRow wa36.heap.size 64 8 (.slice p37 Z.length c37) Z.length (rowsV fc Z)) (fun i => Z.length - i.1) (0, va36)
    (by rw [hZ]; exact sub_cons rfl (sub_cons rfl (sub_cons rfl (sub_cons rfl (sub_cons rfl (sub_cons rfl (sub_cons rfl (sub_cons rfl sub_nil)))))))) ⟨rfl, Nat.zero_le _, hk0, zxc, ho37⟩ ?_
  rintro ⟨j, v⟩ E wk ⟨rfl, hj, hown, ek, hoZ⟩
  dsimp only at hj hown hoZ ⊢
  obtain ⟨A37, hs37⟩ := own_sl_at hoZ (by omega)
  have hzk := ek.size
  by_cases hlt : j < Z.length
  · have hkl : (other :: (Z.take j).map Fct.key).length = j + 1 := by simp; omega
    refine ztx ?_
    refine Ox.pure rfl rfl zbc ?_
    refine Ox.fin ?_
    refine zct ?_
    refine zsk ?_
    refine zbl ?_
    refine ztx ?_
    refine Ox.pure rfl rfl (rp_indexAddr j rfl rfl rfl rfl rfl hs37.ptr rfl hlt) ?_
    refine Ox.val rfl rfl (rv_load rfl rfl (fun u hu => ld_elem fc_len (hs37.row.ext0 zxc) hlt rfl rfl)) ?_
    refine Ox.act rfl rfl (acts_alloc rfl rfl) ?_
    rintro vx39 wx39 ⟨ex39, bx39, rfl, hbx39, hBx39⟩
    first | (have hCx39 : Cells wx39 ⟨bx39, 0, none⟩ [_, _, _, _, _, _, _, _] := hBx39.cells) | have hCx39 := Blk.cellsL hBx39
    have hlx39 := hBx39.lt
    have hzx39 := ex39.size
    refine Ox.act rfl rfl (acts_store_all rfl rfl rfl hBx39 rfl (by first | rfl | assumption) (by first | rfl | assumption) (by (first | assumption | exact List.all_eq_true.mp rfl | simp [Value.cells, Value.oneCell']))) ?_
    rintro vy39 wy39 ⟨rfl, qy39, hBy39⟩
    have ey39 := Ext.renew ex39 qy39 hbx39
    have hzy39 := ey39.size
    have hly39 := hBy39.lt
    first | (have hCy39 : Cells wy39 ⟨bx39, 0, none⟩ [_, _, _, _, _, _, _, _] := hBy39.cells) | have hCy39 := Blk.cellsL hBy39
    refine Ox.fin ?_
    refine ztx ?_
    refine Ox.pure rfl rfl zmv ?_
    refine Ox.pure rfl rfl zfa ?_
    refine Ox.val rfl rfl zra ?_
    refine Ox.act rfl rfl (acts_buildSlice (ps := [(0, .tmp 220)]) rfl rfl rfl rfl rfl rfl rfl rfl) ?_
    rintro vn40 wn40 ⟨en40, bn40, rfl, hbn40, hBn40⟩
    first | (have hCn40 : Cells wn40 ⟨bn40, 0, none⟩ [_, _, _] := hBn40.cells) | have hCn40 := Blk.cellsL hBn40
    have hln40 := hBn40.lt
    have hzn40 := en40.size
    refine Ox.act rfl rfl (acts_append (e := 38) (size := 3) (bytes := 24) rfl rfl rfl rfl (own_keep0 hown zxc) (source_slice (m := 1) (news := kc Z[j].key) rfl rfl (fun _ => rfl) (hCn40.ext0 zxc) (kc_one _)) (by first | omega | (dsimp only; omega)) (by first | omega | (dsimp only; omega)) (by omega)) ?_
    rintro va40 wa40 hga40
    refine Ox.pure rfl rfl zas ?_
    refine Ox.fin ?_
    refine ztx ?_
    refine Ox.pure rfl rfl zba ?_
    refine Ox.pure rfl rfl zmv ?_
    refine Ox.fin ?_
    have hoZ' := own_keep (own_keep0 hoZ (w' := wn40) zxc) hga40.ext (fun g hg hm9 => own_apart (own_keep0 hoZ (w' := wn40) zxc) (own_keep0 hown (w' := wn40) zxc) (by decide) g hg (by simpa using hm9))
    refine ⟨(j + 1, va40), _, sub_cons rfl (sub_cons rfl (sub_cons rfl (sub_cons rfl (sub_cons rfl (sub_cons rfl (sub_cons rfl (sub_cons rfl sub_nil))))))), ⟨rfl, hlt, ?_, hga40.ext0 zxc (fun g hg => (own_lt hown g (by simp [hg])).1), hoZ'⟩, by dsimp only; omega⟩
    have h9 := hga40.own
    unfold OwnK
    rw [List.take_succ_eq_append_getElem hlt, List.map_append, ← List.cons_append, List.length_append, rowsV_append, List.map_singleton, rowsV_one]
    exact h9
  rw [List.take_of_length_le (by omega)] at hown
  obtain ⟨Q, hQ⟩ : ∃ Q, Q = other :: Z.map Fct.key := ⟨_, rfl⟩
  rw [← hQ] at hown
  have hQl : Q.length ≤ 130001 := by rw [hQ]; simp; omega
  obtain ⟨pk, ck, Ak, rfl, hsk, _⟩ := SlV.of_own hown (by omega)
  refine ztx ?_
  refine Ox.pure rfl rfl zbc ?_
  refine Ox.fin ?_
  refine zcf ?_
  refine zex ?_
  refine ztx ?_
  refine Ox.pure rfl rfl zmv ?_
  refine Ox.pure rfl rfl (rp_lenS rfl rfl rfl) ?_
  refine Ox.pure rfl rfl zmv ?_
  refine Ox.fin ?_
  refine zbl ?_
  refine Sx.loop (ι := Nat) (fun i E wl => E = [(10, .map (some gm)), (19, .slice p31 B.length c31), (21, .slice p32 O.length c32), (23, .slice p33 R.length c33), (224, .slice pk Q.length ck), (225, .int .i64 (Q.length : Int)), (226, .int .i64 (i : Int))] ∧ i ≤ Q.length ∧ Ext [] wk wl) (fun i => Q.length - i) 0
    (sub_cons rfl (sub_cons rfl (sub_cons rfl (sub_cons rfl (sub_cons rfl (sub_cons rfl (sub_cons rfl sub_nil))))))) ⟨rfl, Nat.zero_le _, zxc⟩ ?_
  rintro i E wl ⟨rfl, hi, el⟩
  have hzl := el.size
  by_cases hlt2 : i < Q.length
  · 
    by_cases hk9 : Q[i] ∈ m
    · refine ztx ?_
      refine Ox.pure rfl rfl zbc ?_
      refine Ox.fin ?_
      refine zct ?_
      refine zsk ?_
      refine zbl ?_
      refine ztx ?_
      refine Ox.pure rfl rfl (rp_indexAddr i rfl rfl rfl rfl rfl hsk.ptr rfl hlt2) ?_
      refine Ox.val rfl rfl (rv_load rfl rfl (fun u hu => ld_elem kc_len (hsk.row.ext0 zxc) hlt2 rfl rfl)) ?_
      refine Ox.act rfl rfl (acts_alloc rfl rfl) ?_
      rintro vx44 wx44 ⟨ex44, bx44, rfl, hbx44, hBx44⟩
      first | (have hCx44 : Cells wx44 ⟨bx44, 0, none⟩ [_, _, _] := hBx44.cells) | have hCx44 := Blk.cellsL hBx44
      have hlx44 := hBx44.lt
      have hzx44 := ex44.size
      refine Ox.act rfl rfl (acts_store_all rfl rfl rfl hBx44 rfl (by first | rfl | assumption) (by first | rfl | assumption) (by (first | assumption | exact List.all_eq_true.mp rfl | simp [Value.cells, Value.oneCell']))) ?_
      rintro vy44 wy44 ⟨rfl, qy44, hBy44⟩
      have ey44 := Ext.renew ex44 qy44 hbx44
      have hzy44 := ey44.size
      have hly44 := hBy44.lt
      first | (have hCy44 : Cells wy44 ⟨bx44, 0, none⟩ [_, _, _] := hBy44.cells) | have hCy44 := Blk.cellsL hBy44
      refine Ox.fin ?_
      refine ztx ?_
      refine Ox.pure rfl rfl zmv ?_
      refine Ox.val rfl rfl zra ?_
      refine Ox.val rfl rfl (by first | exact in_t hk9 (rv_in Q[i] rfl rfl keyKy rfl rfl rfl (fun u hu => hM.ext0 zxc)) | exact in_f hk9 (rv_in Q[i] rfl rfl keyKy rfl rfl rfl (fun u hu => hM.ext0 zxc))) ?_
      refine Ox.pure rfl rfl zmv ?_
      first | (refine Ox.skip rfl rfl ?_) | (refine Ox.pure rfl rfl zmv ?_)
      first | (refine Ox.skip rfl rfl ?_) | (refine Ox.pure rfl rfl zmv ?_)
      first | (refine Ox.skip rfl rfl ?_) | (refine Ox.val rfl rfl zra ?_)
      first | (refine Ox.skip rfl rfl ?_) | (refine Ox.act rfl rfl (acts_call rfl rfl rfl (alike_at R O Q[i] p33 p32 A33 A32 c33 c32 _ (hs33.ext0 zxc) (hs32.ext0 zxc))) ?_; rintro v18 w18 ⟨e18, rfl⟩; have hz18 := e18.size; rw [decide_eq_true ((hal Q[i]).1 ((hmem _).1 hk9))])
      first | (refine Ox.skip rfl rfl ?_) | (refine Ox.pure rfl rfl (rp_not rfl rfl) ?_)
      refine Ox.pure rfl rfl zpk ?_
      refine Ox.pure rfl rfl zmv ?_
      first | (refine Ox.skip rfl rfl ?_) | (refine Ox.pure rfl rfl zmv ?_)
      first | (refine Ox.skip rfl rfl ?_) | (refine Ox.val rfl rfl zra ?_)
      first | (refine Ox.skip rfl rfl ?_) | (refine Ox.val rfl rfl (by first | exact in_t hk9 (rv_in Q[i] rfl rfl keyKy rfl rfl rfl (fun u hu => hM.ext0 zxc)) | exact in_f hk9 (rv_in Q[i] rfl rfl keyKy rfl rfl rfl (fun u hu => hM.ext0 zxc))) ?_)
      first | (refine Ox.skip rfl rfl ?_) | (refine Ox.pure rfl rfl (rp_not rfl rfl) ?_)
      first | (refine Ox.skip rfl rfl ?_) | (refine Ox.pure rfl rfl zmv ?_)
      first | (refine Ox.skip rfl rfl ?_) | (refine Ox.pure rfl rfl zmv ?_)
      first | (refine Ox.skip rfl rfl ?_) | (refine Ox.pure rfl rfl zmv ?_)
      first | (refine Ox.skip rfl rfl ?_) | (refine Ox.val rfl rfl zra ?_)
      first | (refine Ox.skip rfl rfl ?_) | (refine Ox.act rfl rfl (acts_call rfl rfl rfl (alike_at R B Q[i] p33 p31 A33 A31 c33 c31 _ (hs33.ext0 zxc) (hs31.ext0 zxc))) ?_; rintro v19 w19 ⟨e19, rfl⟩; have hz19 := e19.size; rw [decide_eq_true ((hal Q[i]).2 (fun h => hk9 ((hmem _).2 h)))])
      first | (refine Ox.skip rfl rfl ?_) | (refine Ox.pure rfl rfl (rp_not rfl rfl) ?_)
      first | (refine Ox.skip rfl rfl ?_) | (refine Ox.pure rfl rfl zpk ?_)
      refine Ox.pure rfl rfl zpk ?_
      refine Ox.fin ?_
      refine zcf ?_
      refine zsk ?_
      refine ztx ?_
      refine Ox.pure rfl rfl zba ?_
      refine Ox.pure rfl rfl zmv ?_
      refine Ox.fin ?_
      exact ⟨i + 1, _, sub_cons rfl (sub_cons rfl (sub_cons rfl (sub_cons rfl (sub_cons rfl (sub_cons rfl (sub_cons rfl sub_nil)))))), ⟨rfl, hlt2, zxc⟩, by omega⟩
    · refine ztx ?_
      refine Ox.pure rfl rfl zbc ?_
      refine Ox.fin ?_
      refine zct ?_
      refine zsk ?_
      refine zbl ?_
      refine ztx ?_
      refine Ox.pure rfl rfl (rp_indexAddr i rfl rfl rfl rfl rfl hsk.ptr rfl hlt2) ?_
      refine Ox.val rfl rfl (rv_load rfl rfl (fun u hu => ld_elem kc_len (hsk.row.ext0 zxc) hlt2 rfl rfl)) ?_
      refine Ox.act rfl rfl (acts_alloc rfl rfl) ?_
      rintro vx44 wx44 ⟨ex44, bx44, rfl, hbx44, hBx44⟩
      first | (have hCx44 : Cells wx44 ⟨bx44, 0, none⟩ [_, _, _] := hBx44.cells) | have hCx44 := Blk.cellsL hBx44
      have hlx44 := hBx44.lt
      have hzx44 := ex44.size
      refine Ox.act rfl rfl (acts_store_all rfl rfl rfl hBx44 rfl (by first | rfl | assumption) (by first | rfl | assumption) (by (first | assumption | exact List.all_eq_true.mp rfl | simp [Value.cells, Value.oneCell']))) ?_
      rintro vy44 wy44 ⟨rfl, qy44, hBy44⟩
      have ey44 := Ext.renew ex44 qy44 hbx44
      have hzy44 := ey44.size
      have hly44 := hBy44.lt
      first | (have hCy44 : Cells wy44 ⟨bx44, 0, none⟩ [_, _, _] := hBy44.cells) | have hCy44 := Blk.cellsL hBy44
      refine Ox.fin ?_
      refine ztx ?_
      refine Ox.pure rfl rfl zmv ?_
      refine Ox.val rfl rfl zra ?_
      refine Ox.val rfl rfl (by first | exact in_t hk9 (rv_in Q[i] rfl rfl keyKy rfl rfl rfl (fun u hu => hM.ext0 zxc)) | exact in_f hk9 (rv_in Q[i] rfl rfl keyKy rfl rfl rfl (fun u hu => hM.ext0 zxc))) ?_
      refine Ox.pure rfl rfl zmv ?_
      first | (refine Ox.skip rfl rfl ?_) | (refine Ox.pure rfl rfl zmv ?_)
      first | (refine Ox.skip rfl rfl ?_) | (refine Ox.pure rfl rfl zmv ?_)
      first | (refine Ox.skip rfl rfl ?_) | (refine Ox.val rfl rfl zra ?_)
      first | (refine Ox.skip rfl rfl ?_) | (refine Ox.act rfl rfl (acts_call rfl rfl rfl (alike_at R O Q[i] p33 p32 A33 A32 c33 c32 _ (hs33.ext0 zxc) (hs32.ext0 zxc))) ?_; rintro v20 w20 ⟨e20, rfl⟩; have hz20 := e20.size; rw [decide_eq_true ((hal Q[i]).1 ((hmem _).1 hk9))])
      first | (refine Ox.skip rfl rfl ?_) | (refine Ox.pure rfl rfl (rp_not rfl rfl) ?_)
      refine Ox.pure rfl rfl zpk ?_
      refine Ox.pure rfl rfl zmv ?_
      first | (refine Ox.skip rfl rfl ?_) | (refine Ox.pure rfl rfl zmv ?_)
      first | (refine Ox.skip rfl rfl ?_) | (refine Ox.val rfl rfl zra ?_)
      first | (refine Ox.skip rfl rfl ?_) | (refine Ox.val rfl rfl (by first | exact in_t hk9 (rv_in Q[i] rfl rfl keyKy rfl rfl rfl (fun u hu => hM.ext0 zxc)) | exact in_f hk9 (rv_in Q[i] rfl rfl keyKy rfl rfl rfl (fun u hu => hM.ext0 zxc))) ?_)
      first | (refine Ox.skip rfl rfl ?_) | (refine Ox.pure rfl rfl (rp_not rfl rfl) ?_)
      first | (refine Ox.skip rfl rfl ?_) | (refine Ox.pure rfl rfl zmv ?_)
      first | (refine Ox.skip rfl rfl ?_) | (refine Ox.pure rfl rfl zmv ?_)
      first | (refine Ox.skip rfl rfl ?_) | (refine Ox.pure rfl rfl zmv ?_)
      first | (refine Ox.skip rfl rfl ?_) | (refine Ox.val rfl rfl zra ?_)
      first | (refine Ox.skip rfl rfl ?_) | (refine Ox.act rfl rfl (acts_call rfl rfl rfl (alike_at R B Q[i] p33 p31 A33 A31 c33 c31 _ (hs33.ext0 zxc) (hs31.ext0 zxc))) ?_; rintro v21 w21 ⟨e21, rfl⟩; have hz21 := e21.size; rw [decide_eq_true ((hal Q[i]).2 (fun h => hk9 ((hmem _).2 h)))])
      first | (refine Ox.skip rfl rfl ?_) | (refine Ox.pure rfl rfl (rp_not rfl rfl) ?_)
      first | (refine Ox.skip rfl rfl ?_) | (refine Ox.pure rfl rfl zpk ?_)
      refine Ox.pure rfl rfl zpk ?_
      refine Ox.fin ?_
      refine zcf ?_
      refine zsk ?_
      refine ztx ?_
      refine Ox.pure rfl rfl zba ?_
      refine Ox.pure rfl rfl zmv ?_
      refine Ox.fin ?_
      exact ⟨i + 1, _, sub_cons rfl (sub_cons rfl (sub_cons rfl (sub_cons rfl (sub_cons rfl (sub_cons rfl (sub_cons rfl sub_nil)))))), ⟨rfl, hlt2, zxc⟩, by omega⟩
  · refine ztx ?_
    refine Ox.pure rfl rfl zbc ?_
    refine Ox.fin ?_
    refine zcf ?_
    refine zex ?_
    refine ztx ?_
    refine Ox.pure rfl rfl zas ?_
    refine Ox.fin ?_
    refine zrt ?_
    exact endE_ret [_] ⟨rfl, trivial⟩ ⟨zxc, rfl⟩

open Go.ChangeShapes Go.WideShapes Go.ChangeAt Go.RowKit in
theorem lawContract (H : Type) (enc : TypeId × Value → H) (W : World) (base : Nat) (args : Array Value) (ds gs : List (DataW H)) (before : List MemPlace)
    (hval : ∀ (j : Nat) t v, Try.f8.params[j]? = some t → args[j]? = some v → Value.okWide Try.prog W .any base t v)
    (hW : DataW.Whole enc Try.prog Try.f8.params.toList Rows.branchesMergedSpec.vars false W args.toList ds gs before)
    (hw : (DataW.weightsEach Try.prog (Try.f8.params.toList ++ Rows.branchesMergedSpec.plain.varTypes Try.prog) (ds ++ gs)).all (· ≤ reachBytes) = true) :
    Calls Try.prog 8 args W fun e W' => ∃ v, e = .returned v ∧ Rows.branchesMergedSpec.post enc Try.prog Try.f8 false true false false W args v W' := by
  obtain ⟨p, q, hA, hV, rfl, hz, hn⟩ := id hW
  obtain ⟨rfl, rfl⟩ := trodVars_none hV
  have hA' : DataW.TrodAll enc Try.prog W 0 (fun _ => true) true [27, 3, 38] args.toList ds p := hA
  obtain ⟨v0, vs0, d0, ds0, p0, q0, hargs, rfl, rfl, h0, r0⟩ := trodAll_cons hA'
  obtain ⟨v1, vs1, d1, ds1, p1, q1, rfl, rfl, rfl, h1, r1⟩ := trodAll_cons r0
  obtain ⟨v2, vs2, d2, ds2, p2, q2, rfl, rfl, rfl, h2, r2⟩ := trodAll_cons r1
  obtain ⟨rfl, rfl, rfl⟩ := trodAll_nil r2
  obtain rfl : args = #[v0, v1, v2] := by cases args; simp_all
  have hw' : ∀ x ∈ DataW.weightsEach Try.prog [27, 3, 38] [d0, d1, d2], x ≤ reachBytes := by
    have hw2 : (DataW.weightsEach Try.prog [27, 3, 38] [d0, d1, d2]).all (· ≤ reachBytes) = true := hw
    simpa [List.all_eq_true] using hw2
  simp only [DataW.weightsEach, List.mem_append] at hw'
  obtain ⟨s, rfl, hin0⟩ := arg_bran h0 (fun x hx => hw' x (.inl hx))
  obtain ⟨no, rfl, _, _, hb1⟩ := open_int undI (hval 1 3 v1 rfl rfl) h1
  obtain ⟨other, hf2, rfl⟩ := arg_key h2
  refine (mergedLaw s no other W hin0).mono fun e W' he => ?_
  cases e with
  | returned r =>
    obtain ⟨hx, rfl⟩ := he
    exact ⟨_, rfl, post_true (by kernel_rfl) (by kernel_rfl) rfl hW rfl rfl rfl rfl rfl hx⟩
  | panicked c => exact he.elim
  | outgrown => exact he.elim

open Go.ChangeShapes Go.WideShapes Go.ChangeAt Go.RowKit in
set_option maxRecDepth 100000 in
theorem lifted (os : Os) (started : os.Started) (H : Type) (enc : TypeId × Value → H) :
    ReturnsInHanded {} Try.checked os 8 .any (Rows.branchesMergedSpec.pre6 enc Try.prog Try.f8 [] false) (Rows.branchesMergedSpec.post enc Try.prog Try.f8 false true false false) := by
  refine returnsInHanded_of_change_sized (C := Try.checked) (by kernel_rfl) started (by kernel_rfl) Try.func8
    (ChangeSpec.witness6 (enc := enc) (C := Try.checked) (s := Rows.branchesMergedSpec) false ⟨#[], #[.agg #[.slice none 0 0, .slice none 0 0, .slice none 0 0, .slice none 0 0, .slice none 0 0], .int .i64 0, .agg #[.int .i64 0, .int .i64 0, .int .i64 0]], []⟩ 8 (by kernel_rfl) (by kernel_rfl) (by kernel_rfl) (by kernel_rfl)) ?_
  intro W base args ds gs before hval hW _ hw _
  exact lawContract H enc W base args ds gs before hval hW hw

theorem over : Rows.branchesMergedRow.holds Try.pinned (OpenSpec.ofChange Rows.branchesMergedSpec) :=
  OpenClaim.holds_of_wide 8 Try.f8 rfl rfl rfl rfl rfl rfl rfl ⟨rfl, rfl, rfl, rfl, rfl⟩ rfl rfl rfl rfl rfl (by kernel_rfl) Try.func8 (by kernel_rfl)
    (of_decide_eq_true (by kernel_rfl)) (by unfold Func.isWrapper; first | (rw [if_pos (by decide +kernel)]; kernel_rfl) | (rw [if_neg (by decide +kernel)]; exact ⟨rfl, rfl⟩))
    (fun os started H enc _ => lifted os started H enc)

theorem proved : Rows.BranchesMergedSaid := over

end Go.Proofs.Ytfgckcochilpkaa
