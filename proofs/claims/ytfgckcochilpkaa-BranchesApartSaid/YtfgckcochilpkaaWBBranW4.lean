/- The law BranchesApart: what is done with other branches does not change the facts of a branch: for every branching, number and moves, no condition. -/
import Derived.Test.YtfgckcochilpkaaRows
import Derived.Test.YtfgckcochilpkaaWBP8
set_option linter.unusedVariables false
set_option maxRecDepth 100000
set_option maxHeartbeats 4000000
set_option linter.unusedSimpArgs false
namespace Go.Proofs.Ytfgckcochilpkaa
open Go Go.Eng

theorem factsB_ok {b : Br} {no : Int} (h : (factsB b no).2 = 0) : ValidB b ∧ -1 ≤ no ∧ no < (b.brs.length : Int) ∧ factsB b no = ofB b no := by
  unfold factsB at h ⊢
  by_cases hv : ValidB b
  · rw [if_neg (fun h => h hv)] at h ⊢
    by_cases hr : no < -1 ∨ (b.brs.length : Int) ≤ no
    · rw [if_pos hr] at h; exact absurd h (by decide)
    · rw [if_neg hr]; exact ⟨hv, by omega, by omega, rfl⟩
  · rw [if_pos hv] at h; exact absurd h (by decide)
theorem factsB_of {b : Br} {no : Int} (hv : ValidB b) (h1 : -1 ≤ no) (h2 : no < (b.brs.length : Int)) : factsB b no = ofB b no := (if_neg (fun h => h hv)).trans (if_neg (by omega))
theorem apartLaw (s : Bs) (no : Int) (l : List Mv) (q : Option Addr) (Aq : Addr) (d : Nat) (W : World) (hin : BsIn s W) (hl : SlV mvc W q Aq l d) :
    Calls Try.prog 6 #[.agg (bvc s).toArray, .int .i64 no, .slice q l.length d] W (Ret fun r w' => Ext [] W w' ∧ r = .bool true) := by
  have hbl := br_len s
  have hf1 := hl.few
  refine calls_of_Sx (args := [.agg (bvc s).toArray, .int .i64 no, .slice q l.length d]) Try.func6 rfl rfl ?_
  by_cases hfew : FewB s.br; rotate_left
  · refine ztx ?_
    refine Ox.act rfl rfl (acts_box rfl rfl) ?_
    rintro vb3 wb3 ⟨eb3, bb3, rfl, hbb3, hBb3⟩
    first | (have hCb3 : Cells wb3 ⟨bb3, 0, none⟩ [_, _, _, _, _] := hBb3.cells) | have hCb3 := Blk.cellsL hBb3
    have hlb3 := hBb3.lt
    have hzb3 := eb3.size
    refine Ox.pure rfl rfl zas ?_
    refine Ox.fin ?_
    refine ztx ?_
    refine Ox.act rfl rfl (acts_call rfl rfl rfl (saneB_at _)) ?_
    rintro v1 w1 ⟨e1, rfl⟩
    have hz1 := e1.size
    refine Ox.pure rfl rfl (rp_not rfl rfl) ?_
    refine Ox.fin ?_
    refine zcf ?_
    refine zsk ?_
    refine ztx ?_
    refine Ox.val rfl rfl zra ?_
    refine Ox.act rfl rfl (acts_call rfl rfl rfl (ref_FewB s _ (hin.ext0 zxc))) ?_
    rintro v2 w2 ⟨e2, rfl⟩
    have hz2 := e2.size
    first | rw [decide_eq_true hfew] | rw [decide_eq_false hfew]
    refine Ox.pure rfl rfl (rp_not rfl rfl) ?_
    refine Ox.pure rfl rfl zmv ?_
    first | (refine Ox.skip rfl rfl ?_) | (refine Ox.pure rfl rfl zmv ?_)
    first | (refine Ox.skip rfl rfl ?_) | (refine Ox.pure rfl rfl (rp_lenS rfl rfl rfl) ?_)
    first | (refine Ox.skip rfl rfl ?_) | (refine Ox.pure rfl rfl zbc ?_)
    refine Ox.pure rfl rfl zpk ?_
    refine Ox.fin ?_
    refine zct ?_
    refine ztx ?_
    refine Ox.pure rfl rfl zas ?_
    refine Ox.fin ?_
    refine zrt ?_
    exact endE_ret [_] ⟨rfl, trivial⟩ ⟨zxc, rfl⟩
  by_cases h12 : l.length ≤ 12; rotate_left
  · refine ztx ?_
    refine Ox.act rfl rfl (acts_box rfl rfl) ?_
    rintro vb3 wb3 ⟨eb3, bb3, rfl, hbb3, hBb3⟩
    first | (have hCb3 : Cells wb3 ⟨bb3, 0, none⟩ [_, _, _, _, _] := hBb3.cells) | have hCb3 := Blk.cellsL hBb3
    have hlb3 := hBb3.lt
    have hzb3 := eb3.size
    refine Ox.pure rfl rfl zas ?_
    refine Ox.fin ?_
    refine ztx ?_
    refine Ox.act rfl rfl (acts_call rfl rfl rfl (saneB_at _)) ?_
    rintro v3 w3 ⟨e3, rfl⟩
    have hz3 := e3.size
    refine Ox.pure rfl rfl (rp_not rfl rfl) ?_
    refine Ox.fin ?_
    refine zcf ?_
    refine zsk ?_
    refine ztx ?_
    refine Ox.val rfl rfl zra ?_
    refine Ox.act rfl rfl (acts_call rfl rfl rfl (ref_FewB s _ (hin.ext0 zxc))) ?_
    rintro v4 w4 ⟨e4, rfl⟩
    have hz4 := e4.size
    first | rw [decide_eq_true hfew] | rw [decide_eq_false hfew]
    refine Ox.pure rfl rfl (rp_not rfl rfl) ?_
    refine Ox.pure rfl rfl zmv ?_
    first | (refine Ox.skip rfl rfl ?_) | (refine Ox.pure rfl rfl zmv ?_)
    first | (refine Ox.skip rfl rfl ?_) | (refine Ox.pure rfl rfl (rp_lenS rfl rfl rfl) ?_)
    first | (refine Ox.skip rfl rfl ?_) | (refine Ox.pure rfl rfl zbc ?_)
    refine Ox.pure rfl rfl zpk ?_
    refine Ox.fin ?_
    refine zct ?_
    refine ztx ?_
    refine Ox.pure rfl rfl zas ?_
    refine Ox.fin ?_
    refine zrt ?_
    exact endE_ret [_] ⟨rfl, trivial⟩ ⟨zxc, rfl⟩
  obtain ⟨hm, hw⟩ := small_of rfl (few_small hfew)
  by_cases hz0 : (factsB s.br no).2 = 0; rotate_left
  · refine ztx ?_
    refine Ox.act rfl rfl (acts_box rfl rfl) ?_
    rintro vb3 wb3 ⟨eb3, bb3, rfl, hbb3, hBb3⟩
    first | (have hCb3 : Cells wb3 ⟨bb3, 0, none⟩ [_, _, _, _, _] := hBb3.cells) | have hCb3 := Blk.cellsL hBb3
    have hlb3 := hBb3.lt
    have hzb3 := eb3.size
    refine Ox.pure rfl rfl zas ?_
    refine Ox.fin ?_
    refine ztx ?_
    refine Ox.act rfl rfl (acts_call rfl rfl rfl (saneB_at _)) ?_
    rintro v5 w5 ⟨e5, rfl⟩
    have hz5 := e5.size
    refine Ox.pure rfl rfl (rp_not rfl rfl) ?_
    refine Ox.fin ?_
    refine zcf ?_
    refine zsk ?_
    refine ztx ?_
    refine Ox.val rfl rfl zra ?_
    refine Ox.act rfl rfl (acts_call rfl rfl rfl (ref_FewB s _ (hin.ext0 zxc))) ?_
    rintro v6 w6 ⟨e6, rfl⟩
    have hz6 := e6.size
    first | rw [decide_eq_true hfew] | rw [decide_eq_false hfew]
    refine Ox.pure rfl rfl (rp_not rfl rfl) ?_
    refine Ox.pure rfl rfl zmv ?_
    first | (refine Ox.skip rfl rfl ?_) | (refine Ox.pure rfl rfl zmv ?_)
    first | (refine Ox.skip rfl rfl ?_) | (refine Ox.pure rfl rfl (rp_lenS rfl rfl rfl) ?_)
    first | (refine Ox.skip rfl rfl ?_) | (refine Ox.pure rfl rfl zbc ?_)
    refine Ox.pure rfl rfl zpk ?_
    refine Ox.fin ?_
    refine zcf ?_
    refine zsk ?_
    refine ztx ?_
    refine Ox.val rfl rfl zra ?_
    refine Ox.pure rfl rfl zmv ?_
    refine Ox.act rfl rfl (acts_call rfl rfl rfl (facts_br s hm no _ (hin.ext0 zxc))) ?_
    rintro vu5 wu5 ⟨eu5, p5, A5, c5, rfl, hs5⟩
    have hzu5 := eu5.size
    refine Ox.pure rfl rfl zmv ?_
    refine Ox.pure rfl rfl (rp_extract rfl rfl rfl) ?_
    refine Ox.pure rfl rfl (rp_extract rfl rfl rfl) ?_
    refine Ox.pure rfl rfl zas ?_
    refine Ox.pure rfl rfl zas ?_
    refine Ox.fin ?_
    refine ztx ?_
    refine Ox.pure rfl rfl zmv ?_
    refine Ox.pure rfl rfl zbc ?_
    refine Ox.pure rfl rfl zmv ?_
    first | (refine Ox.skip rfl rfl ?_) | (refine Ox.pure rfl rfl zmv ?_)
    first | (refine Ox.skip rfl rfl ?_) | (refine Ox.pure rfl rfl zbc ?_)
    refine Ox.pure rfl rfl zpk ?_
    refine Ox.fin ?_
    refine zct ?_
    refine ztx ?_
    refine Ox.pure rfl rfl zas ?_
    refine Ox.fin ?_
    refine zrt ?_
    exact endE_ret [_] ⟨rfl, trivial⟩ ⟨zxc, rfl⟩
  by_cases h0 : 0 ≤ no; rotate_left
  · refine ztx ?_
    refine Ox.act rfl rfl (acts_box rfl rfl) ?_
    rintro vb3 wb3 ⟨eb3, bb3, rfl, hbb3, hBb3⟩
    first | (have hCb3 : Cells wb3 ⟨bb3, 0, none⟩ [_, _, _, _, _] := hBb3.cells) | have hCb3 := Blk.cellsL hBb3
    have hlb3 := hBb3.lt
    have hzb3 := eb3.size
    refine Ox.pure rfl rfl zas ?_
    refine Ox.fin ?_
    refine ztx ?_
    refine Ox.act rfl rfl (acts_call rfl rfl rfl (saneB_at _)) ?_
    rintro v7 w7 ⟨e7, rfl⟩
    have hz7 := e7.size
    refine Ox.pure rfl rfl (rp_not rfl rfl) ?_
    refine Ox.fin ?_
    refine zcf ?_
    refine zsk ?_
    refine ztx ?_
    refine Ox.val rfl rfl zra ?_
    refine Ox.act rfl rfl (acts_call rfl rfl rfl (ref_FewB s _ (hin.ext0 zxc))) ?_
    rintro v8 w8 ⟨e8, rfl⟩
    have hz8 := e8.size
    first | rw [decide_eq_true hfew] | rw [decide_eq_false hfew]
    refine Ox.pure rfl rfl (rp_not rfl rfl) ?_
    refine Ox.pure rfl rfl zmv ?_
    first | (refine Ox.skip rfl rfl ?_) | (refine Ox.pure rfl rfl zmv ?_)
    first | (refine Ox.skip rfl rfl ?_) | (refine Ox.pure rfl rfl (rp_lenS rfl rfl rfl) ?_)
    first | (refine Ox.skip rfl rfl ?_) | (refine Ox.pure rfl rfl zbc ?_)
    refine Ox.pure rfl rfl zpk ?_
    refine Ox.fin ?_
    refine zcf ?_
    refine zsk ?_
    refine ztx ?_
    refine Ox.val rfl rfl zra ?_
    refine Ox.pure rfl rfl zmv ?_
    refine Ox.act rfl rfl (acts_call rfl rfl rfl (facts_br s hm no _ (hin.ext0 zxc))) ?_
    rintro vu5 wu5 ⟨eu5, p5, A5, c5, rfl, hs5⟩
    have hzu5 := eu5.size
    refine Ox.pure rfl rfl zmv ?_
    refine Ox.pure rfl rfl (rp_extract rfl rfl rfl) ?_
    refine Ox.pure rfl rfl (rp_extract rfl rfl rfl) ?_
    refine Ox.pure rfl rfl zas ?_
    refine Ox.pure rfl rfl zas ?_
    refine Ox.fin ?_
    refine ztx ?_
    refine Ox.pure rfl rfl zmv ?_
    refine Ox.pure rfl rfl zbc ?_
    refine Ox.pure rfl rfl zmv ?_
    first | (refine Ox.skip rfl rfl ?_) | (refine Ox.pure rfl rfl zmv ?_)
    first | (refine Ox.skip rfl rfl ?_) | (refine Ox.pure rfl rfl zbc ?_)
    refine Ox.pure rfl rfl zpk ?_
    refine Ox.fin ?_
    refine zct ?_
    refine ztx ?_
    refine Ox.pure rfl rfl zas ?_
    refine Ox.fin ?_
    refine zrt ?_
    exact endE_ret [_] ⟨rfl, trivial⟩ ⟨zxc, rfl⟩
  obtain ⟨hv, hn1, hn2, hfe⟩ := factsB_ok hz0
  obtain ⟨L, hL⟩ : ∃ L, L = (factsB s.br no).1 := ⟨_, rfl⟩
  refine ztx ?_
  refine Ox.act rfl rfl (acts_box rfl rfl) ?_
  rintro vb3 wb3 ⟨eb3, bb3, rfl, hbb3, hBb3⟩
  first | (have hCb3 : Cells wb3 ⟨bb3, 0, none⟩ [_, _, _, _, _] := hBb3.cells) | have hCb3 := Blk.cellsL hBb3
  have hlb3 := hBb3.lt
  have hzb3 := eb3.size
  refine Ox.pure rfl rfl zas ?_
  refine Ox.fin ?_
  refine ztx ?_
  refine Ox.act rfl rfl (acts_call rfl rfl rfl (saneB_at _)) ?_
  rintro v9 w9 ⟨e9, rfl⟩
  have hz9 := e9.size
  refine Ox.pure rfl rfl (rp_not rfl rfl) ?_
  refine Ox.fin ?_
  refine zcf ?_
  refine zsk ?_
  refine ztx ?_
  refine Ox.val rfl rfl zra ?_
  refine Ox.act rfl rfl (acts_call rfl rfl rfl (ref_FewB s _ (hin.ext0 zxc))) ?_
  rintro v10 w10 ⟨e10, rfl⟩
  have hz10 := e10.size
  first | rw [decide_eq_true hfew] | rw [decide_eq_false hfew]
  refine Ox.pure rfl rfl (rp_not rfl rfl) ?_
  refine Ox.pure rfl rfl zmv ?_
  first | (refine Ox.skip rfl rfl ?_) | (refine Ox.pure rfl rfl zmv ?_)
  first | (refine Ox.skip rfl rfl ?_) | (refine Ox.pure rfl rfl (rp_lenS rfl rfl rfl) ?_)
  first | (refine Ox.skip rfl rfl ?_) | (refine Ox.pure rfl rfl zbc ?_)
  refine Ox.pure rfl rfl zpk ?_
  refine Ox.fin ?_
  refine zcf ?_
  refine zsk ?_
  refine ztx ?_
  refine Ox.val rfl rfl zra ?_
  refine Ox.pure rfl rfl zmv ?_
  refine Ox.act rfl rfl (acts_call rfl rfl rfl (facts_br s hm no _ (hin.ext0 zxc))) ?_
  rintro vu5 wu5 ⟨eu5, p5, A5, c5, rfl, hs5⟩
  have hzu5 := eu5.size
  refine Ox.pure rfl rfl zmv ?_
  refine Ox.pure rfl rfl (rp_extract rfl rfl rfl) ?_
  refine Ox.pure rfl rfl (rp_extract rfl rfl rfl) ?_
  refine Ox.pure rfl rfl zas ?_
  refine Ox.pure rfl rfl zas ?_
  refine Ox.fin ?_
  refine ztx ?_
  refine Ox.pure rfl rfl zmv ?_
  refine Ox.pure rfl rfl zbc ?_
  refine Ox.pure rfl rfl zmv ?_
  first | (refine Ox.skip rfl rfl ?_) | (refine Ox.pure rfl rfl zmv ?_)
  first | (refine Ox.skip rfl rfl ?_) | (refine Ox.pure rfl rfl zbc ?_)
  refine Ox.pure rfl rfl zpk ?_
  refine Ox.fin ?_
  refine zcf ?_
  refine zsk ?_
  refine ztx ?_
  refine Ox.pure rfl rfl zmv ?_
  refine Ox.pure rfl rfl (rp_lenS rfl rfl rfl) ?_
  refine Ox.pure rfl rfl zmv ?_
  refine Ox.fin ?_
  refine zbl ?_
  rw [← hL] at hs5
  have hoff : Off s bb3 := fun h => by have := bls_lt hin h; omega
  have hB0 : Blk wu5 bb3 27 (bvc s) := hBb3.ext (X := []) zxc (by simp)
  refine Sx.loop (ι := Nat × Bs) (fun i E wr => E = [(1, .int .i64 no), (3, .pointer (some ⟨bb3, 0, none⟩)), (7, .slice p5 L.length c5), (36, .slice q l.length d), (37, .int .i64 (l.length : Int)), (38, .int .i64 (i.1 : Int))] ∧ i.1 ≤ l.length ∧ Ext [] W wr ∧ Blk wr bb3 27 (bvc i.2) ∧ BsIn i.2 wr ∧ Off i.2 bb3 ∧ ValidB i.2.br ∧ Bd (54 + i.1) i.2.br ∧ no < (i.2.br.brs.length : Int) ∧ ofB i.2.br no = ofB s.br no ∧ SlV fc wr p5 A5 L c5) (fun i => l.length - i.1) (0, s)
    (by rw [hL]; exact sub_cons rfl (sub_cons rfl (sub_cons rfl (sub_cons rfl (sub_cons rfl (sub_cons rfl sub_nil)))))) ⟨rfl, Nat.zero_le _, zxc, hB0, hin.ext0 zxc, hoff, hv, few_bd hfew, hn2, rfl, hs5⟩ ?_
  rintro ⟨j, sj⟩ E wr ⟨rfl, hj, er, hB3, hij, hoff, hvj, hbd, hnj, hof, hs5⟩
  dsimp only at hj hB3 hij hoff hvj hbd hnj hof hs5 ⊢
  have hz := er.size
  have hC3 := hB3.cells
  have hblj := br_len sj
  obtain ⟨hmj, hwj⟩ := small_of rfl (hbd.small (by omega) hvj)
  have hlt3 := hB3.lt
  have hbfj := hij.bls.few
  have hpfj := hij.par.few
  by_cases hlt : j < l.length; rotate_left
  · have hfj := factsB_of hvj hn1 hnj
    rw [hof, ← hfe] at hfj
    refine ztx ?_
    refine Ox.pure rfl rfl zbc ?_
    refine Ox.fin ?_
    refine zcf ?_
    refine zex ?_
    refine ztx ?_
    refine Ox.val rfl rfl zra ?_
    refine Ox.pure rfl rfl zmv ?_
    refine Ox.act rfl rfl (acts_call rfl rfl rfl (facts_br sj hmj no _ (hij.ext0 zxc))) ?_
    rintro v11 w11 ⟨e11, p17, A17, c17, rfl, hs17⟩
    have hz11 := e11.size
    rw [hfj] at hs17 ⊢
    refine Ox.pure rfl rfl zmv ?_
    refine Ox.pure rfl rfl (rp_extract rfl rfl rfl) ?_
    refine Ox.pure rfl rfl (rp_extract rfl rfl rfl) ?_
    refine Ox.pure rfl rfl zas ?_
    refine Ox.pure rfl rfl zas ?_
    refine Ox.fin ?_
    refine ztx ?_
    refine Ox.pure rfl rfl zmv ?_
    refine Ox.pure rfl rfl zbc ?_
    refine Ox.pure rfl rfl zmv ?_
    first | (refine Ox.skip rfl rfl ?_) | (refine Ox.pure rfl rfl zmv ?_)
    first | (refine Ox.skip rfl rfl ?_) | (refine Ox.pure rfl rfl zmv ?_)
    first | (refine Ox.skip rfl rfl ?_) | (refine Ox.act rfl rfl (acts_call rfl rfl rfl (ref_Same L (factsB s.br no).1 p5 p17 A5 A17 c5 c17 _ (hs5.ext0 zxc) (hs17.ext0 zxc))) ?_; rintro v12 w12 ⟨e12, rfl⟩; have hz12 := e12.size; rw [decide_eq_true hL])
    refine Ox.pure rfl rfl zpk ?_
    refine Ox.pure rfl rfl zas ?_
    refine Ox.fin ?_
    refine zrt ?_
    exact endE_ret [_] ⟨rfl, trivial⟩ ⟨zxc, rfl⟩
  obtain ⟨m, hm'⟩ : ∃ m, m = l[j] := ⟨_, rfl⟩
  have hLm : ∀ u, Ext [] W u → Ld Try.prog u 56 (Aq.add (j * 8)) (.agg (mvc m).toArray) := fun u hu => by
    rw [hm']; exact ld_elem mvc_len (hl.row.ext0 hu) hlt rfl rfl
  have hLp : ∀ u, Ext [] wr u → ∀ j : Nat, j < sj.par.length → Ld Try.prog u 3 (sj.A2.add (j * 1 + 0)) (.int .i64 (parB sj.br j)) := fun u hu j h => by
    rw [parB_eq h]; exact ld_field ic_len (hij.par.row.ext0 hu) h 0 rfl (by decide) rfl
  refine ztx ?_
  refine Ox.pure rfl rfl zbc ?_
  refine Ox.fin ?_
  refine zct ?_
  refine zsk ?_
  refine zbl ?_
  refine ztx ?_
  refine Ox.pure rfl rfl (rp_indexAddr j rfl rfl rfl rfl rfl hl.ptr rfl hlt) ?_
  refine Ox.val rfl rfl (rv_load rfl rfl (fun u hu => hLm u zxc)) ?_
  refine Ox.act rfl rfl (acts_alloc rfl rfl) ?_
  rintro va10 wa10 ⟨ea10, ba10, rfl, hba10, hBa10⟩
  first | (have hCa10 : Cells wa10 ⟨ba10, 0, none⟩ [_, _, _, _, _, _, _, _] := hBa10.cells) | have hCa10 := Blk.cellsL hBa10
  have hla10 := hBa10.lt
  have hza10 := ea10.size
  refine Ox.act rfl rfl (acts_store_all rfl rfl rfl hBa10 rfl (by first | rfl | assumption) (by first | rfl | assumption) (by (first | assumption | exact List.all_eq_true.mp rfl | simp [Value.cells, Value.oneCell']))) ?_
  rintro vc10 wc10 ⟨rfl, qc10, hBc10⟩
  have ec10 := Ext.renew ea10 qc10 hba10
  have hzc10 := ec10.size
  have hlc10 := hBc10.lt
  first | (have hCc10 : Cells wc10 ⟨ba10, 0, none⟩ [_, _, _, _, _, _, _, _] := hBc10.cells) | have hCc10 := Blk.cellsL hBc10
  refine Ox.fin ?_
  refine ztx ?_
  refine Ox.pure rfl rfl zfa ?_
  refine Ox.val rfl rfl zrs ?_
  refine Ox.pure rfl rfl (rp_lenS rfl rfl rfl) ?_
  refine Ox.pure rfl rfl zas ?_
  refine Ox.fin ?_
  refine Sx.seq ?_
  refine Sx.seq (Sx.upto (fun E' w' => ∃ b : Bool, b = decide (skips sj.br no m) ∧ (∀ t u, get [(1, .int .i64 no), (3, .pointer (some ⟨bb3, 0, none⟩)), (7, .slice p5 L.length c5), (36, .slice q l.length d), (37, .int .i64 (l.length : Int)), (38, .int .i64 (j : Int)), (10, .pointer (some ⟨ba10, 0, none⟩)), (11, .int .i64 (sj.bls.length : Int)), (81, .bool b)] t = some u → get E' t = some u) ∧ Ext [] wc10 w') ?_ ?_)
  · have hpl : sj.br.par.length = sj.par.length := rfl
    by_cases k1 : m.kind = 1
    · by_cases e1 : m.no = no
      · refine ztx ?_
        refine Ox.pure rfl rfl zfa ?_
        refine Ox.val rfl rfl zrs ?_
        refine Ox.pure rfl rfl zbc ?_
        refine Ox.pure rfl rfl zmv ?_
        first | (refine Ox.skip rfl rfl ?_) | (refine Ox.pure rfl rfl zfa ?_)
        first | (refine Ox.skip rfl rfl ?_) | (refine Ox.val rfl rfl zrs ?_)
        first | (refine Ox.skip rfl rfl ?_) | (refine Ox.pure rfl rfl zmv ?_)
        first | (refine Ox.skip rfl rfl ?_) | (refine Ox.pure rfl rfl zbc ?_)
        refine Ox.pure rfl rfl zpk ?_
        refine Ox.pure rfl rfl zmv ?_
        first | (refine Ox.skip rfl rfl ?_) | (refine Ox.pure rfl rfl zfa ?_)
        first | (refine Ox.skip rfl rfl ?_) | (refine Ox.val rfl rfl zrs ?_)
        first | (refine Ox.skip rfl rfl ?_) | (refine Ox.pure rfl rfl zbc ?_)
        first | (refine Ox.skip rfl rfl ?_) | (refine Ox.pure rfl rfl zmv ?_)
        first | (refine Ox.skip rfl rfl ?_) | (refine Ox.pure rfl rfl zfa ?_)
        first | (refine Ox.skip rfl rfl ?_) | (refine Ox.val rfl rfl zrs ?_)
        first | (refine Ox.skip rfl rfl ?_) | (refine Ox.pure rfl rfl zbc ?_)
        first | (refine Ox.skip rfl rfl ?_) | (refine Ox.pure rfl rfl zpk ?_)
        first | (refine Ox.skip rfl rfl ?_) | (refine Ox.pure rfl rfl zmv ?_)
        first | (refine Ox.skip rfl rfl ?_) | (refine Ox.pure rfl rfl zfa ?_)
        first | (refine Ox.skip rfl rfl ?_) | (refine Ox.val rfl rfl zrs ?_)
        first | (refine Ox.skip rfl rfl ?_) | (refine Ox.pure rfl rfl zfa ?_)
        first | (refine Ox.skip rfl rfl ?_) | (refine Ox.val rfl rfl zrs ?_)
        first | (refine Ox.skip rfl rfl ?_) | (refine Ox.pure rfl rfl (rp_lenS rfl rfl rfl) ?_)
        first | (refine Ox.skip rfl rfl ?_) | (refine Ox.pure rfl rfl zbc ?_)
        first | (refine Ox.skip rfl rfl ?_) | (refine Ox.pure rfl rfl zpk ?_)
        first | (refine Ox.skip rfl rfl ?_) | (refine Ox.pure rfl rfl zmv ?_)
        first | (refine Ox.skip rfl rfl ?_) | (refine Ox.pure rfl rfl zfa ?_)
        first | (refine Ox.skip rfl rfl ?_) | (refine Ox.val rfl rfl zrs ?_)
        first | (refine Ox.skip rfl rfl ?_) | (refine Ox.pure rfl rfl zfa ?_)
        first | (refine Ox.skip rfl rfl ?_) | (refine Ox.val rfl rfl zrs ?_)
        first | (refine Ox.skip rfl rfl ?_) | (refine Ox.pure rfl rfl (rp_indexAddr m.no.toNat rfl rfl rfl rfl rfl hij.par.ptr (by omega) (by omega)) ?_)
        first | (refine Ox.skip rfl rfl ?_) | (refine Ox.val rfl rfl (rv_load rfl rfl (fun u hu => hLp u zxc m.no.toNat (by omega))) ?_)
        first | (refine Ox.skip rfl rfl ?_) | (refine Ox.pure rfl rfl zmv ?_)
        first | (refine Ox.skip rfl rfl ?_) | (refine Ox.pure rfl rfl zbc ?_)
        first | (refine Ox.skip rfl rfl ?_) | (refine Ox.pure rfl rfl zpk ?_)
        refine Ox.pure rfl rfl zpk ?_
        refine Ox.fin ?_
        exact ⟨true, (decide_eq_true (.inl ⟨k1, e1⟩)).symm, sub_cons rfl (sub_cons rfl (sub_cons rfl (sub_cons rfl (sub_cons rfl (sub_cons rfl (sub_cons rfl (sub_cons rfl (sub_cons rfl sub_nil)))))))), zxc⟩
      · refine ztx ?_
        refine Ox.pure rfl rfl zfa ?_
        refine Ox.val rfl rfl zrs ?_
        refine Ox.pure rfl rfl zbc ?_
        refine Ox.pure rfl rfl zmv ?_
        first | (refine Ox.skip rfl rfl ?_) | (refine Ox.pure rfl rfl zfa ?_)
        first | (refine Ox.skip rfl rfl ?_) | (refine Ox.val rfl rfl zrs ?_)
        first | (refine Ox.skip rfl rfl ?_) | (refine Ox.pure rfl rfl zmv ?_)
        first | (refine Ox.skip rfl rfl ?_) | (refine Ox.pure rfl rfl zbc ?_)
        refine Ox.pure rfl rfl zpk ?_
        refine Ox.pure rfl rfl zmv ?_
        first | (refine Ox.skip rfl rfl ?_) | (refine Ox.pure rfl rfl zfa ?_)
        first | (refine Ox.skip rfl rfl ?_) | (refine Ox.val rfl rfl zrs ?_)
        first | (refine Ox.skip rfl rfl ?_) | (refine Ox.pure rfl rfl zbc ?_)
        first | (refine Ox.skip rfl rfl ?_) | (refine Ox.pure rfl rfl zmv ?_)
        first | (refine Ox.skip rfl rfl ?_) | (refine Ox.pure rfl rfl zfa ?_)
        first | (refine Ox.skip rfl rfl ?_) | (refine Ox.val rfl rfl zrs ?_)
        first | (refine Ox.skip rfl rfl ?_) | (refine Ox.pure rfl rfl zbc ?_)
        first | (refine Ox.skip rfl rfl ?_) | (refine Ox.pure rfl rfl zpk ?_)
        first | (refine Ox.skip rfl rfl ?_) | (refine Ox.pure rfl rfl zmv ?_)
        first | (refine Ox.skip rfl rfl ?_) | (refine Ox.pure rfl rfl zfa ?_)
        first | (refine Ox.skip rfl rfl ?_) | (refine Ox.val rfl rfl zrs ?_)
        first | (refine Ox.skip rfl rfl ?_) | (refine Ox.pure rfl rfl zfa ?_)
        first | (refine Ox.skip rfl rfl ?_) | (refine Ox.val rfl rfl zrs ?_)
        first | (refine Ox.skip rfl rfl ?_) | (refine Ox.pure rfl rfl (rp_lenS rfl rfl rfl) ?_)
        first | (refine Ox.skip rfl rfl ?_) | (refine Ox.pure rfl rfl zbc ?_)
        first | (refine Ox.skip rfl rfl ?_) | (refine Ox.pure rfl rfl zpk ?_)
        first | (refine Ox.skip rfl rfl ?_) | (refine Ox.pure rfl rfl zmv ?_)
        first | (refine Ox.skip rfl rfl ?_) | (refine Ox.pure rfl rfl zfa ?_)
        first | (refine Ox.skip rfl rfl ?_) | (refine Ox.val rfl rfl zrs ?_)
        first | (refine Ox.skip rfl rfl ?_) | (refine Ox.pure rfl rfl zfa ?_)
        first | (refine Ox.skip rfl rfl ?_) | (refine Ox.val rfl rfl zrs ?_)
        first | (refine Ox.skip rfl rfl ?_) | (refine Ox.pure rfl rfl (rp_indexAddr m.no.toNat rfl rfl rfl rfl rfl hij.par.ptr (by omega) (by omega)) ?_)
        first | (refine Ox.skip rfl rfl ?_) | (refine Ox.val rfl rfl (rv_load rfl rfl (fun u hu => hLp u zxc m.no.toNat (by omega))) ?_)
        first | (refine Ox.skip rfl rfl ?_) | (refine Ox.pure rfl rfl zmv ?_)
        first | (refine Ox.skip rfl rfl ?_) | (refine Ox.pure rfl rfl zbc ?_)
        first | (refine Ox.skip rfl rfl ?_) | (refine Ox.pure rfl rfl zpk ?_)
        refine Ox.pure rfl rfl zpk ?_
        refine Ox.fin ?_
        exact ⟨false, (decide_eq_false (by rintro (h | h); exact e1 h.2; exact absurd h.1 (by omega))).symm, sub_cons rfl (sub_cons rfl (sub_cons rfl (sub_cons rfl (sub_cons rfl (sub_cons rfl (sub_cons rfl (sub_cons rfl (sub_cons rfl sub_nil)))))))), zxc⟩
    by_cases k2 : m.kind = 2
    · skip
      by_cases hch1 : 0 ≤ m.no; rotate_left
      ·       refine ztx ?_
              refine Ox.pure rfl rfl zfa ?_
              refine Ox.val rfl rfl zrs ?_
              refine Ox.pure rfl rfl zbc ?_
              refine Ox.pure rfl rfl zmv ?_
              first | (refine Ox.skip rfl rfl ?_) | (refine Ox.pure rfl rfl zfa ?_)
              first | (refine Ox.skip rfl rfl ?_) | (refine Ox.val rfl rfl zrs ?_)
              first | (refine Ox.skip rfl rfl ?_) | (refine Ox.pure rfl rfl zmv ?_)
              first | (refine Ox.skip rfl rfl ?_) | (refine Ox.pure rfl rfl zbc ?_)
              refine Ox.pure rfl rfl zpk ?_
              refine Ox.pure rfl rfl zmv ?_
              first | (refine Ox.skip rfl rfl ?_) | (refine Ox.pure rfl rfl zfa ?_)
              first | (refine Ox.skip rfl rfl ?_) | (refine Ox.val rfl rfl zrs ?_)
              first | (refine Ox.skip rfl rfl ?_) | (refine Ox.pure rfl rfl zbc ?_)
              first | (refine Ox.skip rfl rfl ?_) | (refine Ox.pure rfl rfl zmv ?_)
              first | (refine Ox.skip rfl rfl ?_) | (refine Ox.pure rfl rfl zfa ?_)
              first | (refine Ox.skip rfl rfl ?_) | (refine Ox.val rfl rfl zrs ?_)
              first | (refine Ox.skip rfl rfl ?_) | (refine Ox.pure rfl rfl zbc ?_)
              first | (refine Ox.skip rfl rfl ?_) | (refine Ox.pure rfl rfl zpk ?_)
              first | (refine Ox.skip rfl rfl ?_) | (refine Ox.pure rfl rfl zmv ?_)
              first | (refine Ox.skip rfl rfl ?_) | (refine Ox.pure rfl rfl zfa ?_)
              first | (refine Ox.skip rfl rfl ?_) | (refine Ox.val rfl rfl zrs ?_)
              first | (refine Ox.skip rfl rfl ?_) | (refine Ox.pure rfl rfl zfa ?_)
              first | (refine Ox.skip rfl rfl ?_) | (refine Ox.val rfl rfl zrs ?_)
              first | (refine Ox.skip rfl rfl ?_) | (refine Ox.pure rfl rfl (rp_lenS rfl rfl rfl) ?_)
              first | (refine Ox.skip rfl rfl ?_) | (refine Ox.pure rfl rfl zbc ?_)
              first | (refine Ox.skip rfl rfl ?_) | (refine Ox.pure rfl rfl zpk ?_)
              first | (refine Ox.skip rfl rfl ?_) | (refine Ox.pure rfl rfl zmv ?_)
              first | (refine Ox.skip rfl rfl ?_) | (refine Ox.pure rfl rfl zfa ?_)
              first | (refine Ox.skip rfl rfl ?_) | (refine Ox.val rfl rfl zrs ?_)
              first | (refine Ox.skip rfl rfl ?_) | (refine Ox.pure rfl rfl zfa ?_)
              first | (refine Ox.skip rfl rfl ?_) | (refine Ox.val rfl rfl zrs ?_)
              first | (refine Ox.skip rfl rfl ?_) | (refine Ox.pure rfl rfl (rp_indexAddr m.no.toNat rfl rfl rfl rfl rfl hij.par.ptr (by omega) (by omega)) ?_)
              first | (refine Ox.skip rfl rfl ?_) | (refine Ox.val rfl rfl (rv_load rfl rfl (fun u hu => hLp u zxc m.no.toNat (by omega))) ?_)
              first | (refine Ox.skip rfl rfl ?_) | (refine Ox.pure rfl rfl zmv ?_)
              first | (refine Ox.skip rfl rfl ?_) | (refine Ox.pure rfl rfl zbc ?_)
              first | (refine Ox.skip rfl rfl ?_) | (refine Ox.pure rfl rfl zpk ?_)
              refine Ox.pure rfl rfl zpk ?_
              refine Ox.fin ?_
              exact ⟨false, (decide_eq_false (by rintro (h | h); exact k1 h.1; first | exact absurd h.2.1 (by assumption) | exact absurd h.2.2.1 (by assumption) | exact absurd h.2.2.2 (by assumption))).symm, sub_cons rfl (sub_cons rfl (sub_cons rfl (sub_cons rfl (sub_cons rfl (sub_cons rfl (sub_cons rfl (sub_cons rfl (sub_cons rfl sub_nil)))))))), zxc⟩
      by_cases hch2 : m.no < (sj.par.length : Int); rotate_left
      ·       refine ztx ?_
              refine Ox.pure rfl rfl zfa ?_
              refine Ox.val rfl rfl zrs ?_
              refine Ox.pure rfl rfl zbc ?_
              refine Ox.pure rfl rfl zmv ?_
              first | (refine Ox.skip rfl rfl ?_) | (refine Ox.pure rfl rfl zfa ?_)
              first | (refine Ox.skip rfl rfl ?_) | (refine Ox.val rfl rfl zrs ?_)
              first | (refine Ox.skip rfl rfl ?_) | (refine Ox.pure rfl rfl zmv ?_)
              first | (refine Ox.skip rfl rfl ?_) | (refine Ox.pure rfl rfl zbc ?_)
              refine Ox.pure rfl rfl zpk ?_
              refine Ox.pure rfl rfl zmv ?_
              first | (refine Ox.skip rfl rfl ?_) | (refine Ox.pure rfl rfl zfa ?_)
              first | (refine Ox.skip rfl rfl ?_) | (refine Ox.val rfl rfl zrs ?_)
              first | (refine Ox.skip rfl rfl ?_) | (refine Ox.pure rfl rfl zbc ?_)
              first | (refine Ox.skip rfl rfl ?_) | (refine Ox.pure rfl rfl zmv ?_)
              first | (refine Ox.skip rfl rfl ?_) | (refine Ox.pure rfl rfl zfa ?_)
              first | (refine Ox.skip rfl rfl ?_) | (refine Ox.val rfl rfl zrs ?_)
              first | (refine Ox.skip rfl rfl ?_) | (refine Ox.pure rfl rfl zbc ?_)
              first | (refine Ox.skip rfl rfl ?_) | (refine Ox.pure rfl rfl zpk ?_)
              first | (refine Ox.skip rfl rfl ?_) | (refine Ox.pure rfl rfl zmv ?_)
              first | (refine Ox.skip rfl rfl ?_) | (refine Ox.pure rfl rfl zfa ?_)
              first | (refine Ox.skip rfl rfl ?_) | (refine Ox.val rfl rfl zrs ?_)
              first | (refine Ox.skip rfl rfl ?_) | (refine Ox.pure rfl rfl zfa ?_)
              first | (refine Ox.skip rfl rfl ?_) | (refine Ox.val rfl rfl zrs ?_)
              first | (refine Ox.skip rfl rfl ?_) | (refine Ox.pure rfl rfl (rp_lenS rfl rfl rfl) ?_)
              first | (refine Ox.skip rfl rfl ?_) | (refine Ox.pure rfl rfl zbc ?_)
              first | (refine Ox.skip rfl rfl ?_) | (refine Ox.pure rfl rfl zpk ?_)
              first | (refine Ox.skip rfl rfl ?_) | (refine Ox.pure rfl rfl zmv ?_)
              first | (refine Ox.skip rfl rfl ?_) | (refine Ox.pure rfl rfl zfa ?_)
              first | (refine Ox.skip rfl rfl ?_) | (refine Ox.val rfl rfl zrs ?_)
              first | (refine Ox.skip rfl rfl ?_) | (refine Ox.pure rfl rfl zfa ?_)
              first | (refine Ox.skip rfl rfl ?_) | (refine Ox.val rfl rfl zrs ?_)
              first | (refine Ox.skip rfl rfl ?_) | (refine Ox.pure rfl rfl (rp_indexAddr m.no.toNat rfl rfl rfl rfl rfl hij.par.ptr (by omega) (by omega)) ?_)
              first | (refine Ox.skip rfl rfl ?_) | (refine Ox.val rfl rfl (rv_load rfl rfl (fun u hu => hLp u zxc m.no.toNat (by omega))) ?_)
              first | (refine Ox.skip rfl rfl ?_) | (refine Ox.pure rfl rfl zmv ?_)
              first | (refine Ox.skip rfl rfl ?_) | (refine Ox.pure rfl rfl zbc ?_)
              first | (refine Ox.skip rfl rfl ?_) | (refine Ox.pure rfl rfl zpk ?_)
              refine Ox.pure rfl rfl zpk ?_
              refine Ox.fin ?_
              exact ⟨false, (decide_eq_false (by rintro (h | h); exact k1 h.1; first | exact absurd h.2.1 (by assumption) | exact absurd h.2.2.1 (by assumption) | exact absurd h.2.2.2 (by assumption))).symm, sub_cons rfl (sub_cons rfl (sub_cons rfl (sub_cons rfl (sub_cons rfl (sub_cons rfl (sub_cons rfl (sub_cons rfl (sub_cons rfl sub_nil)))))))), zxc⟩
      by_cases hch3 : parB sj.br m.no.toNat = no; rotate_left
      ·       refine ztx ?_
              refine Ox.pure rfl rfl zfa ?_
              refine Ox.val rfl rfl zrs ?_
              refine Ox.pure rfl rfl zbc ?_
              refine Ox.pure rfl rfl zmv ?_
              first | (refine Ox.skip rfl rfl ?_) | (refine Ox.pure rfl rfl zfa ?_)
              first | (refine Ox.skip rfl rfl ?_) | (refine Ox.val rfl rfl zrs ?_)
              first | (refine Ox.skip rfl rfl ?_) | (refine Ox.pure rfl rfl zmv ?_)
              first | (refine Ox.skip rfl rfl ?_) | (refine Ox.pure rfl rfl zbc ?_)
              refine Ox.pure rfl rfl zpk ?_
              refine Ox.pure rfl rfl zmv ?_
              first | (refine Ox.skip rfl rfl ?_) | (refine Ox.pure rfl rfl zfa ?_)
              first | (refine Ox.skip rfl rfl ?_) | (refine Ox.val rfl rfl zrs ?_)
              first | (refine Ox.skip rfl rfl ?_) | (refine Ox.pure rfl rfl zbc ?_)
              first | (refine Ox.skip rfl rfl ?_) | (refine Ox.pure rfl rfl zmv ?_)
              first | (refine Ox.skip rfl rfl ?_) | (refine Ox.pure rfl rfl zfa ?_)
              first | (refine Ox.skip rfl rfl ?_) | (refine Ox.val rfl rfl zrs ?_)
              first | (refine Ox.skip rfl rfl ?_) | (refine Ox.pure rfl rfl zbc ?_)
              first | (refine Ox.skip rfl rfl ?_) | (refine Ox.pure rfl rfl zpk ?_)
              first | (refine Ox.skip rfl rfl ?_) | (refine Ox.pure rfl rfl zmv ?_)
              first | (refine Ox.skip rfl rfl ?_) | (refine Ox.pure rfl rfl zfa ?_)
              first | (refine Ox.skip rfl rfl ?_) | (refine Ox.val rfl rfl zrs ?_)
              first | (refine Ox.skip rfl rfl ?_) | (refine Ox.pure rfl rfl zfa ?_)
              first | (refine Ox.skip rfl rfl ?_) | (refine Ox.val rfl rfl zrs ?_)
              first | (refine Ox.skip rfl rfl ?_) | (refine Ox.pure rfl rfl (rp_lenS rfl rfl rfl) ?_)
              first | (refine Ox.skip rfl rfl ?_) | (refine Ox.pure rfl rfl zbc ?_)
              first | (refine Ox.skip rfl rfl ?_) | (refine Ox.pure rfl rfl zpk ?_)
              first | (refine Ox.skip rfl rfl ?_) | (refine Ox.pure rfl rfl zmv ?_)
              first | (refine Ox.skip rfl rfl ?_) | (refine Ox.pure rfl rfl zfa ?_)
              first | (refine Ox.skip rfl rfl ?_) | (refine Ox.val rfl rfl zrs ?_)
              first | (refine Ox.skip rfl rfl ?_) | (refine Ox.pure rfl rfl zfa ?_)
              first | (refine Ox.skip rfl rfl ?_) | (refine Ox.val rfl rfl zrs ?_)
              first | (refine Ox.skip rfl rfl ?_) | (refine Ox.pure rfl rfl (rp_indexAddr m.no.toNat rfl rfl rfl rfl rfl hij.par.ptr (by omega) (by omega)) ?_)
              first | (refine Ox.skip rfl rfl ?_) | (refine Ox.val rfl rfl (rv_load rfl rfl (fun u hu => hLp u zxc m.no.toNat (by omega))) ?_)
              first | (refine Ox.skip rfl rfl ?_) | (refine Ox.pure rfl rfl zmv ?_)
              first | (refine Ox.skip rfl rfl ?_) | (refine Ox.pure rfl rfl zbc ?_)
              first | (refine Ox.skip rfl rfl ?_) | (refine Ox.pure rfl rfl zpk ?_)
              refine Ox.pure rfl rfl zpk ?_
              refine Ox.fin ?_
              exact ⟨false, (decide_eq_false (by rintro (h | h); exact k1 h.1; first | exact absurd h.2.1 (by assumption) | exact absurd h.2.2.1 (by assumption) | exact absurd h.2.2.2 (by assumption))).symm, sub_cons rfl (sub_cons rfl (sub_cons rfl (sub_cons rfl (sub_cons rfl (sub_cons rfl (sub_cons rfl (sub_cons rfl (sub_cons rfl sub_nil)))))))), zxc⟩
      refine ztx ?_
      refine Ox.pure rfl rfl zfa ?_
      refine Ox.val rfl rfl zrs ?_
      refine Ox.pure rfl rfl zbc ?_
      refine Ox.pure rfl rfl zmv ?_
      first | (refine Ox.skip rfl rfl ?_) | (refine Ox.pure rfl rfl zfa ?_)
      first | (refine Ox.skip rfl rfl ?_) | (refine Ox.val rfl rfl zrs ?_)
      first | (refine Ox.skip rfl rfl ?_) | (refine Ox.pure rfl rfl zmv ?_)
      first | (refine Ox.skip rfl rfl ?_) | (refine Ox.pure rfl rfl zbc ?_)
      refine Ox.pure rfl rfl zpk ?_
      refine Ox.pure rfl rfl zmv ?_
      first | (refine Ox.skip rfl rfl ?_) | (refine Ox.pure rfl rfl zfa ?_)
      first | (refine Ox.skip rfl rfl ?_) | (refine Ox.val rfl rfl zrs ?_)
      first | (refine Ox.skip rfl rfl ?_) | (refine Ox.pure rfl rfl zbc ?_)
      first | (refine Ox.skip rfl rfl ?_) | (refine Ox.pure rfl rfl zmv ?_)
      first | (refine Ox.skip rfl rfl ?_) | (refine Ox.pure rfl rfl zfa ?_)
      first | (refine Ox.skip rfl rfl ?_) | (refine Ox.val rfl rfl zrs ?_)
      first | (refine Ox.skip rfl rfl ?_) | (refine Ox.pure rfl rfl zbc ?_)
      first | (refine Ox.skip rfl rfl ?_) | (refine Ox.pure rfl rfl zpk ?_)
      first | (refine Ox.skip rfl rfl ?_) | (refine Ox.pure rfl rfl zmv ?_)
      first | (refine Ox.skip rfl rfl ?_) | (refine Ox.pure rfl rfl zfa ?_)
      first | (refine Ox.skip rfl rfl ?_) | (refine Ox.val rfl rfl zrs ?_)
      first | (refine Ox.skip rfl rfl ?_) | (refine Ox.pure rfl rfl zfa ?_)
      first | (refine Ox.skip rfl rfl ?_) | (refine Ox.val rfl rfl zrs ?_)
      first | (refine Ox.skip rfl rfl ?_) | (refine Ox.pure rfl rfl (rp_lenS rfl rfl rfl) ?_)
      first | (refine Ox.skip rfl rfl ?_) | (refine Ox.pure rfl rfl zbc ?_)
      first | (refine Ox.skip rfl rfl ?_) | (refine Ox.pure rfl rfl zpk ?_)
      first | (refine Ox.skip rfl rfl ?_) | (refine Ox.pure rfl rfl zmv ?_)
      first | (refine Ox.skip rfl rfl ?_) | (refine Ox.pure rfl rfl zfa ?_)
      first | (refine Ox.skip rfl rfl ?_) | (refine Ox.val rfl rfl zrs ?_)
      first | (refine Ox.skip rfl rfl ?_) | (refine Ox.pure rfl rfl zfa ?_)
      first | (refine Ox.skip rfl rfl ?_) | (refine Ox.val rfl rfl zrs ?_)
      first | (refine Ox.skip rfl rfl ?_) | (refine Ox.pure rfl rfl (rp_indexAddr m.no.toNat rfl rfl rfl rfl rfl hij.par.ptr (by omega) (by omega)) ?_)
      first | (refine Ox.skip rfl rfl ?_) | (refine Ox.val rfl rfl (rv_load rfl rfl (fun u hu => hLp u zxc m.no.toNat (by omega))) ?_)
      first | (refine Ox.skip rfl rfl ?_) | (refine Ox.pure rfl rfl zmv ?_)
      first | (refine Ox.skip rfl rfl ?_) | (refine Ox.pure rfl rfl zbc ?_)
      first | (refine Ox.skip rfl rfl ?_) | (refine Ox.pure rfl rfl zpk ?_)
      refine Ox.pure rfl rfl zpk ?_
      refine Ox.fin ?_
      exact ⟨true, (decide_eq_true (.inr ⟨k2, by assumption, by assumption, by assumption⟩)).symm, sub_cons rfl (sub_cons rfl (sub_cons rfl (sub_cons rfl (sub_cons rfl (sub_cons rfl (sub_cons rfl (sub_cons rfl (sub_cons rfl sub_nil)))))))), zxc⟩
    · refine ztx ?_
      refine Ox.pure rfl rfl zfa ?_
      refine Ox.val rfl rfl zrs ?_
      refine Ox.pure rfl rfl zbc ?_
      refine Ox.pure rfl rfl zmv ?_
      first | (refine Ox.skip rfl rfl ?_) | (refine Ox.pure rfl rfl zfa ?_)
      first | (refine Ox.skip rfl rfl ?_) | (refine Ox.val rfl rfl zrs ?_)
      first | (refine Ox.skip rfl rfl ?_) | (refine Ox.pure rfl rfl zmv ?_)
      first | (refine Ox.skip rfl rfl ?_) | (refine Ox.pure rfl rfl zbc ?_)
      refine Ox.pure rfl rfl zpk ?_
      refine Ox.pure rfl rfl zmv ?_
      first | (refine Ox.skip rfl rfl ?_) | (refine Ox.pure rfl rfl zfa ?_)
      first | (refine Ox.skip rfl rfl ?_) | (refine Ox.val rfl rfl zrs ?_)
      first | (refine Ox.skip rfl rfl ?_) | (refine Ox.pure rfl rfl zbc ?_)
      first | (refine Ox.skip rfl rfl ?_) | (refine Ox.pure rfl rfl zmv ?_)
      first | (refine Ox.skip rfl rfl ?_) | (refine Ox.pure rfl rfl zfa ?_)
      first | (refine Ox.skip rfl rfl ?_) | (refine Ox.val rfl rfl zrs ?_)
      first | (refine Ox.skip rfl rfl ?_) | (refine Ox.pure rfl rfl zbc ?_)
      first | (refine Ox.skip rfl rfl ?_) | (refine Ox.pure rfl rfl zpk ?_)
      first | (refine Ox.skip rfl rfl ?_) | (refine Ox.pure rfl rfl zmv ?_)
      first | (refine Ox.skip rfl rfl ?_) | (refine Ox.pure rfl rfl zfa ?_)
      first | (refine Ox.skip rfl rfl ?_) | (refine Ox.val rfl rfl zrs ?_)
      first | (refine Ox.skip rfl rfl ?_) | (refine Ox.pure rfl rfl zfa ?_)
      first | (refine Ox.skip rfl rfl ?_) | (refine Ox.val rfl rfl zrs ?_)
      first | (refine Ox.skip rfl rfl ?_) | (refine Ox.pure rfl rfl (rp_lenS rfl rfl rfl) ?_)
      first | (refine Ox.skip rfl rfl ?_) | (refine Ox.pure rfl rfl zbc ?_)
      first | (refine Ox.skip rfl rfl ?_) | (refine Ox.pure rfl rfl zpk ?_)
      first | (refine Ox.skip rfl rfl ?_) | (refine Ox.pure rfl rfl zmv ?_)
      first | (refine Ox.skip rfl rfl ?_) | (refine Ox.pure rfl rfl zfa ?_)
      first | (refine Ox.skip rfl rfl ?_) | (refine Ox.val rfl rfl zrs ?_)
      first | (refine Ox.skip rfl rfl ?_) | (refine Ox.pure rfl rfl zfa ?_)
      first | (refine Ox.skip rfl rfl ?_) | (refine Ox.val rfl rfl zrs ?_)
      first | (refine Ox.skip rfl rfl ?_) | (refine Ox.pure rfl rfl (rp_indexAddr m.no.toNat rfl rfl rfl rfl rfl hij.par.ptr (by omega) (by omega)) ?_)
      first | (refine Ox.skip rfl rfl ?_) | (refine Ox.val rfl rfl (rv_load rfl rfl (fun u hu => hLp u zxc m.no.toNat (by omega))) ?_)
      first | (refine Ox.skip rfl rfl ?_) | (refine Ox.pure rfl rfl zmv ?_)
      first | (refine Ox.skip rfl rfl ?_) | (refine Ox.pure rfl rfl zbc ?_)
      first | (refine Ox.skip rfl rfl ?_) | (refine Ox.pure rfl rfl zpk ?_)
      refine Ox.pure rfl rfl zpk ?_
      refine Ox.fin ?_
      exact ⟨false, (decide_eq_false (by rintro (h | h); exact k1 h.1; exact k2 h.1)).symm, sub_cons rfl (sub_cons rfl (sub_cons rfl (sub_cons rfl (sub_cons rfl (sub_cons rfl (sub_cons rfl (sub_cons rfl (sub_cons rfl sub_nil)))))))), zxc⟩
  rintro E' wm ⟨b, hb, hsub, em⟩
  refine thenE_normal (Sx.weaken ?_ hsub)
  have hzm := em.size
  by_cases hs : skips sj.br no m
  · rw [decide_eq_true hs] at hb
    subst hb
    refine zct ?_
    refine zex ?_
    refine ztx ?_
    refine Ox.pure rfl rfl zba ?_
    refine Ox.pure rfl rfl zmv ?_
    refine Ox.fin ?_
    exact ⟨(j + 1, sj), _, sub_cons rfl (sub_cons rfl (sub_cons rfl (sub_cons rfl (sub_cons rfl (sub_cons rfl sub_nil))))), ⟨rfl, hlt, zxc, hB3.ext (X := []) zxc (by simp), hij.ext0 zxc, hoff, hvj, hbd.mono (by dsimp only; omega), hnj, hof, hs5.ext0 zxc⟩, by dsimp only; omega⟩
  rw [decide_eq_false hs] at hb
  subst hb
  obtain ⟨hv', hl', hof'⟩ := doB_keep hvj h0 hnj hs
  have hbd' := bd_do (m := m) hvj hbd
  refine zcf ?_
  refine zsk ?_
  refine ztx ?_
  refine Ox.val rfl rfl zra ?_
  refine Ox.val rfl rfl zra ?_
  refine Ox.act rfl rfl (acts_call rfl rfl rfl (do_at sj hmj hwj m _ (hij.ext0 zxc))) ?_
  rintro vu13 wu13 ⟨eu13, s', rfl, hi', hb', hoff'⟩
  have hzu13 := eu13.size
  have hyu13 := eu13.size
  refine Ox.act rfl rfl (acts_store_all rfl rfl rfl (hB3.ext (X := []) zxc (by simp)) rfl rfl rfl (bvc_one s')) ?_
  rintro vc13 wc13 ⟨rfl, qc13, hBc13⟩
  have hB9 : Blk wu13 bb3 27 (bvc sj) := hB3.ext (X := []) zxc (by simp)
  have hi' := hi'.keep hB9 (hoff' bb3 (by omega) hoff) qc13
  have hs5 := sl_keep (hs5.ext0 (w' := wu13) zxc) qc13 (fun h9 => by have := sl_off fc_len fc_ns (by decide) (hs5.ext0 (w' := wu13) zxc) hB9 h9; simpa using this)
  have ec13 : Ext [] W wc13 := Ext.renew zxc qc13 (by omega)
  have hCc13 : Cells wc13 ⟨bb3, 0, none⟩ (bvc s') := hBc13.cellsL
  have hl1 : sj.bls.length ≤ s'.bls.length := by rw [← hb', br_len, br_len] at hl'; exact hl'
  have hl2 : s'.par.length = s'.bls.length := by have h9 := hv'.1.2.1; rw [← hb', br_len] at h9; exact h9
  have hbf' := hi'.bls.few
  refine Ox.fin ?_
  refine ztx ?_
  refine Ox.pure rfl rfl zfa ?_
  refine Ox.val rfl rfl zrs ?_
  refine Ox.pure rfl rfl (rp_lenS rfl rfl rfl) ?_
  refine Ox.pure rfl rfl zmv ?_
  refine Ox.pure rfl rfl zbc ?_
  refine Ox.pure rfl rfl zmv ?_
  first | (refine Ox.skip rfl rfl ?_) | (refine Ox.pure rfl rfl zfa ?_)
  first | (refine Ox.skip rfl rfl ?_) | (refine Ox.val rfl rfl zrs ?_)
  first | (refine Ox.skip rfl rfl ?_) | (refine Ox.pure rfl rfl (rp_lenS rfl rfl rfl) ?_)
  first | (refine Ox.skip rfl rfl ?_) | (refine Ox.pure rfl rfl zfa ?_)
  first | (refine Ox.skip rfl rfl ?_) | (refine Ox.val rfl rfl zrs ?_)
  first | (refine Ox.skip rfl rfl ?_) | (refine Ox.pure rfl rfl (rp_lenS rfl rfl rfl) ?_)
  first | (refine Ox.skip rfl rfl ?_) | (refine Ox.pure rfl rfl zbc ?_)
  refine Ox.pure rfl rfl zpk ?_
  refine Ox.fin ?_
  refine zcf ?_
  refine zsk ?_
  refine ztx ?_
  refine Ox.pure rfl rfl zba ?_
  refine Ox.pure rfl rfl zmv ?_
  refine Ox.fin ?_
  exact ⟨(j + 1, s'), _, sub_cons rfl (sub_cons rfl (sub_cons rfl (sub_cons rfl (sub_cons rfl (sub_cons rfl sub_nil))))), ⟨rfl, hlt, zxc, hBc13, hi', hoff' bb3 (by omega) hoff, by rw [hb']; exact hv', by rw [hb']; exact hbd'.mono (by dsimp only; omega), by rw [hb']; omega, by rw [hb', hof']; exact hof, hs5⟩, by dsimp only; omega⟩


open Go.ChangeShapes Go.WideShapes Go.ChangeAt Go.RowKit in
theorem lawContract (H : Type) (enc : TypeId × Value → H) (W : World) (base : Nat) (args : Array Value) (ds gs : List (DataW H)) (before : List MemPlace)
    (hval : ∀ (j : Nat) t v, Try.f6.params[j]? = some t → args[j]? = some v → Value.okWide Try.prog W .any base t v)
    (hW : DataW.Whole enc Try.prog Try.f6.params.toList Rows.branchesApartSpec.vars false W args.toList ds gs before)
    (hw : (DataW.weightsEach Try.prog (Try.f6.params.toList ++ Rows.branchesApartSpec.plain.varTypes Try.prog) (ds ++ gs)).all (· ≤ reachBytes) = true) :
    Calls Try.prog 6 args W fun e W' => ∃ v, e = .returned v ∧ Rows.branchesApartSpec.post enc Try.prog Try.f6 false true false false W args v W' := by
  obtain ⟨p, q, hA, hV, rfl, hz, hn⟩ := id hW
  obtain ⟨rfl, rfl⟩ := trodVars_none hV
  have hA' : DataW.TrodAll enc Try.prog W 0 (fun _ => true) true [27, 3, 54] args.toList ds p := hA
  obtain ⟨v0, vs0, d0, ds0, p0, q0, hargs, rfl, rfl, h0, r0⟩ := trodAll_cons hA'
  obtain ⟨v1, vs1, d1, ds1, p1, q1, rfl, rfl, rfl, h1, r1⟩ := trodAll_cons r0
  obtain ⟨v2, vs2, d2, ds2, p2, q2, rfl, rfl, rfl, h2, r2⟩ := trodAll_cons r1
  obtain ⟨rfl, rfl, rfl⟩ := trodAll_nil r2
  obtain rfl : args = #[v0, v1, v2] := by cases args; simp_all
  have hw' : ∀ x ∈ DataW.weightsEach Try.prog [27, 3, 54] [d0, d1, d2], x ≤ reachBytes := by
    have hw2 : (DataW.weightsEach Try.prog [27, 3, 54] [d0, d1, d2]).all (· ≤ reachBytes) = true := hw
    simpa [List.all_eq_true] using hw2
  simp only [DataW.weightsEach, List.mem_append] at hw'
  obtain ⟨s, rfl, hin0⟩ := arg_bran h0 (fun x hx => hw' x (.inl hx))
  obtain ⟨no, rfl, _, _, hb1⟩ := open_int undI (hval 1 3 v1 rfl rfl) h1
  obtain ⟨l, pb2, A2, cap2, rfl, hsl2, hok2⟩ := arg_moves (not_agg (P := Try.prog) (t := 54) rfl (hval 2 54 v2 rfl rfl)) h2 (fun x hx => hw' x (.inr (.inr (.inl hx))))
  refine (apartLaw s no l pb2 A2 cap2 W hin0 hsl2).mono fun e W' he => ?_
  cases e with
  | returned r =>
    obtain ⟨hx, rfl⟩ := he
    exact ⟨_, rfl, post_true (by kernel_rfl) (by kernel_rfl) rfl hW rfl rfl rfl rfl rfl hx⟩
  | panicked c => exact he.elim
  | outgrown => exact he.elim

open Go.ChangeShapes Go.WideShapes Go.ChangeAt Go.RowKit in
set_option maxRecDepth 100000 in
theorem lifted (os : Os) (started : os.Started) (H : Type) (enc : TypeId × Value → H) :
    ReturnsInHanded {} Try.checked os 6 .any (Rows.branchesApartSpec.pre6 enc Try.prog Try.f6 [] false) (Rows.branchesApartSpec.post enc Try.prog Try.f6 false true false false) := by
  refine returnsInHanded_of_change_sized (C := Try.checked) (by kernel_rfl) started (by kernel_rfl) Try.func6
    (ChangeSpec.witness6 (enc := enc) (C := Try.checked) (s := Rows.branchesApartSpec) false ⟨#[], #[.agg #[.slice none 0 0, .slice none 0 0, .slice none 0 0, .slice none 0 0, .slice none 0 0], .int .i64 0, .slice none 0 0], []⟩ 8 (by kernel_rfl) (by kernel_rfl) (by kernel_rfl) (by kernel_rfl)) ?_
  intro W base args ds gs before hval hW _ hw _
  exact lawContract H enc W base args ds gs before hval hW hw

theorem over : Rows.branchesApartRow.holds Try.pinned (OpenSpec.ofChange Rows.branchesApartSpec) :=
  OpenClaim.holds_of_wide 6 Try.f6 rfl rfl rfl rfl rfl rfl rfl ⟨rfl, rfl, rfl, rfl, rfl⟩ rfl rfl rfl rfl rfl (by kernel_rfl) Try.func6 (by kernel_rfl)
    (of_decide_eq_true (by kernel_rfl)) (by unfold Func.isWrapper; first | (rw [if_pos (by decide +kernel)]; kernel_rfl) | (rw [if_neg (by decide +kernel)]; exact ⟨rfl, rfl⟩))
    (fun os started H enc _ => lifted os started H enc)

theorem proved : Rows.BranchesApartSaid := over

end Go.Proofs.Ytfgckcochilpkaa
