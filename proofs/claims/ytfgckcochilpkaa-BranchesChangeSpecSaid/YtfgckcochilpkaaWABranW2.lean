/- The law BranchesChangeSpec: Change and Facts agree with the reference: for all branchings, numbers and changes, no condition. -/
import Derived.Test.YtfgckcochilpkaaRows
import Derived.Test.YtfgckcochilpkaaWAP10
set_option linter.unusedVariables false
set_option maxRecDepth 100000
set_option maxHeartbeats 4000000
set_option linter.unusedSimpArgs false
namespace Go.Proofs.Ytfgckcochilpkaa
open Go Go.Eng

theorem changeLaw (s : Bs) (no : Int) (c : Cr) (W : World) (hin : BsIn s W) :
    Calls Try.prog 4 #[.agg (bvc s).toArray, .int .i64 no, .agg (cc c).toArray] W (Ret fun r w' => Ext [] W w' ∧ r = .bool true) := by
  refine calls_of_Sx (args := [.agg (bvc s).toArray, .int .i64 no, .agg (cc c).toArray]) Try.func4 rfl rfl ?_
  by_cases hfew : FewB s.br; rotate_left
  · refine ztx ?_
    refine Ox.act rfl rfl (acts_box rfl rfl) ?_
    rintro vb3 wb3 ⟨eb3, bb3, rfl, hbb3, hBb3⟩
    first | (have hCb3 : Cells wb3 ⟨bb3, 0, none⟩ [_, _, _, _, _] := hBb3.cells) | have hCb3 := Blk.cellsL hBb3
    have hlb3 := hBb3.lt
    have hzb3 := eb3.size
    refine Ox.act rfl rfl (acts_box rfl rfl) ?_
    rintro vb5 wb5 ⟨eb5, bb5, rfl, hbb5, hBb5⟩
    first | (have hCb5 : Cells wb5 ⟨bb5, 0, none⟩ [_, _, _, _, _, _] := hBb5.cells) | have hCb5 := Blk.cellsL hBb5
    have hlb5 := hBb5.lt
    have hzb5 := eb5.size
    refine Ox.pure rfl rfl zas ?_
    refine Ox.fin ?_
    refine ztx ?_
    refine Ox.act rfl rfl (acts_call rfl rfl rfl (saneB_at _)) ?_
    rintro v1 w1 ⟨e1, rfl⟩
    have hz1 := e1.size
    refine Ox.pure rfl rfl (rp_not rfl rfl) ?_
    refine Ox.fin ?_
    refine zcf ?_
    refine zsk ?_
    refine ztx ?_
    refine Ox.val rfl rfl zra ?_
    refine Ox.act rfl rfl (acts_call rfl rfl rfl (ref_FewB s _ (hin.ext0 zxc))) ?_
    rintro v2 w2 ⟨e2, rfl⟩
    have hz2 := e2.size
    first | rw [decide_eq_true hfew] | rw [decide_eq_false hfew]
    refine Ox.pure rfl rfl (rp_not rfl rfl) ?_
    refine Ox.fin ?_
    refine zct ?_
    refine ztx ?_
    refine Ox.pure rfl rfl zas ?_
    refine Ox.fin ?_
    refine zrt ?_
    exact endE_ret [_] ⟨rfl, trivial⟩ ⟨zxc, rfl⟩
  obtain ⟨hm, hw⟩ := small_of rfl (few_small hfew)
  refine ztx ?_
  refine Ox.act rfl rfl (acts_box rfl rfl) ?_
  rintro vb3 wb3 ⟨eb3, bb3, rfl, hbb3, hBb3⟩
  first | (have hCb3 : Cells wb3 ⟨bb3, 0, none⟩ [_, _, _, _, _] := hBb3.cells) | have hCb3 := Blk.cellsL hBb3
  have hlb3 := hBb3.lt
  have hzb3 := eb3.size
  refine Ox.act rfl rfl (acts_box rfl rfl) ?_
  rintro vb5 wb5 ⟨eb5, bb5, rfl, hbb5, hBb5⟩
  first | (have hCb5 : Cells wb5 ⟨bb5, 0, none⟩ [_, _, _, _, _, _] := hBb5.cells) | have hCb5 := Blk.cellsL hBb5
  have hlb5 := hBb5.lt
  have hzb5 := eb5.size
  refine Ox.pure rfl rfl zas ?_
  refine Ox.fin ?_
  refine ztx ?_
  refine Ox.act rfl rfl (acts_call rfl rfl rfl (saneB_at _)) ?_
  rintro v3 w3 ⟨e3, rfl⟩
  have hz3 := e3.size
  refine Ox.pure rfl rfl (rp_not rfl rfl) ?_
  refine Ox.fin ?_
  refine zcf ?_
  refine zsk ?_
  refine ztx ?_
  refine Ox.val rfl rfl zra ?_
  refine Ox.act rfl rfl (acts_call rfl rfl rfl (ref_FewB s _ (hin.ext0 zxc))) ?_
  rintro v4 w4 ⟨e4, rfl⟩
  have hz4 := e4.size
  first | rw [decide_eq_true hfew] | rw [decide_eq_false hfew]
  refine Ox.pure rfl rfl (rp_not rfl rfl) ?_
  refine Ox.fin ?_
  refine zcf ?_
  refine zsk ?_
  refine ztx ?_
  refine Ox.val rfl rfl zra ?_
  refine Ox.pure rfl rfl zmv ?_
  refine Ox.val rfl rfl zra ?_
  refine Ox.act rfl rfl (acts_call rfl rfl rfl (change_br s hm hw no c _ (hin.ext0 zxc))) ?_
  rintro vu5 wu5 ⟨eu5, v5, rfl, s5, rfl, hi5, hb5, hz5⟩
  have hzu5 := eu5.size
  refine Ox.pure rfl rfl zmv ?_
  refine Ox.pure rfl rfl (rp_extract rfl rfl rfl) ?_
  refine Ox.pure rfl rfl (rp_extract rfl rfl rfl) ?_
  refine Ox.act rfl rfl (acts_alloc rfl rfl) ?_
  rintro va5 wa5 ⟨ea5, ba5, rfl, hba5, hBa5⟩
  first | (have hCa5 : Cells wa5 ⟨ba5, 0, none⟩ [_, _, _, _, _] := hBa5.cells) | have hCa5 := Blk.cellsL hBa5
  have hla5 := hBa5.lt
  have hza5 := ea5.size
  refine Ox.act rfl rfl (acts_store_all rfl rfl rfl hBa5 rfl (by first | rfl | assumption) (by first | rfl | assumption) (by (first | assumption | exact List.all_eq_true.mp rfl | simp [Value.cells, Value.oneCell']))) ?_
  rintro vc5 wc5 ⟨rfl, qc5, hBc5⟩
  have ec5 := Ext.renew ea5 qc5 hba5
  have hzc5 := ec5.size
  have hlc5 := hBc5.lt
  first | (have hCc5 : Cells wc5 ⟨ba5, 0, none⟩ [_, _, _, _, _] := hBc5.cells) | have hCc5 := Blk.cellsL hBc5
  refine Ox.pure rfl rfl zas ?_
  refine Ox.fin ?_
  refine ztx ?_
  refine Ox.val rfl rfl zra ?_
  refine Ox.pure rfl rfl zmv ?_
  refine Ox.val rfl rfl zra ?_
  refine Ox.act rfl rfl (acts_call rfl rfl rfl (refChange_br s hm hw no c _ (hin.ext0 zxc))) ?_
  rintro vu6 wu6 ⟨eu6, v6, rfl, s6, rfl, hi6, hb6, hz6⟩
  have hzu6 := eu6.size
  refine Ox.pure rfl rfl zmv ?_
  refine Ox.pure rfl rfl (rp_extract rfl rfl rfl) ?_
  refine Ox.pure rfl rfl (rp_extract rfl rfl rfl) ?_
  refine Ox.act rfl rfl (acts_alloc rfl rfl) ?_
  rintro va6 wa6 ⟨ea6, ba6, rfl, hba6, hBa6⟩
  first | (have hCa6 : Cells wa6 ⟨ba6, 0, none⟩ [_, _, _, _, _] := hBa6.cells) | have hCa6 := Blk.cellsL hBa6
  have hla6 := hBa6.lt
  have hza6 := ea6.size
  refine Ox.act rfl rfl (acts_store_all rfl rfl rfl hBa6 rfl (by first | rfl | assumption) (by first | rfl | assumption) (by (first | assumption | exact List.all_eq_true.mp rfl | simp [Value.cells, Value.oneCell']))) ?_
  rintro vc6 wc6 ⟨rfl, qc6, hBc6⟩
  have ec6 := Ext.renew ea6 qc6 hba6
  have hzc6 := ec6.size
  have hlc6 := hBc6.lt
  first | (have hCc6 : Cells wc6 ⟨ba6, 0, none⟩ [_, _, _, _, _] := hBc6.cells) | have hCc6 := Blk.cellsL hBc6
  refine Ox.pure rfl rfl zas ?_
  refine Ox.fin ?_
  refine ztx ?_
  refine Ox.val rfl rfl zra ?_
  refine Ox.pure rfl rfl zmv ?_
  refine Ox.act rfl rfl (acts_call rfl rfl rfl (facts_br s hm no _ (hin.ext0 zxc))) ?_
  rintro v5 w5 ⟨e5, p7, A7, c7, rfl, hs7⟩
  have hz5 := e5.size
  refine Ox.pure rfl rfl zmv ?_
  refine Ox.pure rfl rfl (rp_extract rfl rfl rfl) ?_
  refine Ox.pure rfl rfl (rp_extract rfl rfl rfl) ?_
  refine Ox.pure rfl rfl zas ?_
  refine Ox.pure rfl rfl zas ?_
  refine Ox.fin ?_
  refine ztx ?_
  refine Ox.val rfl rfl zra ?_
  refine Ox.pure rfl rfl zmv ?_
  refine Ox.act rfl rfl (acts_call rfl rfl rfl (refFacts_br s hm no _ (hin.ext0 zxc))) ?_
  rintro v6 w6 ⟨e6, p8, A8, c8, rfl, hs8⟩
  have hz6 := e6.size
  refine Ox.pure rfl rfl zmv ?_
  refine Ox.pure rfl rfl (rp_extract rfl rfl rfl) ?_
  refine Ox.pure rfl rfl (rp_extract rfl rfl rfl) ?_
  refine Ox.pure rfl rfl zas ?_
  refine Ox.pure rfl rfl zas ?_
  refine Ox.fin ?_
  refine ztx ?_
  refine Ox.val rfl rfl zra ?_
  refine Ox.val rfl rfl zra ?_
  refine Ox.act rfl rfl (acts_call rfl rfl rfl (ref_SameB s5 s6 _ (hi5.ext0 zxc) (hi6.ext0 zxc))) ?_
  rintro v7 w7 ⟨e7, rfl⟩
  have hz7 := e7.size
  rw [decide_eq_true (hb5.trans hb6.symm)]
  refine Ox.pure rfl rfl zmv ?_
  first | (refine Ox.skip rfl rfl ?_) | (refine Ox.pure rfl rfl zmv ?_)
  first | (refine Ox.skip rfl rfl ?_) | (refine Ox.pure rfl rfl zmv ?_)
  first | (refine Ox.skip rfl rfl ?_) | (refine Ox.pure rfl rfl zbc ?_)
  refine Ox.pure rfl rfl zpk ?_
  refine Ox.pure rfl rfl zmv ?_
  first | (refine Ox.skip rfl rfl ?_) | (refine Ox.pure rfl rfl zmv ?_)
  first | (refine Ox.skip rfl rfl ?_) | (refine Ox.pure rfl rfl zmv ?_)
  first | (refine Ox.skip rfl rfl ?_) | (refine Ox.act rfl rfl (acts_call rfl rfl rfl (ref_Same (factsB s.br no).1 (factsB s.br no).1 p7 p8 A7 A8 c7 c8 _ (hs7.ext0 zxc) (hs8.ext0 zxc))) ?_; rintro v8 w8 ⟨e8, rfl⟩; have hz8 := e8.size; rw [decide_eq_true (show (factsB s.br no).1 = (factsB s.br no).1 from rfl)])
  refine Ox.pure rfl rfl zpk ?_
  refine Ox.pure rfl rfl zmv ?_
  first | (refine Ox.skip rfl rfl ?_) | (refine Ox.pure rfl rfl zmv ?_)
  first | (refine Ox.skip rfl rfl ?_) | (refine Ox.pure rfl rfl zmv ?_)
  first | (refine Ox.skip rfl rfl ?_) | (refine Ox.pure rfl rfl zbc ?_)
  refine Ox.pure rfl rfl zpk ?_
  refine Ox.pure rfl rfl zas ?_
  refine Ox.fin ?_
  refine zrt ?_
  exact endE_ret [_] ⟨rfl, trivial⟩ ⟨zxc, rfl⟩

open Go.ChangeShapes Go.WideShapes Go.ChangeAt Go.RowKit in
theorem lawContract (H : Type) (enc : TypeId × Value → H) (W : World) (base : Nat) (args : Array Value) (ds gs : List (DataW H)) (before : List MemPlace)
    (hval : ∀ (j : Nat) t v, Try.f4.params[j]? = some t → args[j]? = some v → Value.okWide Try.prog W .any base t v)
    (hW : DataW.Whole enc Try.prog Try.f4.params.toList Rows.branchesChangeSpecSpec.vars false W args.toList ds gs before)
    (hw : (DataW.weightsEach Try.prog (Try.f4.params.toList ++ Rows.branchesChangeSpecSpec.plain.varTypes Try.prog) (ds ++ gs)).all (· ≤ reachBytes) = true) :
    Calls Try.prog 4 args W fun e W' => ∃ v, e = .returned v ∧ Rows.branchesChangeSpecSpec.post enc Try.prog Try.f4 false true false false W args v W' := by
  obtain ⟨p, q, hA, hV, rfl, hz, hn⟩ := id hW
  obtain ⟨rfl, rfl⟩ := trodVars_none hV
  have hA' : DataW.TrodAll enc Try.prog W 0 (fun _ => true) true [27, 3, 42] args.toList ds p := hA
  obtain ⟨v0, vs0, d0, ds0, p0, q0, hargs, rfl, rfl, h0, r0⟩ := trodAll_cons hA'
  obtain ⟨v1, vs1, d1, ds1, p1, q1, rfl, rfl, rfl, h1, r1⟩ := trodAll_cons r0
  obtain ⟨v2, vs2, d2, ds2, p2, q2, rfl, rfl, rfl, h2, r2⟩ := trodAll_cons r1
  obtain ⟨rfl, rfl, rfl⟩ := trodAll_nil r2
  obtain rfl : args = #[v0, v1, v2] := by cases args; simp_all
  have hw' : ∀ x ∈ DataW.weightsEach Try.prog [27, 3, 42] [d0, d1, d2], x ≤ reachBytes := by
    have hw2 : (DataW.weightsEach Try.prog [27, 3, 42] [d0, d1, d2]).all (· ≤ reachBytes) = true := hw
    simpa [List.all_eq_true] using hw2
  simp only [DataW.weightsEach, List.mem_append] at hw'
  obtain ⟨s, rfl, hin0⟩ := arg_bran h0 (fun x hx => hw' x (.inl hx))
  obtain ⟨no, rfl, _, _, hb1⟩ := open_int undI (hval 1 3 v1 rfl rfl) h1
  obtain ⟨c, hf2, rfl⟩ := arg_chg h2
  refine (changeLaw s no c W hin0).mono fun e W' he => ?_
  cases e with
  | returned r =>
    obtain ⟨hx, rfl⟩ := he
    exact ⟨_, rfl, post_true (by kernel_rfl) (by kernel_rfl) rfl hW rfl rfl rfl rfl rfl hx⟩
  | panicked c => exact he.elim
  | outgrown => exact he.elim

open Go.ChangeShapes Go.WideShapes Go.ChangeAt Go.RowKit in
set_option maxRecDepth 100000 in
theorem lifted (os : Os) (started : os.Started) (H : Type) (enc : TypeId × Value → H) :
    ReturnsInHanded {} Try.checked os 4 .any (Rows.branchesChangeSpecSpec.pre6 enc Try.prog Try.f4 [] false) (Rows.branchesChangeSpecSpec.post enc Try.prog Try.f4 false true false false) := by
  refine returnsInHanded_of_change_sized (C := Try.checked) (by kernel_rfl) started (by kernel_rfl) Try.func4
    (ChangeSpec.witness6 (enc := enc) (C := Try.checked) (s := Rows.branchesChangeSpecSpec) false ⟨#[], #[.agg #[.slice none 0 0, .slice none 0 0, .slice none 0 0, .slice none 0 0, .slice none 0 0], .int .i64 0, .agg #[.int .i64 0, .int .i64 0, .int .i64 0, .int .i64 0, .int .i64 0, .int .i64 0]], []⟩ 8 (by kernel_rfl) (by kernel_rfl) (by kernel_rfl) (by kernel_rfl)) ?_
  intro W base args ds gs before hval hW _ hw _
  exact lawContract H enc W base args ds gs before hval hW hw

theorem over : Rows.branchesChangeSpecRow.holds Try.pinned (OpenSpec.ofChange Rows.branchesChangeSpecSpec) :=
  OpenClaim.holds_of_wide 4 Try.f4 rfl rfl rfl rfl rfl rfl rfl ⟨rfl, rfl, rfl, rfl, rfl⟩ rfl rfl rfl rfl rfl (by kernel_rfl) Try.func4 (by kernel_rfl)
    (of_decide_eq_true (by kernel_rfl)) (by unfold Func.isWrapper; first | (rw [if_pos (by decide +kernel)]; kernel_rfl) | (rw [if_neg (by decide +kernel)]; exact ⟨rfl, rfl⟩))
    (fun os started H enc _ => lifted os started H enc)

theorem proved : Rows.BranchesChangeSpecSaid := over

end Go.Proofs.Ytfgckcochilpkaa
