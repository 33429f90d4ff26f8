/- The law BranchesMergeSpec: Merge and Drop agree with the reference: for all branchings and numbers, no condition. -/
import Derived.Test.YtfgckcochilpkaaRows
import Derived.Test.YtfgckcochilpkaaWAP10
set_option linter.unusedVariables false
set_option maxRecDepth 100000
set_option maxHeartbeats 4000000
set_option linter.unusedSimpArgs false
namespace Go.Proofs.Ytfgckcochilpkaa
open Go Go.Eng

theorem mergeLaw (s : Bs) (no : Int) (W : World) (hin : BsIn s W) :
    Calls Try.prog 5 #[.agg (bvc s).toArray, .int .i64 no] W (Ret fun r w' => Ext [] W w' ∧ r = .bool true) := by
  refine calls_of_Sx (args := [.agg (bvc s).toArray, .int .i64 no]) Try.func5 rfl rfl ?_
  by_cases hfew : FewB s.br; rotate_left
  · refine ztx ?_
    refine Ox.act rfl rfl (acts_box rfl rfl) ?_
    rintro vb2 wb2 ⟨eb2, bb2, rfl, hbb2, hBb2⟩
    first | (have hCb2 : Cells wb2 ⟨bb2, 0, none⟩ [_, _, _, _, _] := hBb2.cells) | have hCb2 := Blk.cellsL hBb2
    have hlb2 := hBb2.lt
    have hzb2 := eb2.size
    refine Ox.pure rfl rfl zas ?_
    refine Ox.fin ?_
    refine ztx ?_
    refine Ox.act rfl rfl (acts_call rfl rfl rfl (saneB_at _)) ?_
    rintro v1 w1 ⟨e1, rfl⟩
    have hz1 := e1.size
    refine Ox.pure rfl rfl (rp_not rfl rfl) ?_
    refine Ox.fin ?_
    refine zcf ?_
    refine zsk ?_
    refine ztx ?_
    refine Ox.val rfl rfl zra ?_
    refine Ox.act rfl rfl (acts_call rfl rfl rfl (ref_FewB s _ (hin.ext0 zxc))) ?_
    rintro v2 w2 ⟨e2, rfl⟩
    have hz2 := e2.size
    first | rw [decide_eq_true hfew] | rw [decide_eq_false hfew]
    refine Ox.pure rfl rfl (rp_not rfl rfl) ?_
    refine Ox.fin ?_
    refine zct ?_
    refine ztx ?_
    refine Ox.pure rfl rfl zas ?_
    refine Ox.fin ?_
    refine zrt ?_
    exact endE_ret [_] ⟨rfl, trivial⟩ ⟨zxc, rfl⟩
  obtain ⟨hm, hw⟩ := small_of rfl (few_small hfew)
  refine ztx ?_
  refine Ox.act rfl rfl (acts_box rfl rfl) ?_
  rintro vb2 wb2 ⟨eb2, bb2, rfl, hbb2, hBb2⟩
  first | (have hCb2 : Cells wb2 ⟨bb2, 0, none⟩ [_, _, _, _, _] := hBb2.cells) | have hCb2 := Blk.cellsL hBb2
  have hlb2 := hBb2.lt
  have hzb2 := eb2.size
  refine Ox.pure rfl rfl zas ?_
  refine Ox.fin ?_
  refine ztx ?_
  refine Ox.act rfl rfl (acts_call rfl rfl rfl (saneB_at _)) ?_
  rintro v3 w3 ⟨e3, rfl⟩
  have hz3 := e3.size
  refine Ox.pure rfl rfl (rp_not rfl rfl) ?_
  refine Ox.fin ?_
  refine zcf ?_
  refine zsk ?_
  refine ztx ?_
  refine Ox.val rfl rfl zra ?_
  refine Ox.act rfl rfl (acts_call rfl rfl rfl (ref_FewB s _ (hin.ext0 zxc))) ?_
  rintro v4 w4 ⟨e4, rfl⟩
  have hz4 := e4.size
  first | rw [decide_eq_true hfew] | rw [decide_eq_false hfew]
  refine Ox.pure rfl rfl (rp_not rfl rfl) ?_
  refine Ox.fin ?_
  refine zcf ?_
  refine zsk ?_
  refine ztx ?_
  refine Ox.val rfl rfl zra ?_
  refine Ox.pure rfl rfl zmv ?_
  refine Ox.act rfl rfl (acts_call rfl rfl rfl (merge_br s hm hw no _ (hin.ext0 zxc))) ?_
  rintro vu5 wu5 ⟨eu5, v5, p5, A5, c5, rfl, ⟨s5, rfl, hi5, hb5, hz5⟩, hk5⟩
  have hzu5 := eu5.size
  refine Ox.pure rfl rfl zmv ?_
  refine Ox.pure rfl rfl (rp_extract rfl rfl rfl) ?_
  refine Ox.pure rfl rfl (rp_extract rfl rfl rfl) ?_
  refine Ox.pure rfl rfl (rp_extract rfl rfl rfl) ?_
  refine Ox.act rfl rfl (acts_alloc rfl rfl) ?_
  rintro va5 wa5 ⟨ea5, ba5, rfl, hba5, hBa5⟩
  first | (have hCa5 : Cells wa5 ⟨ba5, 0, none⟩ [_, _, _, _, _] := hBa5.cells) | have hCa5 := Blk.cellsL hBa5
  have hla5 := hBa5.lt
  have hza5 := ea5.size
  refine Ox.act rfl rfl (acts_store_all rfl rfl rfl hBa5 rfl (by first | rfl | assumption) (by first | rfl | assumption) (by (first | assumption | exact List.all_eq_true.mp rfl | simp [Value.cells, Value.oneCell']))) ?_
  rintro vc5 wc5 ⟨rfl, qc5, hBc5⟩
  have ec5 := Ext.renew ea5 qc5 hba5
  have hzc5 := ec5.size
  have hlc5 := hBc5.lt
  first | (have hCc5 : Cells wc5 ⟨ba5, 0, none⟩ [_, _, _, _, _] := hBc5.cells) | have hCc5 := Blk.cellsL hBc5
  refine Ox.pure rfl rfl zas ?_
  refine Ox.pure rfl rfl zas ?_
  refine Ox.fin ?_
  refine ztx ?_
  refine Ox.val rfl rfl zra ?_
  refine Ox.pure rfl rfl zmv ?_
  refine Ox.act rfl rfl (acts_call rfl rfl rfl (refMerge_br s hm hw no _ (hin.ext0 zxc))) ?_
  rintro vu6 wu6 ⟨eu6, v6, p6, A6, c6, rfl, ⟨s6, rfl, hi6, hb6, hz6⟩, hk6⟩
  have hzu6 := eu6.size
  refine Ox.pure rfl rfl zmv ?_
  refine Ox.pure rfl rfl (rp_extract rfl rfl rfl) ?_
  refine Ox.pure rfl rfl (rp_extract rfl rfl rfl) ?_
  refine Ox.pure rfl rfl (rp_extract rfl rfl rfl) ?_
  refine Ox.act rfl rfl (acts_alloc rfl rfl) ?_
  rintro va6 wa6 ⟨ea6, ba6, rfl, hba6, hBa6⟩
  first | (have hCa6 : Cells wa6 ⟨ba6, 0, none⟩ [_, _, _, _, _] := hBa6.cells) | have hCa6 := Blk.cellsL hBa6
  have hla6 := hBa6.lt
  have hza6 := ea6.size
  refine Ox.act rfl rfl (acts_store_all rfl rfl rfl hBa6 rfl (by first | rfl | assumption) (by first | rfl | assumption) (by (first | assumption | exact List.all_eq_true.mp rfl | simp [Value.cells, Value.oneCell']))) ?_
  rintro vc6 wc6 ⟨rfl, qc6, hBc6⟩
  have ec6 := Ext.renew ea6 qc6 hba6
  have hzc6 := ec6.size
  have hlc6 := hBc6.lt
  first | (have hCc6 : Cells wc6 ⟨ba6, 0, none⟩ [_, _, _, _, _] := hBc6.cells) | have hCc6 := Blk.cellsL hBc6
  refine Ox.pure rfl rfl zas ?_
  refine Ox.pure rfl rfl zas ?_
  refine Ox.fin ?_
  refine ztx ?_
  refine Ox.val rfl rfl zra ?_
  refine Ox.pure rfl rfl zmv ?_
  refine Ox.act rfl rfl (acts_call rfl rfl rfl (drop_at s hm hw no _ (hin.ext0 zxc))) ?_
  rintro vu7 wu7 ⟨eu7, v7, rfl, s7, rfl, hi7, hb7, hz7⟩
  have hzu7 := eu7.size
  refine Ox.pure rfl rfl zmv ?_
  refine Ox.pure rfl rfl (rp_extract rfl rfl rfl) ?_
  refine Ox.pure rfl rfl (rp_extract rfl rfl rfl) ?_
  refine Ox.act rfl rfl (acts_alloc rfl rfl) ?_
  rintro va7 wa7 ⟨ea7, ba7, rfl, hba7, hBa7⟩
  first | (have hCa7 : Cells wa7 ⟨ba7, 0, none⟩ [_, _, _, _, _] := hBa7.cells) | have hCa7 := Blk.cellsL hBa7
  have hla7 := hBa7.lt
  have hza7 := ea7.size
  refine Ox.act rfl rfl (acts_store_all rfl rfl rfl hBa7 rfl (by first | rfl | assumption) (by first | rfl | assumption) (by (first | assumption | exact List.all_eq_true.mp rfl | simp [Value.cells, Value.oneCell']))) ?_
  rintro vc7 wc7 ⟨rfl, qc7, hBc7⟩
  have ec7 := Ext.renew ea7 qc7 hba7
  have hzc7 := ec7.size
  have hlc7 := hBc7.lt
  first | (have hCc7 : Cells wc7 ⟨ba7, 0, none⟩ [_, _, _, _, _] := hBc7.cells) | have hCc7 := Blk.cellsL hBc7
  refine Ox.pure rfl rfl zas ?_
  refine Ox.fin ?_
  refine ztx ?_
  refine Ox.val rfl rfl zra ?_
  refine Ox.pure rfl rfl zmv ?_
  refine Ox.act rfl rfl (acts_call rfl rfl rfl (refDrop_at s hm hw no _ (hin.ext0 zxc))) ?_
  rintro vu8 wu8 ⟨eu8, v8, rfl, s8, rfl, hi8, hb8, hz8⟩
  have hzu8 := eu8.size
  refine Ox.pure rfl rfl zmv ?_
  refine Ox.pure rfl rfl (rp_extract rfl rfl rfl) ?_
  refine Ox.pure rfl rfl (rp_extract rfl rfl rfl) ?_
  refine Ox.act rfl rfl (acts_alloc rfl rfl) ?_
  rintro va8 wa8 ⟨ea8, ba8, rfl, hba8, hBa8⟩
  first | (have hCa8 : Cells wa8 ⟨ba8, 0, none⟩ [_, _, _, _, _] := hBa8.cells) | have hCa8 := Blk.cellsL hBa8
  have hla8 := hBa8.lt
  have hza8 := ea8.size
  refine Ox.act rfl rfl (acts_store_all rfl rfl rfl hBa8 rfl (by first | rfl | assumption) (by first | rfl | assumption) (by (first | assumption | exact List.all_eq_true.mp rfl | simp [Value.cells, Value.oneCell']))) ?_
  rintro vc8 wc8 ⟨rfl, qc8, hBc8⟩
  have ec8 := Ext.renew ea8 qc8 hba8
  have hzc8 := ec8.size
  have hlc8 := hBc8.lt
  first | (have hCc8 : Cells wc8 ⟨ba8, 0, none⟩ [_, _, _, _, _] := hBc8.cells) | have hCc8 := Blk.cellsL hBc8
  refine Ox.pure rfl rfl zas ?_
  refine Ox.fin ?_
  refine ztx ?_
  refine Ox.val rfl rfl zra ?_
  refine Ox.val rfl rfl zra ?_
  refine Ox.act rfl rfl (acts_call rfl rfl rfl (ref_SameB s5 s6 _ (hi5.ext0 zxc) (hi6.ext0 zxc))) ?_
  rintro v5 w5 ⟨e5, rfl⟩
  have hz5 := e5.size
  rw [decide_eq_true (hb5.trans hb6.symm)]
  refine Ox.pure rfl rfl zmv ?_
  first | (refine Ox.skip rfl rfl ?_) | (refine Ox.pure rfl rfl zmv ?_)
  first | (refine Ox.skip rfl rfl ?_) | (refine Ox.pure rfl rfl zmv ?_)
  first | (refine Ox.skip rfl rfl ?_) | (refine Ox.act rfl rfl (acts_call rfl rfl rfl (ref_SameK (mergeB s.br no).2.1 (mergeB s.br no).2.1 p5 p6 A5 A6 c5 c6 _ (hk5.ext0 zxc) (hk6.ext0 zxc))) ?_; rintro v6 w6 ⟨e6, rfl⟩; have hz6 := e6.size; rw [decide_eq_true (show (mergeB s.br no).2.1 = (mergeB s.br no).2.1 from rfl)])
  refine Ox.pure rfl rfl zpk ?_
  refine Ox.pure rfl rfl zmv ?_
  first | (refine Ox.skip rfl rfl ?_) | (refine Ox.pure rfl rfl zmv ?_)
  first | (refine Ox.skip rfl rfl ?_) | (refine Ox.pure rfl rfl zmv ?_)
  first | (refine Ox.skip rfl rfl ?_) | (refine Ox.pure rfl rfl zbc ?_)
  refine Ox.pure rfl rfl zpk ?_
  refine Ox.pure rfl rfl zmv ?_
  first | (refine Ox.skip rfl rfl ?_) | (refine Ox.val rfl rfl zra ?_)
  first | (refine Ox.skip rfl rfl ?_) | (refine Ox.val rfl rfl zra ?_)
  first | (refine Ox.skip rfl rfl ?_) | (refine Ox.act rfl rfl (acts_call rfl rfl rfl (ref_SameB s7 s8 _ (hi7.ext0 zxc) (hi8.ext0 zxc))) ?_; rintro v7 w7 ⟨e7, rfl⟩; have hz7 := e7.size; rw [decide_eq_true (hb7.trans hb8.symm)])
  refine Ox.pure rfl rfl zpk ?_
  refine Ox.pure rfl rfl zmv ?_
  first | (refine Ox.skip rfl rfl ?_) | (refine Ox.pure rfl rfl zmv ?_)
  first | (refine Ox.skip rfl rfl ?_) | (refine Ox.pure rfl rfl zmv ?_)
  first | (refine Ox.skip rfl rfl ?_) | (refine Ox.pure rfl rfl zbc ?_)
  refine Ox.pure rfl rfl zpk ?_
  refine Ox.pure rfl rfl zas ?_
  refine Ox.fin ?_
  refine zrt ?_
  exact endE_ret [_] ⟨rfl, trivial⟩ ⟨zxc, rfl⟩

open Go.ChangeShapes Go.WideShapes Go.ChangeAt Go.RowKit in
theorem lawContract (H : Type) (enc : TypeId × Value → H) (W : World) (base : Nat) (args : Array Value) (ds gs : List (DataW H)) (before : List MemPlace)
    (hval : ∀ (j : Nat) t v, Try.f5.params[j]? = some t → args[j]? = some v → Value.okWide Try.prog W .any base t v)
    (hW : DataW.Whole enc Try.prog Try.f5.params.toList Rows.branchesMergeSpecSpec.vars false W args.toList ds gs before)
    (hw : (DataW.weightsEach Try.prog (Try.f5.params.toList ++ Rows.branchesMergeSpecSpec.plain.varTypes Try.prog) (ds ++ gs)).all (· ≤ reachBytes) = true) :
    Calls Try.prog 5 args W fun e W' => ∃ v, e = .returned v ∧ Rows.branchesMergeSpecSpec.post enc Try.prog Try.f5 false true false false W args v W' := by
  obtain ⟨p, q, hA, hV, rfl, hz, hn⟩ := id hW
  obtain ⟨rfl, rfl⟩ := trodVars_none hV
  have hA' : DataW.TrodAll enc Try.prog W 0 (fun _ => true) true [27, 3] args.toList ds p := hA
  obtain ⟨v0, vs0, d0, ds0, p0, q0, hargs, rfl, rfl, h0, r0⟩ := trodAll_cons hA'
  obtain ⟨v1, vs1, d1, ds1, p1, q1, rfl, rfl, rfl, h1, r1⟩ := trodAll_cons r0
  obtain ⟨rfl, rfl, rfl⟩ := trodAll_nil r1
  obtain rfl : args = #[v0, v1] := by cases args; simp_all
  have hw' : ∀ x ∈ DataW.weightsEach Try.prog [27, 3] [d0, d1], x ≤ reachBytes := by
    have hw2 : (DataW.weightsEach Try.prog [27, 3] [d0, d1]).all (· ≤ reachBytes) = true := hw
    simpa [List.all_eq_true] using hw2
  simp only [DataW.weightsEach, List.mem_append] at hw'
  obtain ⟨s, rfl, hin0⟩ := arg_bran h0 (fun x hx => hw' x (.inl hx))
  obtain ⟨no, rfl, _, _, hb1⟩ := open_int undI (hval 1 3 v1 rfl rfl) h1
  refine (mergeLaw s no W hin0).mono fun e W' he => ?_
  cases e with
  | returned r =>
    obtain ⟨hx, rfl⟩ := he
    exact ⟨_, rfl, post_true (by kernel_rfl) (by kernel_rfl) rfl hW rfl rfl rfl rfl rfl hx⟩
  | panicked c => exact he.elim
  | outgrown => exact he.elim

open Go.ChangeShapes Go.WideShapes Go.ChangeAt Go.RowKit in
set_option maxRecDepth 100000 in
theorem lifted (os : Os) (started : os.Started) (H : Type) (enc : TypeId × Value → H) :
    ReturnsInHanded {} Try.checked os 5 .any (Rows.branchesMergeSpecSpec.pre6 enc Try.prog Try.f5 [] false) (Rows.branchesMergeSpecSpec.post enc Try.prog Try.f5 false true false false) := by
  refine returnsInHanded_of_change_sized (C := Try.checked) (by kernel_rfl) started (by kernel_rfl) Try.func5
    (ChangeSpec.witness6 (enc := enc) (C := Try.checked) (s := Rows.branchesMergeSpecSpec) false ⟨#[], #[.agg #[.slice none 0 0, .slice none 0 0, .slice none 0 0, .slice none 0 0, .slice none 0 0], .int .i64 0], []⟩ 8 (by kernel_rfl) (by kernel_rfl) (by kernel_rfl) (by kernel_rfl)) ?_
  intro W base args ds gs before hval hW _ hw _
  exact lawContract H enc W base args ds gs before hval hW hw

theorem over : Rows.branchesMergeSpecRow.holds Try.pinned (OpenSpec.ofChange Rows.branchesMergeSpecSpec) :=
  OpenClaim.holds_of_wide 5 Try.f5 rfl rfl rfl rfl rfl rfl rfl ⟨rfl, rfl, rfl, rfl, rfl⟩ rfl rfl rfl rfl rfl (by kernel_rfl) Try.func5 (by kernel_rfl)
    (of_decide_eq_true (by kernel_rfl)) (by unfold Func.isWrapper; first | (rw [if_pos (by decide +kernel)]; kernel_rfl) | (rw [if_neg (by decide +kernel)]; exact ⟨rfl, rfl⟩))
    (fun os started H enc _ => lifted os started H enc)

theorem proved : Rows.BranchesMergeSpecSaid := over

end Go.Proofs.Ytfgckcochilpkaa
