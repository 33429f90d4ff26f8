/- The codec's walks: the examples. -/
import Derived.Test.YtflopfjhejchfaaRows
import Derived.Test.YtflopfjhejchfaaCodecE
import Derived.Test.YtflopfjhejchfaaCodecS
import Derived.Test.YtflopfjhejchfaaCodecF
set_option linter.unusedVariables false
set_option linter.unusedSimpArgs false
namespace Go.Proofs.Ytflopfjhejchfaa
open Go Go.Eng

def sv1 : V := .mk 1 (-3) [] []
def sv2 : V := .mk 3 0 [] [.mk 1 100 [] [], .mk 2 0 [97, 98] []]
theorem sv1_check : checkV sv1 = 0 := by decide
theorem sv2_check : checkV sv2 = 0 := by decide
theorem sv1_enc : encR sv1 = [1, 5] := by rw [encR, if_pos sv1_check]; simp [sv1, encV, zig, numeralL_lt]
theorem sv2_encV : encV sv2 = [3, 2, 1, 200, 1, 2, 2, 97, 98] := by simp [sv2, encV, encL, zig, numeralL_lt, numeralL_ge]
theorem sv2_enc : encR sv2 = [3, 2, 1, 200, 1, 2, 2, 97, 98] := by rw [encR, if_pos sv2_check, sv2_encV]
theorem sv2_ok : okV sv2 := by simp [sv2, okV, okL, in64]
theorem sv2_dec : decRes [3, 2, 1, 200, 1, 2, 2, 97, 98] = (sv2, 0) := by
  have h := dec_enc sv2 16 [] (check_formed sv2_check) (by decide) sv2_ok
  rw [List.append_nil, sv2_encV] at h
  rw [decRes, h]
def sbad : List (List UInt8) := [[], [1, 128, 0], [1, 5, 0], [2, 3, 97]]
theorem sbad_dec : ∀ s ∈ sbad, (decRes s).2 = 10 := by decide
theorem szero_check : checkV zeroV = 1 := by decide
theorem same_self (v : V) : sameV v v = true := (sameV_eq v v).mpr rfl

theorem sane_at (w : World) : Calls Try.prog 10 #[] w (Ret fun r w' => Ext [] w w' ∧ r = .bool true) := by
  have h1 := sv1_enc
  have h1c := sv1_check
  have h2 := sv2_enc
  have h2c := sv2_check
  have hsame := same_self sv2
  have hsame2 : sameV (.mk 2 0 [] []) (.mk 3 0 [] []) = false := by decide
  refine calls_of_Sx (args := []) Try.func10 rfl rfl ?_
  (repeat refine Sx.seq ?_)
  refine Sx.textR ?_
  refine Ox.pure rfl rfl (rp_assign rfl rfl) ?_
  refine Ox.nil ?_
  (repeat first | refine thenE_normal ?_ | refine thenE_exit ?_ | refine thenE_ret ?_ | refine blockE_normal ?_ | refine blockE_ret ?_ | refine blockE_same ?_ | refine blockE_other rfl ?_)
  (repeat refine Sx.seq ?_)
  refine Sx.textR ?_
  refine Ox.act rfl rfl (acts_call rfl rfl rfl (ref_Int (-3) _)) ?_
  rintro vi1 wi1 ⟨ei1, rfl⟩
  have hzi1 := ei1.size
  refine Ox.act rfl rfl (acts_call rfl rfl rfl (encode_at sv1 (fun _ => False) _ _ (rep_plain _ _ ⟨by decide, by decide⟩ ⟨by decide, by decide⟩ (by simp)) (by decide) (by simp [sv1, encV, zig, numeralL_lt]))) ?_
  rintro vn1 wn1 ⟨en1, bn1, rfl, hon1⟩
  have hzn1 := en1.size
  rw [sv1_check]; rw [OwnB, sv1_enc] at hon1; obtain ⟨p1, k1, A1, rfl, hsl1, _⟩ := own_sl hon1; have hd1 := hsl1.2
  refine Ox.pure rfl rfl (rp_move rfl rfl) ?_
  refine Ox.pure rfl rfl (rp_extract rfl rfl rfl) ?_
  refine Ox.pure rfl rfl (rp_extract rfl rfl rfl) ?_
  refine Ox.pure rfl rfl (rp_assign rfl rfl) ?_
  refine Ox.pure rfl rfl (rp_assign rfl rfl) ?_
  refine Ox.nil ?_
  (repeat first | refine thenE_normal ?_ | refine thenE_exit ?_ | refine thenE_ret ?_ | refine blockE_normal ?_ | refine blockE_ret ?_ | refine blockE_same ?_ | refine blockE_other rfl ?_)
  (repeat refine Sx.seq ?_)
  refine Sx.textR ?_
  refine Ox.act rfl rfl (acts_call rfl rfl rfl (ref_Int 100 _)) ?_
  rintro vi2 wi2 ⟨ei2, rfl⟩
  have hzi2 := ei2.size
  refine Ox.act rfl rfl (acts_call rfl rfl rfl (ref_Text [97, 98] _)) ?_
  rintro vi3 wi3 ⟨ei3, rfl⟩
  have hzi3 := ei3.size
  refine Ox.act rfl rfl (acts_buildSlice (ps := [(0, .tmp 19), (1, .tmp 20)]) rfl rfl rfl rfl rfl rfl rfl rfl) ?_
  rintro vbs wbs ⟨ebs, bbs, rfl, hbbs, hBbs⟩
  first | (have hCbs : Cells wbs ⟨bbs, 0, none⟩ [_, _, _, _, _, _, _, _] := hBbs.cells) | have hCbs := Blk.cellsL hBbs
  have hlbs := hBbs.lt
  have hzbs := ebs.size
  refine Ox.act rfl rfl (acts_call rfl rfl rfl (ref_List _ 2 2 _)) ?_
  rintro vi4 wi4 ⟨ei4, rfl⟩
  have hzi4 := ei4.size
  refine Ox.act rfl rfl (acts_alloc rfl rfl) ?_
  rintro va3 wa3 ⟨ea3, ba3, rfl, hba3, hBa3⟩
  first | (have hCa3 : Cells wa3 ⟨ba3, 0, none⟩ [_, _, _, _] := hBa3.cells) | have hCa3 := Blk.cellsL hBa3
  have hla3 := hBa3.lt
  have hza3 := ea3.size
  refine Ox.act rfl rfl (acts_store_all rfl rfl rfl hBa3 rfl (by first | rfl | assumption) (by first | rfl | assumption) (by (first | assumption | exact List.all_eq_true.mp rfl | simp [Value.cells, Value.oneCell']))) ?_
  rintro vs3 ws3 ⟨rfl, qs3, hBs3⟩
  have es3 := Ext.renew ea3 qs3 hba3
  have hzs3 := es3.size
  first | (have hCs3 : Cells ws3 ⟨ba3, 0, none⟩ [_, _, _, _] := hBs3.cells) | have hCs3 := Blk.cellsL hBs3
  refine Ox.nil ?_
  (repeat first | refine thenE_normal ?_ | refine thenE_exit ?_ | refine thenE_ret ?_ | refine blockE_normal ?_ | refine blockE_ret ?_ | refine blockE_same ?_ | refine blockE_other rfl ?_)
  have hrow : Cells wbs ⟨bbs, 0, none⟩ [.int .i64 1, .int .i64 100, .string ⟨[].toArray⟩, nilS, .int .i64 2, .int .i64 0, .string ⟨[97, 98].toArray⟩, nilS] := hCbs
  have hrep2 : rep (fun _ => True) wbs sv2 [.int .i64 3, .int .i64 0, .string ⟨[].toArray⟩, .slice (some ⟨bbs, 0, none⟩) 2 2] :=
    ⟨⟨by decide, by decide⟩, ⟨by decide, by decide⟩, by simp, by simp, _, 2, ⟨bbs, 0, none⟩, _, rfl, by simp, by simp, ⟨fun _ => rfl, hrow⟩, fun _ => ⟨trivial, hlbs⟩,
      [.int .i64 1, .int .i64 100, .string ⟨[].toArray⟩, nilS], [.int .i64 2, .int .i64 0, .string ⟨[97, 98].toArray⟩, nilS], rfl, rep_plain _ _ ⟨by decide, by decide⟩ ⟨by decide, by decide⟩ (by simp),
      [.int .i64 2, .int .i64 0, .string ⟨[97, 98].toArray⟩, nilS], [], rfl, rep_plain _ _ ⟨by decide, by decide⟩ ⟨by decide, by decide⟩ (by simp), rfl⟩
  (repeat refine Sx.seq ?_)
  refine Sx.textR ?_
  refine Ox.val rfl rfl (rv_load rfl rfl (by (intro u hu; first | exact Cells.ld (Cells.ext0 (by assumption) (by ((repeat (first | exact Ext.refl _ _ | assumption | refine Ext.trans ?_ (by assumption))); (first | done | fail "chain")))) _ rfl rfl | exact Cells.ld0 (Cells.ext0 (by assumption) (by ((repeat (first | exact Ext.refl _ _ | assumption | refine Ext.trans ?_ (by assumption))); (first | done | fail "chain")))) rfl rfl | exact Cells.ldA (Cells.ext0 (by assumption) (by ((repeat (first | exact Ext.refl _ _ | assumption | refine Ext.trans ?_ (by assumption))); (first | done | fail "chain")))) rfl rfl | exact Cells.ldL (Cells.ext0 (by assumption) (by ((repeat (first | exact Ext.refl _ _ | assumption | refine Ext.trans ?_ (by assumption))); (first | done | fail "chain")))) rfl rfl (by assumption) | exact Cells.ldP (Cells.ext0 (by assumption) (by ((repeat (first | exact Ext.refl _ _ | assumption | refine Ext.trans ?_ (by assumption))); (first | done | fail "chain")))) _ rfl rfl rfl rfl | exact Cells.ldP (Cells.ext0 (by assumption) (by ((repeat (first | exact Ext.refl _ _ | assumption | refine Ext.trans ?_ (by assumption))); (first | done | fail "chain")))) _ rfl rfl (by assumption) (by assumption)))) ?_
  refine Ox.act rfl rfl (acts_call rfl rfl rfl (encode_at sv2 (fun _ => True) _ _ (rep_ext0 (by ((repeat (first | exact Ext.refl _ _ | assumption | refine Ext.trans ?_ (by assumption))); (first | done | fail "chain"))) hrep2) (by decide) (by rw [sv2_encV]; decide))) ?_
  rintro vn2 wn2 ⟨en2, bn2, rfl, hon2⟩
  have hzn2 := en2.size
  rw [sv2_check]; rw [OwnB, sv2_enc] at hon2; obtain ⟨p2, k2, A2, rfl, hsl2, hk2, _⟩ := own_sl hon2; have hd2 := hsl2.2
  refine Ox.pure rfl rfl (rp_move rfl rfl) ?_
  refine Ox.pure rfl rfl (rp_extract rfl rfl rfl) ?_
  refine Ox.pure rfl rfl (rp_extract rfl rfl rfl) ?_
  refine Ox.pure rfl rfl (rp_assign rfl rfl) ?_
  refine Ox.pure rfl rfl (rp_assign rfl rfl) ?_
  refine Ox.nil ?_
  (repeat first | refine thenE_normal ?_ | refine thenE_exit ?_ | refine thenE_ret ?_ | refine blockE_normal ?_ | refine blockE_ret ?_ | refine blockE_same ?_ | refine blockE_other rfl ?_)
  (repeat refine Sx.seq ?_)
  refine Sx.textR ?_
  refine Ox.pure rfl rfl (rp_move rfl rfl) ?_
  refine Ox.act rfl rfl (acts_call rfl rfl rfl (decode_at [3, 2, 1, 200, 1, 2, 2, 97, 98] p2 A2 k2 _ (by decide) hk2 (hsl2.ext0 (by ((repeat (first | exact Ext.refl _ _ | assumption | refine Ext.trans ?_ (by assumption))); (first | done | fail "chain")))))) ?_
  rintro vdc wdc ⟨edc, csd, rfl, hrd⟩
  have hzdc := edc.size
  simp only [sv2_dec] at hrd ⊢; have hc4 := rep_length hrd; have hone := rep_one hrd
  refine Ox.pure rfl rfl (rp_move rfl rfl) ?_
  refine Ox.pure rfl rfl (rp_extract rfl rfl rfl) ?_
  refine Ox.pure rfl rfl (rp_extract rfl rfl rfl) ?_
  refine Ox.act rfl rfl (acts_alloc rfl rfl) ?_
  rintro v1 w1 ⟨e1, b1, rfl, hb1, hB1⟩
  first | (have hC1 : Cells w1 ⟨b1, 0, none⟩ [_, _, _, _] := hB1.cells) | have hC1 := Blk.cellsL hB1
  have hl1 := hB1.lt
  have hz1 := e1.size
  refine Ox.act rfl rfl (acts_store_all rfl rfl rfl hB1 rfl (by first | rfl | assumption) (by first | rfl | assumption) (by (first | assumption | exact List.all_eq_true.mp rfl | simp [Value.cells, Value.oneCell']))) ?_
  rintro v2 w2 ⟨rfl, q2, hB2⟩
  have e2 := Ext.renew e1 q2 hb1
  have hz2 := e2.size
  first | (have hC2 : Cells w2 ⟨b1, 0, none⟩ [_, _, _, _] := hB2.cells) | have hC2 := Blk.cellsL hB2
  refine Ox.pure rfl rfl (rp_assign rfl rfl) ?_
  refine Ox.nil ?_
  (repeat first | refine thenE_normal ?_ | refine thenE_exit ?_ | refine thenE_ret ?_ | refine blockE_normal ?_ | refine blockE_ret ?_ | refine blockE_same ?_ | refine blockE_other rfl ?_)
  (repeat refine Sx.seq ?_)
  refine Sx.textR ?_
  refine Ox.val rfl rfl (rv_load rfl rfl (by (intro u hu; first | exact Cells.ld (Cells.ext0 (by assumption) (by ((repeat (first | exact Ext.refl _ _ | assumption | refine Ext.trans ?_ (by assumption))); (first | done | fail "chain")))) _ rfl rfl | exact Cells.ld0 (Cells.ext0 (by assumption) (by ((repeat (first | exact Ext.refl _ _ | assumption | refine Ext.trans ?_ (by assumption))); (first | done | fail "chain")))) rfl rfl | exact Cells.ldA (Cells.ext0 (by assumption) (by ((repeat (first | exact Ext.refl _ _ | assumption | refine Ext.trans ?_ (by assumption))); (first | done | fail "chain")))) rfl rfl | exact Cells.ldL (Cells.ext0 (by assumption) (by ((repeat (first | exact Ext.refl _ _ | assumption | refine Ext.trans ?_ (by assumption))); (first | done | fail "chain")))) rfl rfl (by assumption) | exact Cells.ldP (Cells.ext0 (by assumption) (by ((repeat (first | exact Ext.refl _ _ | assumption | refine Ext.trans ?_ (by assumption))); (first | done | fail "chain")))) _ rfl rfl rfl rfl | exact Cells.ldP (Cells.ext0 (by assumption) (by ((repeat (first | exact Ext.refl _ _ | assumption | refine Ext.trans ?_ (by assumption))); (first | done | fail "chain")))) _ rfl rfl (by assumption) (by assumption)))) ?_
  refine Ox.act rfl rfl (acts_call rfl rfl rfl (size_at sv2 (fun _ => True) _ _ (rep_ext0 (by ((repeat (first | exact Ext.refl _ _ | assumption | refine Ext.trans ?_ (by assumption))); (first | done | fail "chain"))) hrep2) (by decide) (by rw [sv2_encV]; decide))) ?_
  rintro v3 w3 ⟨e3, rfl⟩
  have hz3 := e3.size
  rw [sv2_check, sv2_enc]
  refine Ox.pure rfl rfl (rp_move rfl rfl) ?_
  refine Ox.pure rfl rfl (rp_extract rfl rfl rfl) ?_
  refine Ox.pure rfl rfl (rp_extract rfl rfl rfl) ?_
  refine Ox.pure rfl rfl (rp_assign rfl rfl) ?_
  refine Ox.pure rfl rfl (rp_assign rfl rfl) ?_
  refine Ox.nil ?_
  (repeat first | refine thenE_normal ?_ | refine thenE_exit ?_ | refine thenE_ret ?_ | refine blockE_normal ?_ | refine blockE_ret ?_ | refine blockE_same ?_ | refine blockE_other rfl ?_)
  (repeat refine Sx.seq ?_)
  refine Sx.textR ?_
  refine Ox.pure rfl rfl (rp_move rfl rfl) ?_
  refine Ox.pure rfl rfl (by first | exact rp_bin rfl rfl rfl (binI_t (by omega)) | exact rp_bin rfl rfl rfl (binI_f (by omega)) | exact rp_bin rfl rfl rfl rfl) ?_
  refine Ox.pure rfl rfl (rp_move rfl rfl) ?_
  first | (refine Ox.skip rfl rfl ?_) | (refine Ox.pure rfl rfl (rp_move rfl rfl) ?_)
  first | (refine Ox.skip rfl rfl ?_) | (refine Ox.val rfl rfl (rv_bytes (A := A1) (l := [1, 5]) rfl rfl rfl rfl rfl rfl hsl1.1 (fun u hu => (hd1.ext0 (by ((repeat (first | exact Ext.refl _ _ | assumption | refine Ext.trans ?_ (by assumption))); (first | done | fail "chain")))).ext0 hu)) ?_)
  first | (refine Ox.skip rfl rfl ?_) | (refine Ox.pure rfl rfl (by first | exact rp_strNe_t rfl rfl rfl (by (first | assumption | rfl | decide)) | exact rp_strNe_f rfl rfl rfl (by (first | assumption | rfl | decide)) | exact rp_strNe rfl rfl rfl) ?_)
  refine Ox.pure rfl rfl (by first | exact rp_pick_t rfl rfl rfl | exact rp_pick_f rfl rfl rfl) ?_
  refine Ox.pure rfl rfl (rp_move rfl rfl) ?_
  first | (refine Ox.skip rfl rfl ?_) | (refine Ox.pure rfl rfl (rp_move rfl rfl) ?_)
  first | (refine Ox.skip rfl rfl ?_) | (refine Ox.pure rfl rfl (by first | exact rp_bin rfl rfl rfl (binI_t (by omega)) | exact rp_bin rfl rfl rfl (binI_f (by omega)) | exact rp_bin rfl rfl rfl rfl) ?_)
  refine Ox.pure rfl rfl (by first | exact rp_pick_t rfl rfl rfl | exact rp_pick_f rfl rfl rfl) ?_
  refine Ox.pure rfl rfl (rp_move rfl rfl) ?_
  first | (refine Ox.skip rfl rfl ?_) | (refine Ox.pure rfl rfl (rp_move rfl rfl) ?_)
  first | (refine Ox.skip rfl rfl ?_) | (refine Ox.val rfl rfl (rv_bytes (A := A2) (l := [3, 2, 1, 200, 1, 2, 2, 97, 98]) rfl rfl rfl rfl rfl rfl hsl2.1 (fun u hu => (hd2.ext0 (by ((repeat (first | exact Ext.refl _ _ | assumption | refine Ext.trans ?_ (by assumption))); (first | done | fail "chain")))).ext0 hu)) ?_)
  first | (refine Ox.skip rfl rfl ?_) | (refine Ox.pure rfl rfl (by first | exact rp_strNe_t rfl rfl rfl (by (first | assumption | rfl | decide)) | exact rp_strNe_f rfl rfl rfl (by (first | assumption | rfl | decide)) | exact rp_strNe rfl rfl rfl) ?_)
  refine Ox.pure rfl rfl (by first | exact rp_pick_t rfl rfl rfl | exact rp_pick_f rfl rfl rfl) ?_
  refine Ox.pure rfl rfl (rp_move rfl rfl) ?_
  first | (refine Ox.skip rfl rfl ?_) | (refine Ox.pure rfl rfl (rp_move rfl rfl) ?_)
  first | (refine Ox.skip rfl rfl ?_) | (refine Ox.pure rfl rfl (by first | exact rp_bin rfl rfl rfl (binI_t (by omega)) | exact rp_bin rfl rfl rfl (binI_f (by omega)) | exact rp_bin rfl rfl rfl rfl) ?_)
  refine Ox.pure rfl rfl (by first | exact rp_pick_t rfl rfl rfl | exact rp_pick_f rfl rfl rfl) ?_
  refine Ox.pure rfl rfl (rp_move rfl rfl) ?_
  first | (refine Ox.skip rfl rfl ?_) | (refine Ox.val rfl rfl (rv_load rfl rfl (by (intro u hu; first | exact Cells.ld (Cells.ext0 (by assumption) (by ((repeat (first | exact Ext.refl _ _ | assumption | refine Ext.trans ?_ (by assumption))); (first | done | fail "chain")))) _ rfl rfl | exact Cells.ld0 (Cells.ext0 (by assumption) (by ((repeat (first | exact Ext.refl _ _ | assumption | refine Ext.trans ?_ (by assumption))); (first | done | fail "chain")))) rfl rfl | exact Cells.ldA (Cells.ext0 (by assumption) (by ((repeat (first | exact Ext.refl _ _ | assumption | refine Ext.trans ?_ (by assumption))); (first | done | fail "chain")))) rfl rfl | exact Cells.ldL (Cells.ext0 (by assumption) (by ((repeat (first | exact Ext.refl _ _ | assumption | refine Ext.trans ?_ (by assumption))); (first | done | fail "chain")))) rfl rfl (by assumption) | exact Cells.ldP (Cells.ext0 (by assumption) (by ((repeat (first | exact Ext.refl _ _ | assumption | refine Ext.trans ?_ (by assumption))); (first | done | fail "chain")))) _ rfl rfl rfl rfl | exact Cells.ldP (Cells.ext0 (by assumption) (by ((repeat (first | exact Ext.refl _ _ | assumption | refine Ext.trans ?_ (by assumption))); (first | done | fail "chain")))) _ rfl rfl (by assumption) (by assumption)))) ?_)
  first | (refine Ox.skip rfl rfl ?_) | (refine Ox.val rfl rfl (rv_load rfl rfl (by (intro u hu; first | exact Cells.ld (Cells.ext0 (by assumption) (by ((repeat (first | exact Ext.refl _ _ | assumption | refine Ext.trans ?_ (by assumption))); (first | done | fail "chain")))) _ rfl rfl | exact Cells.ld0 (Cells.ext0 (by assumption) (by ((repeat (first | exact Ext.refl _ _ | assumption | refine Ext.trans ?_ (by assumption))); (first | done | fail "chain")))) rfl rfl | exact Cells.ldA (Cells.ext0 (by assumption) (by ((repeat (first | exact Ext.refl _ _ | assumption | refine Ext.trans ?_ (by assumption))); (first | done | fail "chain")))) rfl rfl | exact Cells.ldL (Cells.ext0 (by assumption) (by ((repeat (first | exact Ext.refl _ _ | assumption | refine Ext.trans ?_ (by assumption))); (first | done | fail "chain")))) rfl rfl (by assumption) | exact Cells.ldP (Cells.ext0 (by assumption) (by ((repeat (first | exact Ext.refl _ _ | assumption | refine Ext.trans ?_ (by assumption))); (first | done | fail "chain")))) _ rfl rfl rfl rfl | exact Cells.ldP (Cells.ext0 (by assumption) (by ((repeat (first | exact Ext.refl _ _ | assumption | refine Ext.trans ?_ (by assumption))); (first | done | fail "chain")))) _ rfl rfl (by assumption) (by assumption)))) ?_)
  first | (refine Ox.skip rfl rfl ?_) | (refine Ox.act rfl rfl (acts_call rfl rfl rfl (same_at sv2 sv2 (fun _ => True) _ _ _ _ (rep_ext0 (by ((repeat (first | exact Ext.refl _ _ | assumption | refine Ext.trans ?_ (by assumption))); (first | done | fail "chain"))) hrep2) (rep_ext0 (by ((repeat (first | exact Ext.refl _ _ | assumption | refine Ext.trans ?_ (by assumption))); (first | done | fail "chain"))) hrd))) ?_; rintro v4 w4 ⟨e4, rfl⟩; have hz4 := e4.size; rw [hsame])
  first | (refine Ox.skip rfl rfl ?_) | (refine Ox.pure rfl rfl (rp_not rfl rfl) ?_)
  refine Ox.pure rfl rfl (by first | exact rp_pick_t rfl rfl rfl | exact rp_pick_f rfl rfl rfl) ?_
  refine Ox.pure rfl rfl (rp_move rfl rfl) ?_
  first | (refine Ox.skip rfl rfl ?_) | (refine Ox.pure rfl rfl (rp_move rfl rfl) ?_)
  first | (refine Ox.skip rfl rfl ?_) | (refine Ox.pure rfl rfl (by first | exact rp_bin rfl rfl rfl (binI_t (by omega)) | exact rp_bin rfl rfl rfl (binI_f (by omega)) | exact rp_bin rfl rfl rfl rfl) ?_)
  refine Ox.pure rfl rfl (by first | exact rp_pick_t rfl rfl rfl | exact rp_pick_f rfl rfl rfl) ?_
  refine Ox.pure rfl rfl (rp_move rfl rfl) ?_
  first | (refine Ox.skip rfl rfl ?_) | (refine Ox.pure rfl rfl (rp_move rfl rfl) ?_)
  first | (refine Ox.skip rfl rfl ?_) | (refine Ox.pure rfl rfl (by first | exact rp_bin rfl rfl rfl (binI_t (by omega)) | exact rp_bin rfl rfl rfl (binI_f (by omega)) | exact rp_bin rfl rfl rfl rfl) ?_)
  refine Ox.pure rfl rfl (by first | exact rp_pick_t rfl rfl rfl | exact rp_pick_f rfl rfl rfl) ?_
  refine Ox.pure rfl rfl (rp_move rfl rfl) ?_
  first | (refine Ox.skip rfl rfl ?_) | (refine Ox.act rfl rfl (acts_call rfl rfl rfl (ref_Text [] _)) ?_; rintro v5 w5 ⟨e5, rfl⟩; have hz5 := e5.size)
  first | (refine Ox.skip rfl rfl ?_) | (refine Ox.act rfl rfl (acts_call rfl rfl rfl (ref_List none 0 0 _)) ?_; rintro v6 w6 ⟨e6, rfl⟩; have hz6 := e6.size)
  first | (refine Ox.skip rfl rfl ?_) | (refine Ox.act rfl rfl (acts_call rfl rfl rfl (same_at (.mk 2 0 [] []) (.mk 3 0 [] []) (fun _ => False) (fun _ => False) _ _ _ (rep_plain _ _ ⟨by decide, by decide⟩ ⟨by decide, by decide⟩ (by simp)) (rep_plain _ _ ⟨by decide, by decide⟩ ⟨by decide, by decide⟩ (by simp)))) ?_; rintro v7 w7 ⟨e7, rfl⟩; have hz7 := e7.size; rw [hsame2])
  refine Ox.pure rfl rfl (by first | exact rp_pick_t rfl rfl rfl | exact rp_pick_f rfl rfl rfl) ?_
  refine Ox.nil ?_
  (repeat first | refine thenE_normal ?_ | refine thenE_exit ?_ | refine thenE_ret ?_ | refine blockE_normal ?_ | refine blockE_ret ?_ | refine blockE_same ?_ | refine blockE_other rfl ?_)
  (repeat refine Sx.seq ?_); first | refine Sx.cond_false rfl ?_ | refine Sx.cond rfl (fun h => absurd h (by simp [*])) (fun _ => ?_)
  (repeat refine Sx.seq ?_); refine Sx.skip ?_
  (repeat first | refine thenE_normal ?_ | refine thenE_exit ?_ | refine thenE_ret ?_ | refine blockE_normal ?_ | refine blockE_ret ?_ | refine blockE_same ?_ | refine blockE_other rfl ?_)
  (repeat refine Sx.seq ?_)
  refine Sx.textR ?_
  refine Ox.act rfl rfl (acts_buildSlice (ps := [(0, .const _), (1, .const _), (2, .const _), (3, .const _)]) rfl rfl rfl rfl rfl rfl rfl rfl) ?_
  rintro vbz wbz ⟨ebz, bbz, rfl, hbbz, hBbz⟩
  first | (have hCbz : Cells wbz ⟨bbz, 0, none⟩ [_, _, _, _] := hBbz.cells) | have hCbz := Blk.cellsL hBbz
  have hlbz := hBbz.lt
  have hzbz := ebz.size
  refine Ox.pure rfl rfl (rp_lenS rfl rfl rfl) ?_
  refine Ox.pure rfl rfl (rp_move rfl rfl) ?_
  refine Ox.nil ?_
  (repeat first | refine thenE_normal ?_ | refine thenE_exit ?_ | refine thenE_ret ?_ | refine blockE_normal ?_ | refine blockE_ret ?_ | refine blockE_same ?_ | refine blockE_other rfl ?_)
  (repeat refine Sx.seq ?_); refine Sx.block ?_
  have hrz : Cells wbz ⟨bbz, 0, none⟩ [.string ⟨[].toArray⟩, .string ⟨[1, 128, 0].toArray⟩, .string ⟨[1, 5, 0].toArray⟩, .string ⟨[2, 3, 97].toArray⟩] := hCbz
  have ez0 : Ext [] w wbz := by ((repeat (first | exact Ext.refl _ _ | assumption | refine Ext.trans ?_ (by assumption))); (first | done | fail "chain"))
  refine Sx.loop (ι := Nat) (fun i E wr => E = [(77, .slice (some ⟨bbz, 0, none⟩) 4 4), (78, .int .i64 4), (79, .int .i64 (i : Int))] ∧ i ≤ 4 ∧ Ext [] wbz wr) (fun i => 4 - i) 0
    (sub_cons rfl (sub_cons rfl (sub_cons rfl sub_nil))) ⟨rfl, by decide, by ((repeat (first | exact Ext.refl _ _ | assumption | refine Ext.trans ?_ (by assumption))); (first | done | fail "chain"))⟩ ?_
  rintro i E wr ⟨rfl, hi, er⟩
  by_cases hlt : i < 4
  · have hcell : ∃ s, s ∈ sbad ∧ s.length ≤ 3 ∧ [Value.string ⟨[].toArray⟩, .string ⟨[1, 128, 0].toArray⟩, .string ⟨[1, 5, 0].toArray⟩, .string ⟨[2, 3, 97].toArray⟩][i * 1]? = some (.string ⟨s.toArray⟩) := by
      have h4 : i = 0 ∨ i = 1 ∨ i = 2 ∨ i = 3 := by omega
      rcases h4 with rfl | rfl | rfl | rfl
      · exact ⟨[], by decide, by decide, rfl⟩
      · exact ⟨[1, 128, 0], by decide, by decide, rfl⟩
      · exact ⟨[1, 5, 0], by decide, by decide, rfl⟩
      · exact ⟨[2, 3, 97], by decide, by decide, rfl⟩
    obtain ⟨sx, hsx, hsl, hcell⟩ := hcell
    have hdx := sbad_dec sx hsx
    (repeat refine Sx.seq ?_)
    refine Sx.textR ?_
    refine Ox.pure rfl rfl (by first | exact rp_bin rfl rfl rfl (binI_t (by omega)) | exact rp_bin rfl rfl rfl (binI_f (by omega)) | exact rp_bin rfl rfl rfl rfl) ?_
    refine Ox.nil ?_
    (repeat first | refine thenE_normal ?_ | refine thenE_exit ?_ | refine thenE_ret ?_ | refine blockE_normal ?_ | refine blockE_ret ?_ | refine blockE_same ?_ | refine blockE_other rfl ?_)
    (repeat refine Sx.seq ?_); first | refine Sx.cond_true rfl ?_ | refine Sx.cond rfl (fun _ => ?_) (fun h => absurd h (by simp [*]))
    (repeat refine Sx.seq ?_); refine Sx.skip ?_
    (repeat first | refine thenE_normal ?_ | refine thenE_exit ?_ | refine thenE_ret ?_ | refine blockE_normal ?_ | refine blockE_ret ?_ | refine blockE_same ?_ | refine blockE_other rfl ?_)
    (repeat refine Sx.seq ?_); refine Sx.block ?_
    (repeat refine Sx.seq ?_)
    refine Sx.textR ?_
    refine Ox.pure rfl rfl (rp_indexAddr i rfl rfl rfl rfl rfl (fun _ => rfl) rfl hlt) ?_
    refine Ox.val rfl rfl (rv_load rfl rfl (fun u hu => ((hrz.ext0 (by ((repeat (first | exact Ext.refl _ _ | assumption | refine Ext.trans ?_ (by assumption))); (first | done | fail "chain")))).ext0 hu).ld _ rfl hcell)) ?_
    refine Ox.pure rfl rfl (rp_assign rfl rfl) ?_
    refine Ox.nil ?_
    (repeat first | refine thenE_normal ?_ | refine thenE_exit ?_ | refine thenE_ret ?_ | refine blockE_normal ?_ | refine blockE_ret ?_ | refine blockE_same ?_ | refine blockE_other rfl ?_)
    (repeat refine Sx.seq ?_)
    refine Sx.textR ?_
    refine Ox.pure rfl rfl (rp_move rfl rfl) ?_
    refine Ox.act rfl rfl (acts_bytes rfl rfl rfl rfl rfl) ?_
    rintro vcv wcv ⟨ecv, gx, cx, rfl, hgx, hcx, hCcv⟩
    have hzcv := ecv.size
    refine Ox.act rfl rfl (acts_call rfl rfl rfl (decode_at sx (some ⟨gx, 0, none⟩) ⟨gx, 0, none⟩ cx _ (by omega) hcx ⟨fun _ => rfl, hCcv.ext0 (by ((repeat (first | exact Ext.refl _ _ | assumption | refine Ext.trans ?_ (by assumption))); (first | done | fail "chain")))⟩)) ?_
    rintro vdc wdc ⟨edc, cse, rfl, hre⟩
    have hzdc := edc.size
    rw [hdx]; have hc4e := rep_length hre; have honee := rep_one hre
    refine Ox.pure rfl rfl (rp_move rfl rfl) ?_
    refine Ox.pure rfl rfl (rp_extract rfl rfl rfl) ?_
    refine Ox.pure rfl rfl (rp_extract rfl rfl rfl) ?_
    refine Ox.act rfl rfl (acts_alloc rfl rfl) ?_
    rintro v8 w8 ⟨e8, b8, rfl, hb8, hB8⟩
    first | (have hC8 : Cells w8 ⟨b8, 0, none⟩ [_, _, _, _] := hB8.cells) | have hC8 := Blk.cellsL hB8
    have hl8 := hB8.lt
    have hz8 := e8.size
    refine Ox.act rfl rfl (acts_store_all rfl rfl rfl hB8 rfl (by first | rfl | assumption) (by first | rfl | assumption) (by (first | assumption | exact List.all_eq_true.mp rfl | simp [Value.cells, Value.oneCell']))) ?_
    rintro v9 w9 ⟨rfl, q9, hB9⟩
    have e9 := Ext.renew e8 q9 hb8
    have hz9 := e9.size
    first | (have hC9 : Cells w9 ⟨b8, 0, none⟩ [_, _, _, _] := hB9.cells) | have hC9 := Blk.cellsL hB9
    refine Ox.pure rfl rfl (rp_assign rfl rfl) ?_
    refine Ox.nil ?_
    (repeat first | refine thenE_normal ?_ | refine thenE_exit ?_ | refine thenE_ret ?_ | refine blockE_normal ?_ | refine blockE_ret ?_ | refine blockE_same ?_ | refine blockE_other rfl ?_)
    (repeat refine Sx.seq ?_)
    refine Sx.textR ?_
    refine Ox.pure rfl rfl (rp_move rfl rfl) ?_
    refine Ox.pure rfl rfl (by first | exact rp_bin rfl rfl rfl (binI_t (by omega)) | exact rp_bin rfl rfl rfl (binI_f (by omega)) | exact rp_bin rfl rfl rfl rfl) ?_
    refine Ox.nil ?_
    (repeat first | refine thenE_normal ?_ | refine thenE_exit ?_ | refine thenE_ret ?_ | refine blockE_normal ?_ | refine blockE_ret ?_ | refine blockE_same ?_ | refine blockE_other rfl ?_)
    (repeat refine Sx.seq ?_); first | refine Sx.cond_false rfl ?_ | refine Sx.cond rfl (fun h => absurd h (by simp [*])) (fun _ => ?_)
    (repeat refine Sx.seq ?_); refine Sx.skip ?_
    (repeat first | refine thenE_normal ?_ | refine thenE_exit ?_ | refine thenE_ret ?_ | refine blockE_normal ?_ | refine blockE_ret ?_ | refine blockE_same ?_ | refine blockE_other rfl ?_)
    (repeat refine Sx.seq ?_)
    refine Sx.textR ?_
    refine Ox.pure rfl rfl (by first | exact rp_bin rfl rfl rfl (binI_fit_add (wrap64 (by omega))) | exact rp_bin rfl rfl rfl rfl) ?_
    refine Ox.pure rfl rfl (rp_move rfl rfl) ?_
    refine Ox.nil ?_
    (repeat first | refine thenE_normal ?_ | refine thenE_exit ?_ | refine thenE_ret ?_ | refine blockE_normal ?_ | refine blockE_ret ?_ | refine blockE_same ?_ | refine blockE_other rfl ?_)
    exact ⟨i + 1, _, sub_cons rfl (sub_cons rfl (sub_cons rfl sub_nil)), ⟨rfl, by omega, by ((repeat (first | exact Ext.refl _ _ | assumption | refine Ext.trans ?_ (by assumption))); (first | done | fail "chain"))⟩, by omega⟩
  · (repeat refine Sx.seq ?_)
    refine Sx.textR ?_
    refine Ox.pure rfl rfl (by first | exact rp_bin rfl rfl rfl (binI_t (by omega)) | exact rp_bin rfl rfl rfl (binI_f (by omega)) | exact rp_bin rfl rfl rfl rfl) ?_
    refine Ox.nil ?_
    (repeat first | refine thenE_normal ?_ | refine thenE_exit ?_ | refine thenE_ret ?_ | refine blockE_normal ?_ | refine blockE_ret ?_ | refine blockE_same ?_ | refine blockE_other rfl ?_)
    (repeat refine Sx.seq ?_); first | refine Sx.cond_false rfl ?_ | refine Sx.cond rfl (fun h => absurd h (by simp [*])) (fun _ => ?_)
    (repeat refine Sx.seq ?_); refine Sx.exit ?_
    (repeat first | refine thenE_normal ?_ | refine thenE_exit ?_ | refine thenE_ret ?_ | refine blockE_normal ?_ | refine blockE_ret ?_ | refine blockE_same ?_ | refine blockE_other rfl ?_)
    (repeat refine Sx.seq ?_)
    refine Sx.textR ?_
    refine Ox.pure rfl rfl (rp_buildS (ps := []) rfl rfl rfl rfl rfl) ?_
    refine Ox.act rfl rfl (acts_call rfl rfl rfl (check_at zeroV (fun _ => False) zeroC _ (rep_zero _ _) (by decide))) ?_
    rintro v10 w10 ⟨e10, rfl⟩
    have hz10 := e10.size
    rw [szero_check]
    refine Ox.pure rfl rfl (by first | exact rp_bin rfl rfl rfl (binI_t (by omega)) | exact rp_bin rfl rfl rfl (binI_f (by omega)) | exact rp_bin rfl rfl rfl rfl) ?_
    refine Ox.pure rfl rfl (rp_assign rfl rfl) ?_
    refine Ox.nil ?_
    (repeat first | refine thenE_normal ?_ | refine thenE_exit ?_ | refine thenE_ret ?_ | refine blockE_normal ?_ | refine blockE_ret ?_ | refine blockE_same ?_ | refine blockE_other rfl ?_)
    (repeat refine Sx.seq ?_); refine Sx.ret ?_
    (repeat first | refine thenE_normal ?_ | refine thenE_exit ?_ | refine thenE_ret ?_ | refine blockE_normal ?_ | refine blockE_ret ?_ | refine blockE_same ?_ | refine blockE_other rfl ?_)
    exact endE_ret [_] ⟨rfl, trivial⟩ ⟨by ((repeat (first | exact Ext.refl _ _ | assumption | refine Ext.trans ?_ (by assumption))); (first | done | fail "chain")), rfl⟩

end Go.Proofs.Ytflopfjhejchfaa
