/- The law FactsChangedSpec: Changed, Alike and Upto agree with the reference: for every list, reads and two times, no condition. -/
import Derived.Test.YtjneaeghloffnaaRows
import Derived.Test.YtjneaeghloffnaaFactW
set_option linter.unusedVariables false
set_option maxRecDepth 100000
set_option maxHeartbeats 4000000
set_option linter.unusedSimpArgs false
namespace Go.Proofs.Ytjneaeghloffnaa
open Go Go.Eng

theorem changedLaw (l : List Fct) (reads : List Rd) (bef aft : Int) (p q : Option Addr) (A B : Addr) (c d : Nat) (W : World) (hs : SlV fc W p A l c) (ht : SlV rc W q B reads d) :
    Calls Try.prog 5 #[.slice p l.length c, .slice q reads.length d, .int .i64 bef, .int .i64 aft] W (Ret fun r w' => Ext [] W w' ∧ r = .bool true) := by
  have hf1 := hs.few
  have hf2 := ht.few
  refine calls_of_Sx (args := [.slice p l.length c, .slice q reads.length d, .int .i64 bef, .int .i64 aft]) Try.func5 rfl rfl ?_
  by_cases h14 : 14 < l.length
  · (repeat refine Sx.seq ?_)
    refine Sx.textR ?_
    refine Ox.pure rfl rfl (rp_assign rfl rfl) ?_
    refine Ox.nil ?_
    (repeat first | refine thenE_normal ?_ | refine blockE_normal ?_ | refine scopeE_normal ?_)
    (repeat refine Sx.seq ?_)
    refine Sx.textR ?_
    refine Ox.act rfl rfl (acts_call rfl rfl rfl (sane_at _)) ?_
    rintro v1 w1 ⟨e1, rfl⟩
    have hz1 := e1.size
    refine Ox.pure rfl rfl (rp_not rfl rfl) ?_
    refine Ox.nil ?_
    (repeat first | refine thenE_normal ?_ | refine blockE_normal ?_ | refine scopeE_normal ?_)
    (repeat refine Sx.seq ?_); first | refine Sx.cond_false rfl ?_ | refine Sx.cond rfl (fun h => absurd h (by simp [*])) (fun _ => ?_)
    (repeat refine Sx.seq ?_); refine Sx.skip ?_
    (repeat first | refine thenE_normal ?_ | refine blockE_normal ?_ | refine scopeE_normal ?_)
    (repeat refine Sx.seq ?_)
    refine Sx.textR ?_
    refine Ox.pure rfl rfl (rp_move rfl rfl) ?_
    refine Ox.pure rfl rfl (rp_lenS rfl rfl rfl) ?_
    refine Ox.pure rfl rfl (by first | exact rp_bin rfl rfl rfl (binI_t (by omega)) | exact rp_bin rfl rfl rfl (binI_f (by omega)) | exact rp_bin rfl rfl rfl rfl) ?_
    refine Ox.pure rfl rfl (rp_move rfl rfl) ?_
    first | (refine Ox.skip rfl rfl ?_) | (refine Ox.pure rfl rfl (rp_move rfl rfl) ?_)
    first | (refine Ox.skip rfl rfl ?_) | (refine Ox.pure rfl rfl (rp_lenS rfl rfl rfl) ?_)
    first | (refine Ox.skip rfl rfl ?_) | (refine Ox.pure rfl rfl (by first | exact rp_bin rfl rfl rfl (binI_t (by omega)) | exact rp_bin rfl rfl rfl (binI_f (by omega)) | exact rp_bin rfl rfl rfl rfl) ?_)
    refine Ox.pure rfl rfl (by first | exact rp_pick_t rfl rfl rfl | exact rp_pick_f rfl rfl rfl) ?_
    refine Ox.nil ?_
    (repeat first | refine thenE_normal ?_ | refine blockE_normal ?_ | refine scopeE_normal ?_)
    (repeat refine Sx.seq ?_); first | refine Sx.cond_true rfl ?_ | refine Sx.cond rfl (fun _ => ?_) (fun h => absurd h (by simp [*]))
    (repeat refine Sx.seq ?_)
    refine Sx.textR ?_
    refine Ox.pure rfl rfl (rp_assign rfl rfl) ?_
    refine Ox.nil ?_
    (repeat first | refine thenE_normal ?_ | refine blockE_normal ?_ | refine scopeE_normal ?_)
    (repeat refine Sx.seq ?_); refine Sx.ret ?_
    (repeat first | refine thenE_ret ?_ | refine blockE_ret ?_ | refine scopeE_ret ?_)
    exact endE_ret [_] ⟨rfl, trivial⟩ ⟨by (repeat first | exact .refl _ _ | assumption | refine .trans ?_ (by assumption)); first | done | fail, rfl⟩
  by_cases h6 : 6 < reads.length
  · (repeat refine Sx.seq ?_)
    refine Sx.textR ?_
    refine Ox.pure rfl rfl (rp_assign rfl rfl) ?_
    refine Ox.nil ?_
    (repeat first | refine thenE_normal ?_ | refine blockE_normal ?_ | refine scopeE_normal ?_)
    (repeat refine Sx.seq ?_)
    refine Sx.textR ?_
    refine Ox.act rfl rfl (acts_call rfl rfl rfl (sane_at _)) ?_
    rintro v2 w2 ⟨e2, rfl⟩
    have hz2 := e2.size
    refine Ox.pure rfl rfl (rp_not rfl rfl) ?_
    refine Ox.nil ?_
    (repeat first | refine thenE_normal ?_ | refine blockE_normal ?_ | refine scopeE_normal ?_)
    (repeat refine Sx.seq ?_); first | refine Sx.cond_false rfl ?_ | refine Sx.cond rfl (fun h => absurd h (by simp [*])) (fun _ => ?_)
    (repeat refine Sx.seq ?_); refine Sx.skip ?_
    (repeat first | refine thenE_normal ?_ | refine blockE_normal ?_ | refine scopeE_normal ?_)
    (repeat refine Sx.seq ?_)
    refine Sx.textR ?_
    refine Ox.pure rfl rfl (rp_move rfl rfl) ?_
    refine Ox.pure rfl rfl (rp_lenS rfl rfl rfl) ?_
    refine Ox.pure rfl rfl (by first | exact rp_bin rfl rfl rfl (binI_t (by omega)) | exact rp_bin rfl rfl rfl (binI_f (by omega)) | exact rp_bin rfl rfl rfl rfl) ?_
    refine Ox.pure rfl rfl (rp_move rfl rfl) ?_
    first | (refine Ox.skip rfl rfl ?_) | (refine Ox.pure rfl rfl (rp_move rfl rfl) ?_)
    first | (refine Ox.skip rfl rfl ?_) | (refine Ox.pure rfl rfl (rp_lenS rfl rfl rfl) ?_)
    first | (refine Ox.skip rfl rfl ?_) | (refine Ox.pure rfl rfl (by first | exact rp_bin rfl rfl rfl (binI_t (by omega)) | exact rp_bin rfl rfl rfl (binI_f (by omega)) | exact rp_bin rfl rfl rfl rfl) ?_)
    refine Ox.pure rfl rfl (by first | exact rp_pick_t rfl rfl rfl | exact rp_pick_f rfl rfl rfl) ?_
    refine Ox.nil ?_
    (repeat first | refine thenE_normal ?_ | refine blockE_normal ?_ | refine scopeE_normal ?_)
    (repeat refine Sx.seq ?_); first | refine Sx.cond_true rfl ?_ | refine Sx.cond rfl (fun _ => ?_) (fun h => absurd h (by simp [*]))
    (repeat refine Sx.seq ?_)
    refine Sx.textR ?_
    refine Ox.pure rfl rfl (rp_assign rfl rfl) ?_
    refine Ox.nil ?_
    (repeat first | refine thenE_normal ?_ | refine blockE_normal ?_ | refine scopeE_normal ?_)
    (repeat refine Sx.seq ?_); refine Sx.ret ?_
    (repeat first | refine thenE_ret ?_ | refine blockE_ret ?_ | refine scopeE_ret ?_)
    exact endE_ret [_] ⟨rfl, trivial⟩ ⟨by (repeat first | exact .refl _ _ | assumption | refine .trans ?_ (by assumption)); first | done | fail, rfl⟩
  have hul : (uptoL l bef).length ≤ 1000000 := by
    have := List.length_filter_le (fun f : Fct => decide (f.known ≤ bef)) l
    unfold uptoL; omega
  cases hal : alikeL l reads bef aft with
  | true =>
    (repeat refine Sx.seq ?_)
    refine Sx.textR ?_
    refine Ox.pure rfl rfl (rp_assign rfl rfl) ?_
    refine Ox.nil ?_
    (repeat first | refine thenE_normal ?_ | refine blockE_normal ?_ | refine scopeE_normal ?_)
    (repeat refine Sx.seq ?_)
    refine Sx.textR ?_
    refine Ox.act rfl rfl (acts_call rfl rfl rfl (sane_at _)) ?_
    rintro v3 w3 ⟨e3, rfl⟩
    have hz3 := e3.size
    refine Ox.pure rfl rfl (rp_not rfl rfl) ?_
    refine Ox.nil ?_
    (repeat first | refine thenE_normal ?_ | refine blockE_normal ?_ | refine scopeE_normal ?_)
    (repeat refine Sx.seq ?_); first | refine Sx.cond_false rfl ?_ | refine Sx.cond rfl (fun h => absurd h (by simp [*])) (fun _ => ?_)
    (repeat refine Sx.seq ?_); refine Sx.skip ?_
    (repeat first | refine thenE_normal ?_ | refine blockE_normal ?_ | refine scopeE_normal ?_)
    (repeat refine Sx.seq ?_)
    refine Sx.textR ?_
    refine Ox.pure rfl rfl (rp_move rfl rfl) ?_
    refine Ox.pure rfl rfl (rp_lenS rfl rfl rfl) ?_
    refine Ox.pure rfl rfl (by first | exact rp_bin rfl rfl rfl (binI_t (by omega)) | exact rp_bin rfl rfl rfl (binI_f (by omega)) | exact rp_bin rfl rfl rfl rfl) ?_
    refine Ox.pure rfl rfl (rp_move rfl rfl) ?_
    first | (refine Ox.skip rfl rfl ?_) | (refine Ox.pure rfl rfl (rp_move rfl rfl) ?_)
    first | (refine Ox.skip rfl rfl ?_) | (refine Ox.pure rfl rfl (rp_lenS rfl rfl rfl) ?_)
    first | (refine Ox.skip rfl rfl ?_) | (refine Ox.pure rfl rfl (by first | exact rp_bin rfl rfl rfl (binI_t (by omega)) | exact rp_bin rfl rfl rfl (binI_f (by omega)) | exact rp_bin rfl rfl rfl rfl) ?_)
    refine Ox.pure rfl rfl (by first | exact rp_pick_t rfl rfl rfl | exact rp_pick_f rfl rfl rfl) ?_
    refine Ox.nil ?_
    (repeat first | refine thenE_normal ?_ | refine blockE_normal ?_ | refine scopeE_normal ?_)
    (repeat refine Sx.seq ?_); first | refine Sx.cond_false rfl ?_ | refine Sx.cond rfl (fun h => absurd h (by simp [*])) (fun _ => ?_)
    (repeat refine Sx.seq ?_); refine Sx.skip ?_
    (repeat first | refine thenE_normal ?_ | refine blockE_normal ?_ | refine scopeE_normal ?_)
    (repeat refine Sx.seq ?_)
    refine Sx.textR ?_
    refine Ox.pure rfl rfl (rp_move rfl rfl) ?_
    refine Ox.pure rfl rfl (rp_move rfl rfl) ?_
    refine Ox.pure rfl rfl (rp_move rfl rfl) ?_
    refine Ox.act rfl rfl (acts_call rfl rfl rfl (changed_at l bef aft p A c _ (hs.ext0 (by (repeat first | exact .refl _ _ | assumption | refine .trans ?_ (by assumption)); first | done | fail)) (by omega))) ?_
    rintro v4 w4 ⟨e4, ds3, hd3, hl3, hO3⟩
    have hz4 := e4.size
    obtain ⟨p3, c3, A3, rfl, hs3, hi3⟩ := OwnD.sl hO3 (by omega) (days_of hd3)
    refine Ox.pure rfl rfl (rp_move rfl rfl) ?_
    refine Ox.pure rfl rfl (rp_move rfl rfl) ?_
    refine Ox.pure rfl rfl (rp_move rfl rfl) ?_
    refine Ox.act rfl rfl (acts_call rfl rfl rfl (ref_Changed l bef aft p A c _ (hs.ext0 (by (repeat first | exact .refl _ _ | assumption | refine .trans ?_ (by assumption)); first | done | fail)) (by omega))) ?_
    rintro v5 w5 ⟨e5, ds7, hd7, hl7, hO7⟩
    have hz5 := e5.size
    obtain ⟨p7, c7, A7, rfl, hs7, hi7⟩ := OwnD.sl hO7 (by omega) (days_of hd7)
    refine Ox.act rfl rfl (acts_call rfl rfl rfl (ref_SameDiffers ds3 ds7 p3 p7 A3 A7 c3 c7 _ (hs3.ext0 (by (repeat first | exact .refl _ _ | assumption | refine .trans ?_ (by assumption)); first | done | fail)) (hs7.ext0 (by (repeat first | exact .refl _ _ | assumption | refine .trans ?_ (by assumption)); first | done | fail)) (hi3.ext0 (by (repeat first | exact .refl _ _ | assumption | refine .trans ?_ (by assumption)); first | done | fail)) (hi7.ext0 (by (repeat first | exact .refl _ _ | assumption | refine .trans ?_ (by assumption)); first | done | fail)))) ?_
    rintro v6 w6 ⟨e6, rfl⟩
    have hz6 := e6.size
    rw [decide_eq_true (hd3.trans hd7.symm)]
    refine Ox.pure rfl rfl (rp_move rfl rfl) ?_
    first | (refine Ox.skip rfl rfl ?_) | (refine Ox.pure rfl rfl (rp_move rfl rfl) ?_)
    first | (refine Ox.skip rfl rfl ?_) | (refine Ox.pure rfl rfl (rp_move rfl rfl) ?_)
    first | (refine Ox.skip rfl rfl ?_) | (refine Ox.pure rfl rfl (rp_move rfl rfl) ?_)
    first | (refine Ox.skip rfl rfl ?_) | (refine Ox.pure rfl rfl (rp_move rfl rfl) ?_)
    first | (refine Ox.skip rfl rfl ?_) | (refine Ox.act rfl rfl (acts_call rfl rfl rfl (alike_at l reads bef aft p q A B c d _ (hs.ext0 (by (repeat first | exact .refl _ _ | assumption | refine .trans ?_ (by assumption)); first | done | fail)) (ht.ext0 (by (repeat first | exact .refl _ _ | assumption | refine .trans ?_ (by assumption)); first | done | fail)))) ?_; rintro v7 w7 ⟨e7, rfl⟩; have hz7 := e7.size; rw [hal])
    first | (refine Ox.skip rfl rfl ?_) | (refine Ox.pure rfl rfl (rp_move rfl rfl) ?_)
    first | (refine Ox.skip rfl rfl ?_) | (refine Ox.pure rfl rfl (rp_move rfl rfl) ?_)
    first | (refine Ox.skip rfl rfl ?_) | (refine Ox.pure rfl rfl (rp_move rfl rfl) ?_)
    first | (refine Ox.skip rfl rfl ?_) | (refine Ox.pure rfl rfl (rp_move rfl rfl) ?_)
    first | (refine Ox.skip rfl rfl ?_) | (refine Ox.act rfl rfl (acts_call rfl rfl rfl (ref_Alike l reads bef aft p q A B c d _ (hs.ext0 (by (repeat first | exact .refl _ _ | assumption | refine .trans ?_ (by assumption)); first | done | fail)) (ht.ext0 (by (repeat first | exact .refl _ _ | assumption | refine .trans ?_ (by assumption)); first | done | fail)))) ?_; rintro v8 w8 ⟨e8, rfl⟩; have hz8 := e8.size; rw [hal])
    first | (refine Ox.skip rfl rfl ?_) | (refine Ox.pure rfl rfl (rp_eqb rfl rfl rfl rfl) ?_)
    refine Ox.pure rfl rfl (by first | exact rp_pick_t rfl rfl rfl | exact rp_pick_f rfl rfl rfl) ?_
    refine Ox.pure rfl rfl (rp_move rfl rfl) ?_
    first | (refine Ox.skip rfl rfl ?_) | (refine Ox.pure rfl rfl (rp_move rfl rfl) ?_)
    first | (refine Ox.skip rfl rfl ?_) | (refine Ox.pure rfl rfl (rp_move rfl rfl) ?_)
    first | (refine Ox.skip rfl rfl ?_) | (refine Ox.act rfl rfl (acts_call rfl rfl rfl (upto_at_facts l bef p A c _ (hs.ext0 (by (repeat first | exact .refl _ _ | assumption | refine .trans ?_ (by assumption)); first | done | fail)) (by omega))) ?_; rintro v9 w9 ⟨e9, p25, A25, c25, rfl, hs25⟩; have hz9 := e9.size)
    first | (refine Ox.skip rfl rfl ?_) | (refine Ox.pure rfl rfl (rp_move rfl rfl) ?_)
    first | (refine Ox.skip rfl rfl ?_) | (refine Ox.pure rfl rfl (rp_move rfl rfl) ?_)
    first | (refine Ox.skip rfl rfl ?_) | (refine Ox.act rfl rfl (acts_call rfl rfl rfl (ref_Upto l bef p A c _ (hs.ext0 (by (repeat first | exact .refl _ _ | assumption | refine .trans ?_ (by assumption)); first | done | fail)) (by omega))) ?_; rintro v10 w10 ⟨e10, ho28⟩; have hz10 := e10.size; obtain ⟨p28, c28, A28, rfl, hs28, _⟩ := ho28.sl (by omega))
    first | (refine Ox.skip rfl rfl ?_) | (refine Ox.act rfl rfl (acts_call rfl rfl rfl (ref_Same (uptoL l bef) (uptoL l bef) p25 p28 A25 A28 c25 c28 _ (hs25.ext0 (by (repeat first | exact .refl _ _ | assumption | refine .trans ?_ (by assumption)); first | done | fail)) (hs28.ext0 (by (repeat first | exact .refl _ _ | assumption | refine .trans ?_ (by assumption)); first | done | fail)))) ?_; rintro v11 w11 ⟨e11, rfl⟩; have hz11 := e11.size; rw [decide_eq_true (show uptoL l bef = uptoL l bef from rfl)])
    refine Ox.pure rfl rfl (by first | exact rp_pick_t rfl rfl rfl | exact rp_pick_f rfl rfl rfl) ?_
    refine Ox.pure rfl rfl (rp_assign rfl rfl) ?_
    refine Ox.nil ?_
    (repeat first | refine thenE_normal ?_ | refine blockE_normal ?_ | refine scopeE_normal ?_)
    (repeat refine Sx.seq ?_); refine Sx.ret ?_
    (repeat first | refine thenE_ret ?_ | refine blockE_ret ?_ | refine scopeE_ret ?_)
    exact endE_ret [_] ⟨rfl, trivial⟩ ⟨by (repeat first | exact .refl _ _ | assumption | refine .trans ?_ (by assumption)); first | done | fail, rfl⟩
  | false =>
    (repeat refine Sx.seq ?_)
    refine Sx.textR ?_
    refine Ox.pure rfl rfl (rp_assign rfl rfl) ?_
    refine Ox.nil ?_
    (repeat first | refine thenE_normal ?_ | refine blockE_normal ?_ | refine scopeE_normal ?_)
    (repeat refine Sx.seq ?_)
    refine Sx.textR ?_
    refine Ox.act rfl rfl (acts_call rfl rfl rfl (sane_at _)) ?_
    rintro v12 w12 ⟨e12, rfl⟩
    have hz12 := e12.size
    refine Ox.pure rfl rfl (rp_not rfl rfl) ?_
    refine Ox.nil ?_
    (repeat first | refine thenE_normal ?_ | refine blockE_normal ?_ | refine scopeE_normal ?_)
    (repeat refine Sx.seq ?_); first | refine Sx.cond_false rfl ?_ | refine Sx.cond rfl (fun h => absurd h (by simp [*])) (fun _ => ?_)
    (repeat refine Sx.seq ?_); refine Sx.skip ?_
    (repeat first | refine thenE_normal ?_ | refine blockE_normal ?_ | refine scopeE_normal ?_)
    (repeat refine Sx.seq ?_)
    refine Sx.textR ?_
    refine Ox.pure rfl rfl (rp_move rfl rfl) ?_
    refine Ox.pure rfl rfl (rp_lenS rfl rfl rfl) ?_
    refine Ox.pure rfl rfl (by first | exact rp_bin rfl rfl rfl (binI_t (by omega)) | exact rp_bin rfl rfl rfl (binI_f (by omega)) | exact rp_bin rfl rfl rfl rfl) ?_
    refine Ox.pure rfl rfl (rp_move rfl rfl) ?_
    first | (refine Ox.skip rfl rfl ?_) | (refine Ox.pure rfl rfl (rp_move rfl rfl) ?_)
    first | (refine Ox.skip rfl rfl ?_) | (refine Ox.pure rfl rfl (rp_lenS rfl rfl rfl) ?_)
    first | (refine Ox.skip rfl rfl ?_) | (refine Ox.pure rfl rfl (by first | exact rp_bin rfl rfl rfl (binI_t (by omega)) | exact rp_bin rfl rfl rfl (binI_f (by omega)) | exact rp_bin rfl rfl rfl rfl) ?_)
    refine Ox.pure rfl rfl (by first | exact rp_pick_t rfl rfl rfl | exact rp_pick_f rfl rfl rfl) ?_
    refine Ox.nil ?_
    (repeat first | refine thenE_normal ?_ | refine blockE_normal ?_ | refine scopeE_normal ?_)
    (repeat refine Sx.seq ?_); first | refine Sx.cond_false rfl ?_ | refine Sx.cond rfl (fun h => absurd h (by simp [*])) (fun _ => ?_)
    (repeat refine Sx.seq ?_); refine Sx.skip ?_
    (repeat first | refine thenE_normal ?_ | refine blockE_normal ?_ | refine scopeE_normal ?_)
    (repeat refine Sx.seq ?_)
    refine Sx.textR ?_
    refine Ox.pure rfl rfl (rp_move rfl rfl) ?_
    refine Ox.pure rfl rfl (rp_move rfl rfl) ?_
    refine Ox.pure rfl rfl (rp_move rfl rfl) ?_
    refine Ox.act rfl rfl (acts_call rfl rfl rfl (changed_at l bef aft p A c _ (hs.ext0 (by (repeat first | exact .refl _ _ | assumption | refine .trans ?_ (by assumption)); first | done | fail)) (by omega))) ?_
    rintro v13 w13 ⟨e13, ds3, hd3, hl3, hO3⟩
    have hz13 := e13.size
    obtain ⟨p3, c3, A3, rfl, hs3, hi3⟩ := OwnD.sl hO3 (by omega) (days_of hd3)
    refine Ox.pure rfl rfl (rp_move rfl rfl) ?_
    refine Ox.pure rfl rfl (rp_move rfl rfl) ?_
    refine Ox.pure rfl rfl (rp_move rfl rfl) ?_
    refine Ox.act rfl rfl (acts_call rfl rfl rfl (ref_Changed l bef aft p A c _ (hs.ext0 (by (repeat first | exact .refl _ _ | assumption | refine .trans ?_ (by assumption)); first | done | fail)) (by omega))) ?_
    rintro v14 w14 ⟨e14, ds7, hd7, hl7, hO7⟩
    have hz14 := e14.size
    obtain ⟨p7, c7, A7, rfl, hs7, hi7⟩ := OwnD.sl hO7 (by omega) (days_of hd7)
    refine Ox.act rfl rfl (acts_call rfl rfl rfl (ref_SameDiffers ds3 ds7 p3 p7 A3 A7 c3 c7 _ (hs3.ext0 (by (repeat first | exact .refl _ _ | assumption | refine .trans ?_ (by assumption)); first | done | fail)) (hs7.ext0 (by (repeat first | exact .refl _ _ | assumption | refine .trans ?_ (by assumption)); first | done | fail)) (hi3.ext0 (by (repeat first | exact .refl _ _ | assumption | refine .trans ?_ (by assumption)); first | done | fail)) (hi7.ext0 (by (repeat first | exact .refl _ _ | assumption | refine .trans ?_ (by assumption)); first | done | fail)))) ?_
    rintro v15 w15 ⟨e15, rfl⟩
    have hz15 := e15.size
    rw [decide_eq_true (hd3.trans hd7.symm)]
    refine Ox.pure rfl rfl (rp_move rfl rfl) ?_
    first | (refine Ox.skip rfl rfl ?_) | (refine Ox.pure rfl rfl (rp_move rfl rfl) ?_)
    first | (refine Ox.skip rfl rfl ?_) | (refine Ox.pure rfl rfl (rp_move rfl rfl) ?_)
    first | (refine Ox.skip rfl rfl ?_) | (refine Ox.pure rfl rfl (rp_move rfl rfl) ?_)
    first | (refine Ox.skip rfl rfl ?_) | (refine Ox.pure rfl rfl (rp_move rfl rfl) ?_)
    first | (refine Ox.skip rfl rfl ?_) | (refine Ox.act rfl rfl (acts_call rfl rfl rfl (alike_at l reads bef aft p q A B c d _ (hs.ext0 (by (repeat first | exact .refl _ _ | assumption | refine .trans ?_ (by assumption)); first | done | fail)) (ht.ext0 (by (repeat first | exact .refl _ _ | assumption | refine .trans ?_ (by assumption)); first | done | fail)))) ?_; rintro v16 w16 ⟨e16, rfl⟩; have hz16 := e16.size; rw [hal])
    first | (refine Ox.skip rfl rfl ?_) | (refine Ox.pure rfl rfl (rp_move rfl rfl) ?_)
    first | (refine Ox.skip rfl rfl ?_) | (refine Ox.pure rfl rfl (rp_move rfl rfl) ?_)
    first | (refine Ox.skip rfl rfl ?_) | (refine Ox.pure rfl rfl (rp_move rfl rfl) ?_)
    first | (refine Ox.skip rfl rfl ?_) | (refine Ox.pure rfl rfl (rp_move rfl rfl) ?_)
    first | (refine Ox.skip rfl rfl ?_) | (refine Ox.act rfl rfl (acts_call rfl rfl rfl (ref_Alike l reads bef aft p q A B c d _ (hs.ext0 (by (repeat first | exact .refl _ _ | assumption | refine .trans ?_ (by assumption)); first | done | fail)) (ht.ext0 (by (repeat first | exact .refl _ _ | assumption | refine .trans ?_ (by assumption)); first | done | fail)))) ?_; rintro v17 w17 ⟨e17, rfl⟩; have hz17 := e17.size; rw [hal])
    first | (refine Ox.skip rfl rfl ?_) | (refine Ox.pure rfl rfl (rp_eqb rfl rfl rfl rfl) ?_)
    refine Ox.pure rfl rfl (by first | exact rp_pick_t rfl rfl rfl | exact rp_pick_f rfl rfl rfl) ?_
    refine Ox.pure rfl rfl (rp_move rfl rfl) ?_
    first | (refine Ox.skip rfl rfl ?_) | (refine Ox.pure rfl rfl (rp_move rfl rfl) ?_)
    first | (refine Ox.skip rfl rfl ?_) | (refine Ox.pure rfl rfl (rp_move rfl rfl) ?_)
    first | (refine Ox.skip rfl rfl ?_) | (refine Ox.act rfl rfl (acts_call rfl rfl rfl (upto_at_facts l bef p A c _ (hs.ext0 (by (repeat first | exact .refl _ _ | assumption | refine .trans ?_ (by assumption)); first | done | fail)) (by omega))) ?_; rintro v18 w18 ⟨e18, p25, A25, c25, rfl, hs25⟩; have hz18 := e18.size)
    first | (refine Ox.skip rfl rfl ?_) | (refine Ox.pure rfl rfl (rp_move rfl rfl) ?_)
    first | (refine Ox.skip rfl rfl ?_) | (refine Ox.pure rfl rfl (rp_move rfl rfl) ?_)
    first | (refine Ox.skip rfl rfl ?_) | (refine Ox.act rfl rfl (acts_call rfl rfl rfl (ref_Upto l bef p A c _ (hs.ext0 (by (repeat first | exact .refl _ _ | assumption | refine .trans ?_ (by assumption)); first | done | fail)) (by omega))) ?_; rintro v19 w19 ⟨e19, ho28⟩; have hz19 := e19.size; obtain ⟨p28, c28, A28, rfl, hs28, _⟩ := ho28.sl (by omega))
    first | (refine Ox.skip rfl rfl ?_) | (refine Ox.act rfl rfl (acts_call rfl rfl rfl (ref_Same (uptoL l bef) (uptoL l bef) p25 p28 A25 A28 c25 c28 _ (hs25.ext0 (by (repeat first | exact .refl _ _ | assumption | refine .trans ?_ (by assumption)); first | done | fail)) (hs28.ext0 (by (repeat first | exact .refl _ _ | assumption | refine .trans ?_ (by assumption)); first | done | fail)))) ?_; rintro v20 w20 ⟨e20, rfl⟩; have hz20 := e20.size; rw [decide_eq_true (show uptoL l bef = uptoL l bef from rfl)])
    refine Ox.pure rfl rfl (by first | exact rp_pick_t rfl rfl rfl | exact rp_pick_f rfl rfl rfl) ?_
    refine Ox.pure rfl rfl (rp_assign rfl rfl) ?_
    refine Ox.nil ?_
    (repeat first | refine thenE_normal ?_ | refine blockE_normal ?_ | refine scopeE_normal ?_)
    (repeat refine Sx.seq ?_); refine Sx.ret ?_
    (repeat first | refine thenE_ret ?_ | refine blockE_ret ?_ | refine scopeE_ret ?_)
    exact endE_ret [_] ⟨rfl, trivial⟩ ⟨by (repeat first | exact .refl _ _ | assumption | refine .trans ?_ (by assumption)); first | done | fail, rfl⟩

open Go.ChangeShapes Go.WideShapes Go.ChangeAt Go.RowKit in
theorem lawContract (H : Type) (enc : TypeId × Value → H) (W : World) (base : Nat) (args : Array Value) (ds gs : List (DataW H)) (before : List MemPlace)
    (hval : ∀ (j : Nat) t v, Try.f5.params[j]? = some t → args[j]? = some v → Value.okWide Try.prog W .any base t v)
    (hW : DataW.Whole enc Try.prog Try.f5.params.toList Rows.factsChangedSpecSpec.vars false W args.toList ds gs before)
    (hw : (DataW.weightsEach Try.prog (Try.f5.params.toList ++ Rows.factsChangedSpecSpec.plain.varTypes Try.prog) (ds ++ gs)).all (· ≤ reachBytes) = true) :
    Calls Try.prog 5 args W fun e W' => ∃ v, e = .returned v ∧ Rows.factsChangedSpecSpec.post enc Try.prog Try.f5 false true false false W args v W' := by
  obtain ⟨p, q, hA, hV, rfl, hz, hn⟩ := id hW
  obtain ⟨rfl, rfl⟩ := trodVars_none hV
  have hA' : DataW.TrodAll enc Try.prog W 0 (fun _ => true) true [22, 44, 3, 3] args.toList ds p := hA
  obtain ⟨v0, vs0, d0, ds0, p0, q0, hargs, rfl, rfl, h0, r0⟩ := trodAll_cons hA'
  obtain ⟨v1, vs1, d1, ds1, p1, q1, rfl, rfl, rfl, h1, r1⟩ := trodAll_cons r0
  obtain ⟨v2, vs2, d2, ds2, p2, q2, rfl, rfl, rfl, h2, r2⟩ := trodAll_cons r1
  obtain ⟨v3, vs3, d3, ds3, p3, q3, rfl, rfl, rfl, h3, r3⟩ := trodAll_cons r2
  obtain ⟨rfl, rfl, rfl⟩ := trodAll_nil r3
  obtain rfl : args = #[v0, v1, v2, v3] := by cases args; simp_all
  have hw' : ∀ x ∈ DataW.weightsEach Try.prog [22, 44, 3, 3] [d0, d1, d2, d3], x ≤ reachBytes := by
    have hw2 : (DataW.weightsEach Try.prog [22, 44, 3, 3] [d0, d1, d2, d3]).all (· ≤ reachBytes) = true := hw
    simpa [List.all_eq_true] using hw2
  simp only [DataW.weightsEach, List.mem_append] at hw'
  obtain ⟨l, pb, A, cap, rfl, hsl, hok⟩ := arg_facts (not_agg (P := Try.prog) (t := 22) rfl (hval 0 22 v0 rfl rfl)) h0 (fun x hx => hw' x (.inl hx))
  obtain ⟨reads, qb, B, cap2, rfl, htl, hok2⟩ := arg_reads (not_agg (P := Try.prog) (t := 44) rfl (hval 1 44 v1 rfl rfl)) h1 (fun x hx => hw' x (.inr (.inl hx)))
  obtain ⟨bef, rfl, _, _, hb⟩ := open_int undI (hval 2 3 v2 rfl rfl) h2
  obtain ⟨aft, rfl, _, _, ha⟩ := open_int undI (hval 3 3 v3 rfl rfl) h3
  refine (changedLaw l reads bef aft pb qb A B cap cap2 W hsl htl).mono fun e W' he => ?_
  cases e with
  | returned r =>
    obtain ⟨hx, rfl⟩ := he
    exact ⟨_, rfl, post_true (by kernel_rfl) (by kernel_rfl) rfl hW rfl rfl rfl rfl rfl hx⟩
  | panicked c => exact he.elim
  | outgrown => exact he.elim

open Go.ChangeShapes Go.WideShapes Go.ChangeAt Go.RowKit in
set_option maxRecDepth 100000 in
theorem lifted (os : Os) (started : os.Started) (H : Type) (enc : TypeId × Value → H) :
    ReturnsInHanded {} Try.checked os 5 .any (Rows.factsChangedSpecSpec.pre6 enc Try.prog Try.f5 [] false) (Rows.factsChangedSpecSpec.post enc Try.prog Try.f5 false true false false) := by
  refine returnsInHanded_of_change_sized (C := Try.checked) (by kernel_rfl) started (by kernel_rfl) Try.func5
    (ChangeSpec.witness6 (enc := enc) (C := Try.checked) (s := Rows.factsChangedSpecSpec) false ⟨#[], #[.slice none 0 0, .slice none 0 0, .int .i64 0, .int .i64 0], []⟩ 8 (by kernel_rfl) (by kernel_rfl) (by kernel_rfl) (by kernel_rfl)) ?_
  intro W base args ds gs before hval hW _ hw _
  exact lawContract H enc W base args ds gs before hval hW hw

theorem over : Rows.factsChangedSpecRow.holds Try.pinned (OpenSpec.ofChange Rows.factsChangedSpecSpec) :=
  OpenClaim.holds_of_wide 5 Try.f5 rfl rfl rfl rfl rfl rfl rfl ⟨rfl, rfl, rfl, rfl, rfl⟩ rfl rfl rfl rfl rfl (by kernel_rfl) Try.func5 (by kernel_rfl)
    (of_decide_eq_true (by kernel_rfl)) (by unfold Func.isWrapper; first | (rw [if_pos (by decide +kernel)]; kernel_rfl) | (rw [if_neg (by decide +kernel)]; exact ⟨rfl, rfl⟩))
    (fun os started H enc _ => lifted os started H enc)

theorem proved : Rows.FactsChangedSpecSaid := over

end Go.Proofs.Ytjneaeghloffnaa
