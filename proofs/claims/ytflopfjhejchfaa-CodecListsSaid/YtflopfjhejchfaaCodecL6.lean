/- The law CodecLists. -/
import Derived.Test.YtflopfjhejchfaaRows
import Derived.Test.YtflopfjhejchfaaCodecH
set_option linter.unusedVariables false
set_option linter.unusedSimpArgs false
namespace Go.Proofs.Ytflopfjhejchfaa
open Go Go.Eng

theorem arg_reps {H : Type} {enc : TypeId × Value → H} {W : World} {x : Value} {d : DataW H} {ps : List MemPlace} (hx : ∀ a, x ≠ .agg a) (h : DataW.Trod enc Try.prog W 0 (fun _ => true) true 22 x d ps) (hw : ∀ x ∈ DataW.weights Try.prog 22 d, x ≤ reachBytes) :
    ∃ (l : List V) (row : List Value) (p : Option Addr) (A : Addr) (cap : Nat), x = .slice p l.length cap ∧ l.length ≤ cap ∧ cap ≤ 9223372036854775807 ∧ l.length ≤ 140737488355328 ∧ Sl W p A l.length row ∧ reps (fun _ => True) W l row ∧ (0 < l.length → A.block < W.heap.size) := by
  obtain ⟨fuel, h⟩ := h
  rcases DataW.trod_slice undL h with ⟨he, _⟩ | ⟨a, len, cap, elems, rest, m, hfu, he, hx3, hb, hlc, hcm, hlen, hel3, _, _⟩
  · have hx := cells_one he hx
    exact ⟨[], [], none, ⟨0, 0, none⟩, 0, hx, by simp, by simp, by simp, ⟨by simp, cells_nil _ _⟩, rfl, by simp⟩
  · have hx := cells_one he hx
    subst hx
    simp only [Prod.mk.injEq] at hx3
    rw [hx3.1] at hw
    simp only [DataW.weights, undL, byt24] at hw
    have hlb : len ≤ 140737488355328 := by
      have := hw _ (.head _)
      simp only [List.length_map] at this
      unfold reachBytes at this; omega
    obtain ⟨l, row, hl, hreps, hC⟩ := build_rows (S := fun _ => True) (W := W) (a := a) len (fun i hi => by
      have h5 := hel3 i hi
      have hi' : i < elems.length := by omega
      rw [List.getElem?_eq_getElem hi'] at h5
      obtain ⟨cs', h6, h7⟩ := Option.bind_eq_some_iff.1 h5
      obtain ⟨_, h8, h9⟩ := World.cells?_some h6
      obtain ⟨v, hv⟩ := trod_rep m cs' elems[i].1 elems[i].2 h7 (fun x hx => hw x (.tail _ (List.mem_append_left _ (weightsAll_mem (List.mem_map.2 ⟨elems[i], List.getElem_mem hi', rfl⟩) x hx))))
      exact ⟨v, cs', hv, fun j hj => h9 j hj⟩)
    refine ⟨l, row, some a, a, cap, by rw [hl], by omega, by unfold maxLen at hcm; omega, by omega, ⟨fun _ => rfl, hC⟩, hreps, fun h0 => ?_⟩
    have := reps_length hreps
    exact hC.lt (fun e => by rw [e] at this; simp at this; omega)

theorem few_list : ∀ {l : List V}, okL l → l.all fewV = true → (encL l).length ≤ 44000 * l.length ∧ depthL l ≤ 21
  | [], _, _ => by simp [encL, depthL]
  | d :: l, hok, h => by
    simp only [List.all_cons, Bool.and_eq_true] at h
    obtain ⟨h1, h2⟩ := few_bounds hok.1 h.1
    obtain ⟨h3, h4⟩ := few_list hok.2 h.2
    simp only [encL, depthL, List.length_append, List.length_cons]
    omega
/-- The list of a list's values: what Check says. -/
theorem list_bad {l : List V} {i : Nat} (hi : i < l.length) (h : checkV l[i] ≠ 0) : checkV (.mk 3 0 [] l) ≠ 0 := by
  intro h0
  have hf := check_formed h0
  have hd : ¬ 16 < depthV (.mk 3 0 [] l) := fun h16 => by
    unfold checkV at h0
    rw [if_neg (by simp [hf]), if_pos h16] at h0; cases h0
  have hm := depthL_mem (List.getElem_mem hi)
  have hdv : depthV (.mk 3 0 [] l) = depthL l + 1 := by rw [depthV, if_pos rfl]
  have hfl : formedL l = true := by
    rw [formedV, if_neg (by decide), if_neg (by decide), if_pos rfl] at hf
    simpa using hf
  have hfi := formedL_all.mp hfl _ (List.getElem_mem hi)
  apply h
  unfold checkV
  rw [if_neg (by simp [hfi]), if_neg (by omega)]
theorem list_formed {l : List V} (h : ∀ d ∈ l, checkV d = 0) : formedV (.mk 3 0 [] l) = true := by
  rw [formedV, if_neg (by decide), if_neg (by decide), if_pos rfl]
  simp [formedL_all.mpr fun d hd => check_formed (h d hd)]
theorem list_enc (l : List V) : encV (.mk 3 0 [] l) = 3 :: (numeralL l.length ++ encL l) := by rw [encV, if_neg (by decide), if_neg (by decide)]
abbrev zInt : V := .mk 1 0 [] []
abbrev zIntC : List Value := [.int .i64 1, .int .i64 0, .string ⟨[].toArray⟩, nilS]
def zrows : Nat → List Value
  | 0 => []
  | n + 1 => zrows n ++ zIntC
theorem zrows_reps (S : Nat → Prop) (w : World) : ∀ n, reps S w (List.replicate n zInt) (zrows n)
  | 0 => rfl
  | n + 1 => by
    rw [List.replicate_succ', zrows]
    exact reps_snoc (zrows_reps S w n) (rep_plain _ _ ⟨by decide, by decide⟩ ⟨by decide, by decide⟩ (by simp))
theorem zeros_enc : ∀ n, (encL (List.replicate n zInt)).length = 2 * n
  | 0 => rfl
  | n + 1 => by
    rw [List.replicate_succ, encL, List.length_append, zeros_enc n, encV, if_pos rfl]
    simp [zig, numeralL_lt]; omega
theorem zeros_depth : ∀ n, depthL (List.replicate n zInt) = 0
  | 0 => rfl
  | n + 1 => by rw [List.replicate_succ, depthL, zeros_depth n, depthV, if_neg (by decide)]; rfl
theorem zeros_check (n : Nat) : checkV (.mk 3 0 [] (List.replicate n zInt)) = 0 := by
  have h : ∀ d ∈ List.replicate n zInt, checkV d = 0 := fun d hd => by rw [List.eq_of_mem_replicate hd]; decide
  unfold checkV
  rw [if_neg (by simp [list_formed h]), depthV, if_pos rfl, zeros_depth, if_neg (by decide)]
theorem apart_grow {base base' size size' : Nat} {e e' : TypeId} {w w' : World} {v v' u : Value} {k k' : Nat} {xs xs' : List Value} (h : Grew base e size w v k xs v' w') (hu : w.ownsRow base' e' size' u k' xs') (hne : ∀ g, v.ownBlock = some g → u.ownBlock ≠ some g) :
    ∀ g, v'.ownBlock = some g → u.ownBlock ≠ some g := fun g hg hug => by
  rcases h.at_ with h1 | ⟨g', h1, h2⟩
  · exact hne g (h1 ▸ hg) hug
  · have := (own_lt hu g (by simp [hug])).2
    rw [h1] at hg; simp only [Option.some.injEq] at hg; omega
theorem own_ge {base size : Nat} {e : TypeId} {w : World} {v : Value} {k : Nat} {xs : List Value} (h : w.ownsRow base e size v k xs) : ∀ g, v.ownBlock = some g → base ≤ g := fun g hg => (own_lt h g (by simp [hg])).1

theorem listsLaw (l : List V) (row : List Value) (p : Option Addr) (A : Addr) (cap : Nat) (W : World) (hlc : l.length ≤ cap) (hcap2 : cap ≤ 9223372036854775807) (hl : l.length ≤ 140737488355328) (hsl : Sl W p A l.length row) (hr : reps (fun _ => True) W l row) (hb : 0 < l.length → A.block < W.heap.size) :
    Calls Try.prog 8 #[.slice p l.length cap] W (Ret fun r w' => Ext [] W w' ∧ r = .bool true) := by
  have hpA := hsl.1
  have hrow := hsl.2
  refine calls_of_Sx (args := [.slice p l.length cap]) Try.func8 rfl rfl ?_
  cases hfew : l.all fewV with
  | false =>
    (repeat refine Sx.seq ?_)
    refine Sx.textR ?_
    refine Ox.pure rfl rfl (rp_assign rfl rfl) ?_
    refine Ox.nil ?_
    (repeat first | refine thenE_normal ?_ | refine thenE_exit ?_ | refine thenE_ret ?_ | refine blockE_normal ?_ | refine blockE_ret ?_ | refine blockE_same ?_ | refine blockE_other rfl ?_)
    (repeat refine Sx.seq ?_)
    refine Sx.textR ?_
    refine Ox.act rfl rfl (acts_call rfl rfl rfl (sane_at _)) ?_
    rintro v1 w1 ⟨e1, rfl⟩
    have hz1 := e1.size
    refine Ox.pure rfl rfl (rp_not rfl rfl) ?_
    refine Ox.nil ?_
    (repeat first | refine thenE_normal ?_ | refine thenE_exit ?_ | refine thenE_ret ?_ | refine blockE_normal ?_ | refine blockE_ret ?_ | refine blockE_same ?_ | refine blockE_other rfl ?_)
    (repeat refine Sx.seq ?_); first | refine Sx.cond_false rfl ?_ | refine Sx.cond rfl (fun h => absurd h (by simp [*])) (fun _ => ?_)
    (repeat refine Sx.seq ?_); refine Sx.skip ?_
    (repeat first | refine thenE_normal ?_ | refine thenE_exit ?_ | refine thenE_ret ?_ | refine blockE_normal ?_ | refine blockE_ret ?_ | refine blockE_same ?_ | refine blockE_other rfl ?_)
    (repeat refine Sx.seq ?_)
    refine Sx.textR ?_
    refine Ox.pure rfl rfl (rp_move rfl rfl) ?_
    refine Ox.act rfl rfl (acts_call rfl rfl rfl (few_at l (fun _ => True) row p A cap _ hl (hsl.ext0 (by ((repeat (first | exact Ext.refl _ _ | assumption | refine Ext.trans ?_ (by assumption))); (first | done | fail "chain")))) (reps_ext0 (by ((repeat (first | exact Ext.refl _ _ | assumption | refine Ext.trans ?_ (by assumption))); (first | done | fail "chain"))) hr))) ?_
    rintro v2 w2 ⟨e2, rfl⟩
    have hz2 := e2.size
    rw [hfew]
    refine Ox.pure rfl rfl (rp_not rfl rfl) ?_
    refine Ox.pure rfl rfl (rp_move rfl rfl) ?_
    first | (refine Ox.skip rfl rfl ?_) | (refine Ox.pure rfl rfl (rp_move rfl rfl) ?_)
    first | (refine Ox.skip rfl rfl ?_) | (refine Ox.pure rfl rfl (rp_lenS rfl rfl rfl) ?_)
    first | (refine Ox.skip rfl rfl ?_) | (refine Ox.pure rfl rfl (by first | exact rp_bin rfl rfl rfl (binI_t (by omega)) | exact rp_bin rfl rfl rfl (binI_f (by omega)) | exact rp_bin rfl rfl rfl rfl) ?_)
    refine Ox.pure rfl rfl (by first | exact rp_pick_t rfl rfl rfl | exact rp_pick_f rfl rfl rfl) ?_
    refine Ox.nil ?_
    (repeat first | refine thenE_normal ?_ | refine thenE_exit ?_ | refine thenE_ret ?_ | refine blockE_normal ?_ | refine blockE_ret ?_ | refine blockE_same ?_ | refine blockE_other rfl ?_)
    (repeat refine Sx.seq ?_); first | refine Sx.cond_true rfl ?_ | refine Sx.cond rfl (fun _ => ?_) (fun h => absurd h (by simp [*]))
    (repeat refine Sx.seq ?_)
    refine Sx.textR ?_
    refine Ox.pure rfl rfl (rp_assign rfl rfl) ?_
    refine Ox.nil ?_
    (repeat first | refine thenE_normal ?_ | refine thenE_exit ?_ | refine thenE_ret ?_ | refine blockE_normal ?_ | refine blockE_ret ?_ | refine blockE_same ?_ | refine blockE_other rfl ?_)
    (repeat refine Sx.seq ?_); refine Sx.ret ?_
    (repeat first | refine thenE_normal ?_ | refine thenE_exit ?_ | refine thenE_ret ?_ | refine blockE_normal ?_ | refine blockE_ret ?_ | refine blockE_same ?_ | refine blockE_other rfl ?_)
    exact endE_ret [_] ⟨rfl, trivial⟩ ⟨by ((repeat (first | exact Ext.refl _ _ | assumption | refine Ext.trans ?_ (by assumption))); (first | done | fail "chain")), rfl⟩
  | true =>
    by_cases hbig : 20 < l.length
    · (repeat refine Sx.seq ?_)
      refine Sx.textR ?_
      refine Ox.pure rfl rfl (rp_assign rfl rfl) ?_
      refine Ox.nil ?_
      (repeat first | refine thenE_normal ?_ | refine thenE_exit ?_ | refine thenE_ret ?_ | refine blockE_normal ?_ | refine blockE_ret ?_ | refine blockE_same ?_ | refine blockE_other rfl ?_)
      (repeat refine Sx.seq ?_)
      refine Sx.textR ?_
      refine Ox.act rfl rfl (acts_call rfl rfl rfl (sane_at _)) ?_
      rintro v3 w3 ⟨e3, rfl⟩
      have hz3 := e3.size
      refine Ox.pure rfl rfl (rp_not rfl rfl) ?_
      refine Ox.nil ?_
      (repeat first | refine thenE_normal ?_ | refine thenE_exit ?_ | refine thenE_ret ?_ | refine blockE_normal ?_ | refine blockE_ret ?_ | refine blockE_same ?_ | refine blockE_other rfl ?_)
      (repeat refine Sx.seq ?_); first | refine Sx.cond_false rfl ?_ | refine Sx.cond rfl (fun h => absurd h (by simp [*])) (fun _ => ?_)
      (repeat refine Sx.seq ?_); refine Sx.skip ?_
      (repeat first | refine thenE_normal ?_ | refine thenE_exit ?_ | refine thenE_ret ?_ | refine blockE_normal ?_ | refine blockE_ret ?_ | refine blockE_same ?_ | refine blockE_other rfl ?_)
      (repeat refine Sx.seq ?_)
      refine Sx.textR ?_
      refine Ox.pure rfl rfl (rp_move rfl rfl) ?_
      refine Ox.act rfl rfl (acts_call rfl rfl rfl (few_at l (fun _ => True) row p A cap _ hl (hsl.ext0 (by ((repeat (first | exact Ext.refl _ _ | assumption | refine Ext.trans ?_ (by assumption))); (first | done | fail "chain")))) (reps_ext0 (by ((repeat (first | exact Ext.refl _ _ | assumption | refine Ext.trans ?_ (by assumption))); (first | done | fail "chain"))) hr))) ?_
      rintro v4 w4 ⟨e4, rfl⟩
      have hz4 := e4.size
      rw [hfew]
      refine Ox.pure rfl rfl (rp_not rfl rfl) ?_
      refine Ox.pure rfl rfl (rp_move rfl rfl) ?_
      first | (refine Ox.skip rfl rfl ?_) | (refine Ox.pure rfl rfl (rp_move rfl rfl) ?_)
      first | (refine Ox.skip rfl rfl ?_) | (refine Ox.pure rfl rfl (rp_lenS rfl rfl rfl) ?_)
      first | (refine Ox.skip rfl rfl ?_) | (refine Ox.pure rfl rfl (by first | exact rp_bin rfl rfl rfl (binI_t (by omega)) | exact rp_bin rfl rfl rfl (binI_f (by omega)) | exact rp_bin rfl rfl rfl rfl) ?_)
      refine Ox.pure rfl rfl (by first | exact rp_pick_t rfl rfl rfl | exact rp_pick_f rfl rfl rfl) ?_
      refine Ox.nil ?_
      (repeat first | refine thenE_normal ?_ | refine thenE_exit ?_ | refine thenE_ret ?_ | refine blockE_normal ?_ | refine blockE_ret ?_ | refine blockE_same ?_ | refine blockE_other rfl ?_)
      (repeat refine Sx.seq ?_); first | refine Sx.cond_true rfl ?_ | refine Sx.cond rfl (fun _ => ?_) (fun h => absurd h (by simp [*]))
      (repeat refine Sx.seq ?_)
      refine Sx.textR ?_
      refine Ox.pure rfl rfl (rp_assign rfl rfl) ?_
      refine Ox.nil ?_
      (repeat first | refine thenE_normal ?_ | refine thenE_exit ?_ | refine thenE_ret ?_ | refine blockE_normal ?_ | refine blockE_ret ?_ | refine blockE_same ?_ | refine blockE_other rfl ?_)
      (repeat refine Sx.seq ?_); refine Sx.ret ?_
      (repeat first | refine thenE_normal ?_ | refine thenE_exit ?_ | refine thenE_ret ?_ | refine blockE_normal ?_ | refine blockE_ret ?_ | refine blockE_same ?_ | refine blockE_other rfl ?_)
      exact endE_ret [_] ⟨rfl, trivial⟩ ⟨by ((repeat (first | exact Ext.refl _ _ | assumption | refine Ext.trans ?_ (by assumption))); (first | done | fail "chain")), rfl⟩
    have hok := reps_ok hr
    obtain ⟨hlen, hdep⟩ := few_list hok hfew
    have hlv : (encV (.mk 3 0 [] l)).length ≤ 900000 := by
      have := numeralL_10 (u := l.length) (by omega)
      rw [list_enc]; simp; omega
    have hdv : depthV (.mk 3 0 [] l) ≤ 1000000 := by rw [depthV, if_pos rfl]; omega
    have hrl : ∀ w, Ext [] W w → rep (fun _ => True) w (.mk 3 0 [] l) [.int .i64 3, .int .i64 0, .string ⟨[].toArray⟩, .slice p l.length cap] := fun w he =>
      ⟨⟨by decide, by decide⟩, ⟨by decide, by decide⟩, by simp, hl, p, cap, A, row, rfl, hlc, hcap2, hsl.ext0 he, fun h0 => ⟨trivial, Nat.lt_of_lt_of_le (hb h0) he.size⟩, reps_ext0 he hr⟩
    (repeat refine Sx.seq ?_)
    refine Sx.textR ?_
    refine Ox.pure rfl rfl (rp_assign rfl rfl) ?_
    refine Ox.nil ?_
    (repeat first | refine thenE_normal ?_ | refine thenE_exit ?_ | refine thenE_ret ?_ | refine blockE_normal ?_ | refine blockE_ret ?_ | refine blockE_same ?_ | refine blockE_other rfl ?_)
    (repeat refine Sx.seq ?_)
    refine Sx.textR ?_
    refine Ox.act rfl rfl (acts_call rfl rfl rfl (sane_at _)) ?_
    rintro v5 w5 ⟨e5, rfl⟩
    have hz5 := e5.size
    refine Ox.pure rfl rfl (rp_not rfl rfl) ?_
    refine Ox.nil ?_
    (repeat first | refine thenE_normal ?_ | refine thenE_exit ?_ | refine thenE_ret ?_ | refine blockE_normal ?_ | refine blockE_ret ?_ | refine blockE_same ?_ | refine blockE_other rfl ?_)
    (repeat refine Sx.seq ?_); first | refine Sx.cond_false rfl ?_ | refine Sx.cond rfl (fun h => absurd h (by simp [*])) (fun _ => ?_)
    (repeat refine Sx.seq ?_); refine Sx.skip ?_
    (repeat first | refine thenE_normal ?_ | refine thenE_exit ?_ | refine thenE_ret ?_ | refine blockE_normal ?_ | refine blockE_ret ?_ | refine blockE_same ?_ | refine blockE_other rfl ?_)
    (repeat refine Sx.seq ?_)
    refine Sx.textR ?_
    refine Ox.pure rfl rfl (rp_move rfl rfl) ?_
    refine Ox.act rfl rfl (acts_call rfl rfl rfl (few_at l (fun _ => True) row p A cap _ hl (hsl.ext0 (by ((repeat (first | exact Ext.refl _ _ | assumption | refine Ext.trans ?_ (by assumption))); (first | done | fail "chain")))) (reps_ext0 (by ((repeat (first | exact Ext.refl _ _ | assumption | refine Ext.trans ?_ (by assumption))); (first | done | fail "chain"))) hr))) ?_
    rintro v6 w6 ⟨e6, rfl⟩
    have hz6 := e6.size
    rw [hfew]
    refine Ox.pure rfl rfl (rp_not rfl rfl) ?_
    refine Ox.pure rfl rfl (rp_move rfl rfl) ?_
    first | (refine Ox.skip rfl rfl ?_) | (refine Ox.pure rfl rfl (rp_move rfl rfl) ?_)
    first | (refine Ox.skip rfl rfl ?_) | (refine Ox.pure rfl rfl (rp_lenS rfl rfl rfl) ?_)
    first | (refine Ox.skip rfl rfl ?_) | (refine Ox.pure rfl rfl (by first | exact rp_bin rfl rfl rfl (binI_t (by omega)) | exact rp_bin rfl rfl rfl (binI_f (by omega)) | exact rp_bin rfl rfl rfl rfl) ?_)
    refine Ox.pure rfl rfl (by first | exact rp_pick_t rfl rfl rfl | exact rp_pick_f rfl rfl rfl) ?_
    refine Ox.nil ?_
    (repeat first | refine thenE_normal ?_ | refine thenE_exit ?_ | refine thenE_ret ?_ | refine blockE_normal ?_ | refine blockE_ret ?_ | refine blockE_same ?_ | refine blockE_other rfl ?_)
    (repeat refine Sx.seq ?_); first | refine Sx.cond_false rfl ?_ | refine Sx.cond rfl (fun h => absurd h (by simp [*])) (fun _ => ?_)
    (repeat refine Sx.seq ?_); refine Sx.skip ?_
    (repeat first | refine thenE_normal ?_ | refine thenE_exit ?_ | refine thenE_ret ?_ | refine blockE_normal ?_ | refine blockE_ret ?_ | refine blockE_same ?_ | refine blockE_other rfl ?_)
    (repeat refine Sx.seq ?_)
    refine Sx.textR ?_
    refine Ox.pure rfl rfl (rp_assign rfl rfl) ?_
    refine Ox.nil ?_
    (repeat first | refine thenE_normal ?_ | refine thenE_exit ?_ | refine thenE_ret ?_ | refine blockE_normal ?_ | refine blockE_ret ?_ | refine blockE_same ?_ | refine blockE_other rfl ?_)
    (repeat refine Sx.seq ?_)
    refine Sx.textR ?_
    refine Ox.pure rfl rfl (rp_assign rfl rfl) ?_
    refine Ox.nil ?_
    (repeat first | refine thenE_normal ?_ | refine thenE_exit ?_ | refine thenE_ret ?_ | refine blockE_normal ?_ | refine blockE_ret ?_ | refine blockE_same ?_ | refine blockE_other rfl ?_)
    (repeat refine Sx.seq ?_)
    refine Sx.textR ?_
    refine Ox.pure rfl rfl (rp_assign rfl rfl) ?_
    refine Ox.nil ?_
    (repeat first | refine thenE_normal ?_ | refine thenE_exit ?_ | refine thenE_ret ?_ | refine blockE_normal ?_ | refine blockE_ret ?_ | refine blockE_same ?_ | refine blockE_other rfl ?_)
    (repeat refine Sx.seq ?_)
    refine Sx.textR ?_
    refine Ox.pure rfl rfl (rp_move rfl rfl) ?_
    refine Ox.pure rfl rfl (rp_lenS rfl rfl rfl) ?_
    refine Ox.pure rfl rfl (rp_move rfl rfl) ?_
    refine Ox.nil ?_
    (repeat first | refine thenE_normal ?_ | refine thenE_exit ?_ | refine thenE_ret ?_ | refine blockE_normal ?_ | refine blockE_ret ?_ | refine blockE_same ?_ | refine blockE_other rfl ?_)
    (repeat refine Sx.seq ?_); refine Sx.block ?_
    refine Sx.loop (ι := Nat × Value × Value) (fun i E wr => E = [(0, .slice p l.length cap), (3, i.2.1), (4, i.2.2), (5, .int .i64 ((encL (l.take i.1)).length : Nat)), (29, .slice p l.length cap), (30, .int .i64 (l.length : Int)), (31, .int .i64 (i.1 : Int))] ∧
        i.1 ≤ l.length ∧ (∀ d ∈ l.take i.1, checkV d = 0) ∧ Ext [] W wr ∧ wr.ownsRow W.heap.size 5 1 i.2.1 (encL (l.take i.1)).length (bytesV (encL (l.take i.1))) ∧
        wr.ownsRow W.heap.size 24 4 i.2.2 i.1 (zrows i.1) ∧ (∀ g, i.2.1.ownBlock = some g → i.2.2.ownBlock ≠ some g)) (fun i => l.length - i.1) (0, nilS, nilS)
      (sub_cons rfl (sub_cons rfl (sub_cons rfl (sub_cons rfl (sub_cons rfl (sub_cons rfl (sub_cons rfl sub_nil))))))) ⟨rfl, Nat.zero_le _, by simp, by ((repeat (first | exact Ext.refl _ _ | assumption | refine Ext.trans ?_ (by assumption))); (first | done | fail "chain")), World.ownsRow_nil _ _ _ _, World.ownsRow_nil _ _ _ _, by simp [Value.ownBlock]⟩ ?_
    rintro ⟨i, vw, vz⟩ E wr ⟨rfl, hi, hck, er, how, hoz, hap⟩
    dsimp only at hi hck how hoz hap ⊢
    have hzr := er.size
    by_cases hlt : i < l.length
    · obtain ⟨d, hd', hdl, hdr⟩ := reps_at hlt hr
      have hd1 := rep_one hdr
      have hfd : fewV l[i] = true := List.all_eq_true.mp hfew _ (List.getElem_mem hlt)
      obtain ⟨hle, hde⟩ := few_bounds (okL_mem hok (List.getElem_mem hlt)) hfd
      have hta := encL_take hlt
      have hlt2 := encL_take_le l (i + 1)
      rw [hta, List.length_append] at hlt2
      by_cases h0 : checkV l[i] = 0
      · have henc : encR l[i] = encV l[i] := by rw [encR, if_pos h0]
        (repeat refine Sx.seq ?_)
        refine Sx.textR ?_
        refine Ox.pure rfl rfl (by first | exact rp_bin rfl rfl rfl (binI_t (by omega)) | exact rp_bin rfl rfl rfl (binI_f (by omega)) | exact rp_bin rfl rfl rfl rfl) ?_
        refine Ox.nil ?_
        (repeat first | refine thenE_normal ?_ | refine thenE_exit ?_ | refine thenE_ret ?_ | refine blockE_normal ?_ | refine blockE_ret ?_ | refine blockE_same ?_ | refine blockE_other rfl ?_)
        (repeat refine Sx.seq ?_); first | refine Sx.cond_true rfl ?_ | refine Sx.cond rfl (fun _ => ?_) (fun h => absurd h (by simp [*]))
        (repeat refine Sx.seq ?_); refine Sx.skip ?_
        (repeat first | refine thenE_normal ?_ | refine thenE_exit ?_ | refine thenE_ret ?_ | refine blockE_normal ?_ | refine blockE_ret ?_ | refine blockE_same ?_ | refine blockE_other rfl ?_)
        (repeat refine Sx.seq ?_); refine Sx.block ?_
        (repeat refine Sx.seq ?_)
        refine Sx.textR ?_
        refine Ox.pure rfl rfl (rp_indexAddr _ rfl rfl rfl rfl rfl (by assumption) rfl (by first | omega | decide)) ?_
        refine Ox.val rfl rfl (rv_load rfl rfl (by (intro u hu; first | exact Cells.ld (Cells.ext0 (by assumption) (by ((repeat (first | exact Ext.refl _ _ | assumption | refine Ext.trans ?_ (by assumption))); (first | done | fail "chain")))) _ rfl rfl | exact Cells.ld0 (Cells.ext0 (by assumption) (by ((repeat (first | exact Ext.refl _ _ | assumption | refine Ext.trans ?_ (by assumption))); (first | done | fail "chain")))) rfl rfl | exact Cells.ldA (Cells.ext0 (by assumption) (by ((repeat (first | exact Ext.refl _ _ | assumption | refine Ext.trans ?_ (by assumption))); (first | done | fail "chain")))) rfl rfl | exact Cells.ldL (Cells.ext0 (by assumption) (by ((repeat (first | exact Ext.refl _ _ | assumption | refine Ext.trans ?_ (by assumption))); (first | done | fail "chain")))) rfl rfl (by assumption) | exact Cells.ldP (Cells.ext0 (by assumption) (by ((repeat (first | exact Ext.refl _ _ | assumption | refine Ext.trans ?_ (by assumption))); (first | done | fail "chain")))) _ rfl rfl rfl rfl | exact Cells.ldP (Cells.ext0 (by assumption) (by ((repeat (first | exact Ext.refl _ _ | assumption | refine Ext.trans ?_ (by assumption))); (first | done | fail "chain")))) _ rfl rfl (by assumption) (by assumption)))) ?_
        refine Ox.act rfl rfl (acts_alloc rfl rfl) ?_
        rintro v7 w7 ⟨e7, b7, rfl, hb7, hB7⟩
        first | (have hC7 : Cells w7 ⟨b7, 0, none⟩ [_, _, _, _] := hB7.cells) | have hC7 := Blk.cellsL hB7
        have hl7 := hB7.lt
        have hz7 := e7.size
        refine Ox.act rfl rfl (acts_store_all rfl rfl rfl hB7 rfl (by first | rfl | assumption) (by first | rfl | assumption) (by (first | assumption | exact List.all_eq_true.mp rfl | simp [Value.cells, Value.oneCell']))) ?_
        rintro vst wst ⟨rfl, qst, hBst⟩
        have est := Ext.renew e7 qst hb7
        have hzst := est.size
        first | (have hCst : Cells wst ⟨b7, 0, none⟩ [_, _, _, _] := hBst.cells) | have hCst := Blk.cellsL hBst
        refine Ox.nil ?_
        (repeat first | refine thenE_normal ?_ | refine thenE_exit ?_ | refine thenE_ret ?_ | refine blockE_normal ?_ | refine blockE_ret ?_ | refine blockE_same ?_ | refine blockE_other rfl ?_)
        (repeat refine Sx.seq ?_)
        refine Sx.textR ?_
        refine Ox.val rfl rfl (rv_load rfl rfl (by (intro u hu; first | exact Cells.ld (Cells.ext0 (by assumption) (by ((repeat (first | exact Ext.refl _ _ | assumption | refine Ext.trans ?_ (by assumption))); (first | done | fail "chain")))) _ rfl rfl | exact Cells.ld0 (Cells.ext0 (by assumption) (by ((repeat (first | exact Ext.refl _ _ | assumption | refine Ext.trans ?_ (by assumption))); (first | done | fail "chain")))) rfl rfl | exact Cells.ldA (Cells.ext0 (by assumption) (by ((repeat (first | exact Ext.refl _ _ | assumption | refine Ext.trans ?_ (by assumption))); (first | done | fail "chain")))) rfl rfl | exact Cells.ldL (Cells.ext0 (by assumption) (by ((repeat (first | exact Ext.refl _ _ | assumption | refine Ext.trans ?_ (by assumption))); (first | done | fail "chain")))) rfl rfl (by assumption) | exact Cells.ldP (Cells.ext0 (by assumption) (by ((repeat (first | exact Ext.refl _ _ | assumption | refine Ext.trans ?_ (by assumption))); (first | done | fail "chain")))) _ rfl rfl rfl rfl | exact Cells.ldP (Cells.ext0 (by assumption) (by ((repeat (first | exact Ext.refl _ _ | assumption | refine Ext.trans ?_ (by assumption))); (first | done | fail "chain")))) _ rfl rfl (by assumption) (by assumption)))) ?_
        refine Ox.act rfl rfl (acts_call rfl rfl rfl (encode_at l[i] (fun _ => True) d _ (rep_ext0 (by ((repeat (first | exact Ext.refl _ _ | assumption | refine Ext.trans ?_ (by assumption))); (first | done | fail "chain"))) hdr) (by omega) (by omega))) ?_
        rintro v8 w8 ⟨e8, b11, rfl, ho11⟩
        have hz8 := e8.size
        rw [henc] at ho11
        obtain ⟨p11, k11, A11, rfl, hsl11, hk11, _⟩ := own_sl ho11
        refine Ox.pure rfl rfl (rp_move rfl rfl) ?_
        refine Ox.pure rfl rfl (rp_extract rfl rfl rfl) ?_
        refine Ox.pure rfl rfl (rp_extract rfl rfl rfl) ?_
        refine Ox.pure rfl rfl (rp_assign rfl rfl) ?_
        refine Ox.pure rfl rfl (rp_assign rfl rfl) ?_
        refine Ox.nil ?_
        (repeat first | refine thenE_normal ?_ | refine thenE_exit ?_ | refine thenE_ret ?_ | refine blockE_normal ?_ | refine blockE_ret ?_ | refine blockE_same ?_ | refine blockE_other rfl ?_)
        (repeat refine Sx.seq ?_)
        refine Sx.textR ?_
        refine Ox.val rfl rfl (rv_load rfl rfl (by (intro u hu; first | exact Cells.ld (Cells.ext0 (by assumption) (by ((repeat (first | exact Ext.refl _ _ | assumption | refine Ext.trans ?_ (by assumption))); (first | done | fail "chain")))) _ rfl rfl | exact Cells.ld0 (Cells.ext0 (by assumption) (by ((repeat (first | exact Ext.refl _ _ | assumption | refine Ext.trans ?_ (by assumption))); (first | done | fail "chain")))) rfl rfl | exact Cells.ldA (Cells.ext0 (by assumption) (by ((repeat (first | exact Ext.refl _ _ | assumption | refine Ext.trans ?_ (by assumption))); (first | done | fail "chain")))) rfl rfl | exact Cells.ldL (Cells.ext0 (by assumption) (by ((repeat (first | exact Ext.refl _ _ | assumption | refine Ext.trans ?_ (by assumption))); (first | done | fail "chain")))) rfl rfl (by assumption) | exact Cells.ldP (Cells.ext0 (by assumption) (by ((repeat (first | exact Ext.refl _ _ | assumption | refine Ext.trans ?_ (by assumption))); (first | done | fail "chain")))) _ rfl rfl rfl rfl | exact Cells.ldP (Cells.ext0 (by assumption) (by ((repeat (first | exact Ext.refl _ _ | assumption | refine Ext.trans ?_ (by assumption))); (first | done | fail "chain")))) _ rfl rfl (by assumption) (by assumption)))) ?_
        refine Ox.act rfl rfl (acts_call rfl rfl rfl (size_at l[i] (fun _ => True) d _ (rep_ext0 (by ((repeat (first | exact Ext.refl _ _ | assumption | refine Ext.trans ?_ (by assumption))); (first | done | fail "chain"))) hdr) (by omega) (by omega))) ?_
        rintro v9 w9 ⟨e9, rfl⟩
        have hz9 := e9.size
        rw [henc]
        refine Ox.pure rfl rfl (rp_move rfl rfl) ?_
        refine Ox.pure rfl rfl (rp_extract rfl rfl rfl) ?_
        refine Ox.pure rfl rfl (rp_extract rfl rfl rfl) ?_
        refine Ox.pure rfl rfl (rp_assign rfl rfl) ?_
        refine Ox.pure rfl rfl (rp_assign rfl rfl) ?_
        refine Ox.nil ?_
        (repeat first | refine thenE_normal ?_ | refine thenE_exit ?_ | refine thenE_ret ?_ | refine blockE_normal ?_ | refine blockE_ret ?_ | refine blockE_same ?_ | refine blockE_other rfl ?_)
        (repeat refine Sx.seq ?_)
        refine Sx.textR ?_
        refine Ox.pure rfl rfl (rp_move rfl rfl) ?_
        refine Ox.pure rfl rfl (rp_move rfl rfl) ?_
        refine Ox.pure rfl rfl (by first | exact rp_bin rfl rfl rfl (binI_t (by omega)) | exact rp_bin rfl rfl rfl (binI_f (by omega)) | exact rp_bin rfl rfl rfl rfl) ?_
        refine Ox.pure rfl rfl (rp_move rfl rfl) ?_
        first | (refine Ox.skip rfl rfl ?_) | (refine Ox.pure rfl rfl (rp_move rfl rfl) ?_)
        first | (refine Ox.skip rfl rfl ?_) | (refine Ox.pure rfl rfl (by first | exact rp_bin rfl rfl rfl (binI_t (by omega)) | exact rp_bin rfl rfl rfl (binI_f (by omega)) | exact rp_bin rfl rfl rfl rfl) ?_)
        first | (refine Ox.skip rfl rfl ?_) | (refine Ox.pure rfl rfl (rp_move rfl rfl) ?_)
        first | (refine Ox.skip rfl rfl ?_) | (refine Ox.pure rfl rfl (rp_move rfl rfl) ?_)
        first | (refine Ox.skip rfl rfl ?_) | (refine Ox.pure rfl rfl (rp_move rfl rfl) ?_)
        first | (refine Ox.skip rfl rfl ?_) | (refine Ox.pure rfl rfl (rp_lenS rfl rfl rfl) ?_)
        first | (refine Ox.skip rfl rfl ?_) | (refine Ox.pure rfl rfl (by first | exact rp_bin rfl rfl rfl (binI_t (by omega)) | exact rp_bin rfl rfl rfl (binI_f (by omega)) | exact rp_bin rfl rfl rfl rfl) ?_)
        first | (refine Ox.skip rfl rfl ?_) | (refine Ox.pure rfl rfl (by first | exact rp_pick_t rfl rfl rfl | exact rp_pick_f rfl rfl rfl) ?_)
        refine Ox.pure rfl rfl (by first | exact rp_pick_t rfl rfl rfl | exact rp_pick_f rfl rfl rfl) ?_
        refine Ox.nil ?_
        (repeat first | refine thenE_normal ?_ | refine thenE_exit ?_ | refine thenE_ret ?_ | refine blockE_normal ?_ | refine blockE_ret ?_ | refine blockE_same ?_ | refine blockE_other rfl ?_)
        (repeat refine Sx.seq ?_); first | refine Sx.cond_false rfl ?_ | refine Sx.cond rfl (fun h => absurd h (by simp [*])) (fun _ => ?_)
        (repeat refine Sx.seq ?_); refine Sx.skip ?_
        (repeat first | refine thenE_normal ?_ | refine thenE_exit ?_ | refine thenE_ret ?_ | refine blockE_normal ?_ | refine blockE_ret ?_ | refine blockE_same ?_ | refine blockE_other rfl ?_)
        (repeat refine Sx.seq ?_)
        refine Sx.textR ?_
        refine Ox.pure rfl rfl (rp_move rfl rfl) ?_
        refine Ox.pure rfl rfl (by first | exact rp_bin rfl rfl rfl (binI_t (by omega)) | exact rp_bin rfl rfl rfl (binI_f (by omega)) | exact rp_bin rfl rfl rfl rfl) ?_
        refine Ox.nil ?_
        (repeat first | refine thenE_normal ?_ | refine thenE_exit ?_ | refine thenE_ret ?_ | refine blockE_normal ?_ | refine blockE_ret ?_ | refine blockE_same ?_ | refine blockE_other rfl ?_)
        (repeat refine Sx.seq ?_); first | refine Sx.cond_false rfl ?_ | refine Sx.cond rfl (fun h => absurd h (by simp [*])) (fun _ => ?_)
        (repeat refine Sx.seq ?_); refine Sx.skip ?_
        (repeat first | refine thenE_normal ?_ | refine thenE_exit ?_ | refine thenE_ret ?_ | refine blockE_normal ?_ | refine blockE_ret ?_ | refine blockE_same ?_ | refine blockE_other rfl ?_)
        (repeat refine Sx.seq ?_)
        refine Sx.textR ?_
        refine Ox.pure rfl rfl (rp_move rfl rfl) ?_
        refine Ox.pure rfl rfl (rp_move rfl rfl) ?_
        refine Ox.act rfl rfl (acts_append (e := 5) (size := 1) (bytes := 1) rfl rfl rfl rfl (own_keep0 how (by ((repeat (first | exact Ext.refl _ _ | assumption | refine Ext.trans ?_ (by assumption))); (first | done | fail "chain")))) (source_slice rfl (by rw [bytesV_length]; omega) hsl11.1 (hsl11.2.ext0 (by ((repeat (first | exact Ext.refl _ _ | assumption | refine Ext.trans ?_ (by assumption))); (first | done | fail "chain")))) (bytesV_one _)) (by omega) (by omega) (by omega)) ?_
        rintro vap wap hgap
        have eap : Ext [] W wap := hgap.ext0 (by ((repeat (first | exact Ext.refl _ _ | assumption | refine Ext.trans ?_ (by assumption))); (first | done | fail "chain"))) (own_ge how); have hzap := hgap.ext.size; have hozap := own_keep (own_keep0 hoz (by ((repeat (first | exact Ext.refl _ _ | assumption | refine Ext.trans ?_ (by assumption))); (first | done | fail "chain")))) hgap.ext (fun g hg hm => hap g (by simpa using hm) hg); have hapap := apart_grow hgap (own_keep0 hoz (by ((repeat (first | exact Ext.refl _ _ | assumption | refine Ext.trans ?_ (by assumption))); (first | done | fail "chain")))) hap
        refine Ox.pure rfl rfl (rp_assign rfl rfl) ?_
        refine Ox.nil ?_
        (repeat first | refine thenE_normal ?_ | refine thenE_exit ?_ | refine thenE_ret ?_ | refine blockE_normal ?_ | refine blockE_ret ?_ | refine blockE_same ?_ | refine blockE_other rfl ?_)
        (repeat refine Sx.seq ?_)
        refine Sx.textR ?_
        refine Ox.pure rfl rfl (rp_move rfl rfl) ?_
        refine Ox.act rfl rfl (acts_call rfl rfl rfl (ref_Int 0 _)) ?_
        rintro vri wri ⟨eri, rfl⟩
        have hzri := eri.size
        refine Ox.act rfl rfl (acts_buildSlice (ps := [(0, .tmp 72)]) rfl rfl rfl rfl rfl rfl rfl rfl) ?_
        rintro vbs wbs ⟨ebs, bbs, rfl, hbbs, hBbs⟩
        first | (have hCbs : Cells wbs ⟨bbs, 0, none⟩ [_, _, _, _] := hBbs.cells) | have hCbs := Blk.cellsL hBbs
        have hlbs := hBbs.lt
        have hzbs := ebs.size
        have hzrow : Cells wbs ⟨bbs, 0, none⟩ zIntC := hCbs
        refine Ox.act rfl rfl (acts_append (e := 24) (size := 4) (bytes := 56) rfl rfl rfl rfl (own_keep0 hozap (by ((repeat (first | exact Ext.refl _ _ | assumption | refine Ext.trans ?_ (by assumption))); (first | done | fail "chain")))) (source_slice rfl rfl (fun _ => rfl) hzrow (by simp [Value.oneCell'])) (by omega) (by omega) (by omega)) ?_
        rintro vaq waq hgaq
        refine Ox.pure rfl rfl (rp_assign rfl rfl) ?_
        refine Ox.nil ?_
        (repeat first | refine thenE_normal ?_ | refine thenE_exit ?_ | refine thenE_ret ?_ | refine blockE_normal ?_ | refine blockE_ret ?_ | refine blockE_same ?_ | refine blockE_other rfl ?_)
        (repeat refine Sx.seq ?_)
        refine Sx.textR ?_
        refine Ox.pure rfl rfl (rp_move rfl rfl) ?_
        refine Ox.pure rfl rfl (rp_move rfl rfl) ?_
        refine Ox.pure rfl rfl (by first | exact rp_bin rfl rfl rfl (binI_fit_add (wrap64 (by omega))) | exact rp_bin rfl rfl rfl rfl) ?_
        refine Ox.pure rfl rfl (rp_assign rfl rfl) ?_
        refine Ox.nil ?_
        (repeat first | refine thenE_normal ?_ | refine thenE_exit ?_ | refine thenE_ret ?_ | refine blockE_normal ?_ | refine blockE_ret ?_ | refine blockE_same ?_ | refine blockE_other rfl ?_)
        (repeat refine Sx.seq ?_)
        refine Sx.textR ?_
        refine Ox.pure rfl rfl (by first | exact rp_bin rfl rfl rfl (binI_fit_add (wrap64 (by omega))) | exact rp_bin rfl rfl rfl rfl) ?_
        refine Ox.pure rfl rfl (rp_move rfl rfl) ?_
        refine Ox.nil ?_
        (repeat first | refine thenE_normal ?_ | refine thenE_exit ?_ | refine thenE_ret ?_ | refine blockE_normal ?_ | refine blockE_ret ?_ | refine blockE_same ?_ | refine blockE_other rfl ?_)
        have hapaq := apart_grow hgaq (own_keep0 hgap.own (by ((repeat (first | exact Ext.refl _ _ | assumption | refine Ext.trans ?_ (by assumption))); (first | done | fail "chain")))) (fun g hg hug => hapap g hug hg)
        refine ⟨(i + 1, vap, vaq), _, sub_cons rfl (sub_cons rfl (sub_cons rfl (sub_int rfl ?_ (sub_cons rfl (sub_cons rfl (sub_cons rfl sub_nil)))))), ⟨rfl, hlt, ?_, hgaq.ext0 (by ((repeat (first | exact Ext.refl _ _ | assumption | refine Ext.trans ?_ (by assumption))); (first | done | fail "chain"))) (own_ge hoz), ?_, hgaq.own, fun g hg hug => hapaq g hug hg⟩, by dsimp only; omega⟩
        · dsimp only; rw [hta, List.length_append]; omega
        · dsimp only
          rw [← List.take_append_getElem hlt]
          intro d hd
          rcases List.mem_append.mp hd with h5 | h5
          · exact hck d h5
          · rw [List.mem_singleton.mp h5]; exact h0
        · dsimp only
          rw [hta, List.length_append, bytesV_append]
          exact own_keep (own_keep0 hgap.own (by ((repeat (first | exact Ext.refl _ _ | assumption | refine Ext.trans ?_ (by assumption))); (first | done | fail "chain")))) hgaq.ext (fun g hg hm => hapap g hg (by simpa using hm))
      · have hbad := list_bad hlt h0
        (repeat refine Sx.seq ?_)
        refine Sx.textR ?_
        refine Ox.pure rfl rfl (by first | exact rp_bin rfl rfl rfl (binI_t (by omega)) | exact rp_bin rfl rfl rfl (binI_f (by omega)) | exact rp_bin rfl rfl rfl rfl) ?_
        refine Ox.nil ?_
        (repeat first | refine thenE_normal ?_ | refine thenE_exit ?_ | refine thenE_ret ?_ | refine blockE_normal ?_ | refine blockE_ret ?_ | refine blockE_same ?_ | refine blockE_other rfl ?_)
        (repeat refine Sx.seq ?_); first | refine Sx.cond_true rfl ?_ | refine Sx.cond rfl (fun _ => ?_) (fun h => absurd h (by simp [*]))
        (repeat refine Sx.seq ?_); refine Sx.skip ?_
        (repeat first | refine thenE_normal ?_ | refine thenE_exit ?_ | refine thenE_ret ?_ | refine blockE_normal ?_ | refine blockE_ret ?_ | refine blockE_same ?_ | refine blockE_other rfl ?_)
        (repeat refine Sx.seq ?_); refine Sx.block ?_
        (repeat refine Sx.seq ?_)
        refine Sx.textR ?_
        refine Ox.pure rfl rfl (rp_indexAddr _ rfl rfl rfl rfl rfl (by assumption) rfl (by first | omega | decide)) ?_
        refine Ox.val rfl rfl (rv_load rfl rfl (by (intro u hu; first | exact Cells.ld (Cells.ext0 (by assumption) (by ((repeat (first | exact Ext.refl _ _ | assumption | refine Ext.trans ?_ (by assumption))); (first | done | fail "chain")))) _ rfl rfl | exact Cells.ld0 (Cells.ext0 (by assumption) (by ((repeat (first | exact Ext.refl _ _ | assumption | refine Ext.trans ?_ (by assumption))); (first | done | fail "chain")))) rfl rfl | exact Cells.ldA (Cells.ext0 (by assumption) (by ((repeat (first | exact Ext.refl _ _ | assumption | refine Ext.trans ?_ (by assumption))); (first | done | fail "chain")))) rfl rfl | exact Cells.ldL (Cells.ext0 (by assumption) (by ((repeat (first | exact Ext.refl _ _ | assumption | refine Ext.trans ?_ (by assumption))); (first | done | fail "chain")))) rfl rfl (by assumption) | exact Cells.ldP (Cells.ext0 (by assumption) (by ((repeat (first | exact Ext.refl _ _ | assumption | refine Ext.trans ?_ (by assumption))); (first | done | fail "chain")))) _ rfl rfl rfl rfl | exact Cells.ldP (Cells.ext0 (by assumption) (by ((repeat (first | exact Ext.refl _ _ | assumption | refine Ext.trans ?_ (by assumption))); (first | done | fail "chain")))) _ rfl rfl (by assumption) (by assumption)))) ?_
        refine Ox.act rfl rfl (acts_alloc rfl rfl) ?_
        rintro v10 w10 ⟨e10, b10, rfl, hb10, hB10⟩
        first | (have hC10 : Cells w10 ⟨b10, 0, none⟩ [_, _, _, _] := hB10.cells) | have hC10 := Blk.cellsL hB10
        have hl10 := hB10.lt
        have hz10 := e10.size
        refine Ox.act rfl rfl (acts_store_all rfl rfl rfl hB10 rfl (by first | rfl | assumption) (by first | rfl | assumption) (by (first | assumption | exact List.all_eq_true.mp rfl | simp [Value.cells, Value.oneCell']))) ?_
        rintro vst wst ⟨rfl, qst, hBst⟩
        have est := Ext.renew e10 qst hb10
        have hzst := est.size
        first | (have hCst : Cells wst ⟨b10, 0, none⟩ [_, _, _, _] := hBst.cells) | have hCst := Blk.cellsL hBst
        refine Ox.nil ?_
        (repeat first | refine thenE_normal ?_ | refine thenE_exit ?_ | refine thenE_ret ?_ | refine blockE_normal ?_ | refine blockE_ret ?_ | refine blockE_same ?_ | refine blockE_other rfl ?_)
        (repeat refine Sx.seq ?_)
        refine Sx.textR ?_
        refine Ox.val rfl rfl (rv_load rfl rfl (by (intro u hu; first | exact Cells.ld (Cells.ext0 (by assumption) (by ((repeat (first | exact Ext.refl _ _ | assumption | refine Ext.trans ?_ (by assumption))); (first | done | fail "chain")))) _ rfl rfl | exact Cells.ld0 (Cells.ext0 (by assumption) (by ((repeat (first | exact Ext.refl _ _ | assumption | refine Ext.trans ?_ (by assumption))); (first | done | fail "chain")))) rfl rfl | exact Cells.ldA (Cells.ext0 (by assumption) (by ((repeat (first | exact Ext.refl _ _ | assumption | refine Ext.trans ?_ (by assumption))); (first | done | fail "chain")))) rfl rfl | exact Cells.ldL (Cells.ext0 (by assumption) (by ((repeat (first | exact Ext.refl _ _ | assumption | refine Ext.trans ?_ (by assumption))); (first | done | fail "chain")))) rfl rfl (by assumption) | exact Cells.ldP (Cells.ext0 (by assumption) (by ((repeat (first | exact Ext.refl _ _ | assumption | refine Ext.trans ?_ (by assumption))); (first | done | fail "chain")))) _ rfl rfl rfl rfl | exact Cells.ldP (Cells.ext0 (by assumption) (by ((repeat (first | exact Ext.refl _ _ | assumption | refine Ext.trans ?_ (by assumption))); (first | done | fail "chain")))) _ rfl rfl (by assumption) (by assumption)))) ?_
        refine Ox.act rfl rfl (acts_call rfl rfl rfl (encode_at l[i] (fun _ => True) d _ (rep_ext0 (by ((repeat (first | exact Ext.refl _ _ | assumption | refine Ext.trans ?_ (by assumption))); (first | done | fail "chain"))) hdr) (by omega) (by omega))) ?_
        rintro v11 w11 ⟨e11, b11, rfl, ho11⟩
        have hz11 := e11.size
        obtain ⟨p11, k11, A11, rfl, hsl11, hk11, _⟩ := own_sl ho11
        refine Ox.pure rfl rfl (rp_move rfl rfl) ?_
        refine Ox.pure rfl rfl (rp_extract rfl rfl rfl) ?_
        refine Ox.pure rfl rfl (rp_extract rfl rfl rfl) ?_
        refine Ox.pure rfl rfl (rp_assign rfl rfl) ?_
        refine Ox.pure rfl rfl (rp_assign rfl rfl) ?_
        refine Ox.nil ?_
        (repeat first | refine thenE_normal ?_ | refine thenE_exit ?_ | refine thenE_ret ?_ | refine blockE_normal ?_ | refine blockE_ret ?_ | refine blockE_same ?_ | refine blockE_other rfl ?_)
        (repeat refine Sx.seq ?_)
        refine Sx.textR ?_
        refine Ox.val rfl rfl (rv_load rfl rfl (by (intro u hu; first | exact Cells.ld (Cells.ext0 (by assumption) (by ((repeat (first | exact Ext.refl _ _ | assumption | refine Ext.trans ?_ (by assumption))); (first | done | fail "chain")))) _ rfl rfl | exact Cells.ld0 (Cells.ext0 (by assumption) (by ((repeat (first | exact Ext.refl _ _ | assumption | refine Ext.trans ?_ (by assumption))); (first | done | fail "chain")))) rfl rfl | exact Cells.ldA (Cells.ext0 (by assumption) (by ((repeat (first | exact Ext.refl _ _ | assumption | refine Ext.trans ?_ (by assumption))); (first | done | fail "chain")))) rfl rfl | exact Cells.ldL (Cells.ext0 (by assumption) (by ((repeat (first | exact Ext.refl _ _ | assumption | refine Ext.trans ?_ (by assumption))); (first | done | fail "chain")))) rfl rfl (by assumption) | exact Cells.ldP (Cells.ext0 (by assumption) (by ((repeat (first | exact Ext.refl _ _ | assumption | refine Ext.trans ?_ (by assumption))); (first | done | fail "chain")))) _ rfl rfl rfl rfl | exact Cells.ldP (Cells.ext0 (by assumption) (by ((repeat (first | exact Ext.refl _ _ | assumption | refine Ext.trans ?_ (by assumption))); (first | done | fail "chain")))) _ rfl rfl (by assumption) (by assumption)))) ?_
        refine Ox.act rfl rfl (acts_call rfl rfl rfl (size_at l[i] (fun _ => True) d _ (rep_ext0 (by ((repeat (first | exact Ext.refl _ _ | assumption | refine Ext.trans ?_ (by assumption))); (first | done | fail "chain"))) hdr) (by omega) (by omega))) ?_
        rintro v12 w12 ⟨e12, rfl⟩
        have hz12 := e12.size
        refine Ox.pure rfl rfl (rp_move rfl rfl) ?_
        refine Ox.pure rfl rfl (rp_extract rfl rfl rfl) ?_
        refine Ox.pure rfl rfl (rp_extract rfl rfl rfl) ?_
        refine Ox.pure rfl rfl (rp_assign rfl rfl) ?_
        refine Ox.pure rfl rfl (rp_assign rfl rfl) ?_
        refine Ox.nil ?_
        (repeat first | refine thenE_normal ?_ | refine thenE_exit ?_ | refine thenE_ret ?_ | refine blockE_normal ?_ | refine blockE_ret ?_ | refine blockE_same ?_ | refine blockE_other rfl ?_)
        (repeat refine Sx.seq ?_)
        refine Sx.textR ?_
        refine Ox.pure rfl rfl (rp_move rfl rfl) ?_
        refine Ox.pure rfl rfl (rp_move rfl rfl) ?_
        refine Ox.pure rfl rfl (by first | exact rp_bin rfl rfl rfl (binI_t (by omega)) | exact rp_bin rfl rfl rfl (binI_f (by omega)) | exact rp_bin rfl rfl rfl rfl) ?_
        refine Ox.pure rfl rfl (rp_move rfl rfl) ?_
        first | (refine Ox.skip rfl rfl ?_) | (refine Ox.pure rfl rfl (rp_move rfl rfl) ?_)
        first | (refine Ox.skip rfl rfl ?_) | (refine Ox.pure rfl rfl (by first | exact rp_bin rfl rfl rfl (binI_t (by omega)) | exact rp_bin rfl rfl rfl (binI_f (by omega)) | exact rp_bin rfl rfl rfl rfl) ?_)
        first | (refine Ox.skip rfl rfl ?_) | (refine Ox.pure rfl rfl (rp_move rfl rfl) ?_)
        first | (refine Ox.skip rfl rfl ?_) | (refine Ox.pure rfl rfl (rp_move rfl rfl) ?_)
        first | (refine Ox.skip rfl rfl ?_) | (refine Ox.pure rfl rfl (rp_move rfl rfl) ?_)
        first | (refine Ox.skip rfl rfl ?_) | (refine Ox.pure rfl rfl (rp_lenS rfl rfl rfl) ?_)
        first | (refine Ox.skip rfl rfl ?_) | (refine Ox.pure rfl rfl (by first | exact rp_bin rfl rfl rfl (binI_t (by omega)) | exact rp_bin rfl rfl rfl (binI_f (by omega)) | exact rp_bin rfl rfl rfl rfl) ?_)
        first | (refine Ox.skip rfl rfl ?_) | (refine Ox.pure rfl rfl (by first | exact rp_pick_t rfl rfl rfl | exact rp_pick_f rfl rfl rfl) ?_)
        refine Ox.pure rfl rfl (by first | exact rp_pick_t rfl rfl rfl | exact rp_pick_f rfl rfl rfl) ?_
        refine Ox.nil ?_
        (repeat first | refine thenE_normal ?_ | refine thenE_exit ?_ | refine thenE_ret ?_ | refine blockE_normal ?_ | refine blockE_ret ?_ | refine blockE_same ?_ | refine blockE_other rfl ?_)
        (repeat refine Sx.seq ?_); first | refine Sx.cond_false rfl ?_ | refine Sx.cond rfl (fun h => absurd h (by simp [*])) (fun _ => ?_)
        (repeat refine Sx.seq ?_); refine Sx.skip ?_
        (repeat first | refine thenE_normal ?_ | refine thenE_exit ?_ | refine thenE_ret ?_ | refine blockE_normal ?_ | refine blockE_ret ?_ | refine blockE_same ?_ | refine blockE_other rfl ?_)
        (repeat refine Sx.seq ?_)
        refine Sx.textR ?_
        refine Ox.pure rfl rfl (rp_move rfl rfl) ?_
        refine Ox.pure rfl rfl (by first | exact rp_bin rfl rfl rfl (binI_t (by omega)) | exact rp_bin rfl rfl rfl (binI_f (by omega)) | exact rp_bin rfl rfl rfl rfl) ?_
        refine Ox.nil ?_
        (repeat first | refine thenE_normal ?_ | refine thenE_exit ?_ | refine thenE_ret ?_ | refine blockE_normal ?_ | refine blockE_ret ?_ | refine blockE_same ?_ | refine blockE_other rfl ?_)
        (repeat refine Sx.seq ?_); first | refine Sx.cond_true rfl ?_ | refine Sx.cond rfl (fun _ => ?_) (fun h => absurd h (by simp [*]))
        (repeat refine Sx.seq ?_)
        refine Sx.textR ?_
        refine Ox.pure rfl rfl (rp_move rfl rfl) ?_
        refine Ox.act rfl rfl (acts_call rfl rfl rfl (ref_List p l.length cap _)) ?_
        rintro v13 w13 ⟨e13, rfl⟩
        have hz13 := e13.size
        refine Ox.act rfl rfl (acts_call rfl rfl rfl (encode_at (.mk 3 0 [] l) (fun _ => True) _ _ (hrl _ (by ((repeat (first | exact Ext.refl _ _ | assumption | refine Ext.trans ?_ (by assumption))); (first | done | fail "chain")))) hdv (by omega))) ?_
        rintro v14 w14 ⟨e14, b16, rfl, ho16⟩
        have hz14 := e14.size
        refine Ox.pure rfl rfl (rp_move rfl rfl) ?_
        refine Ox.pure rfl rfl (rp_extract rfl rfl rfl) ?_
        refine Ox.pure rfl rfl (rp_extract rfl rfl rfl) ?_
        refine Ox.pure rfl rfl (rp_assign rfl rfl) ?_
        refine Ox.pure rfl rfl (rp_assign rfl rfl) ?_
        refine Ox.nil ?_
        (repeat first | refine thenE_normal ?_ | refine thenE_exit ?_ | refine thenE_ret ?_ | refine blockE_normal ?_ | refine blockE_ret ?_ | refine blockE_same ?_ | refine blockE_other rfl ?_)
        (repeat refine Sx.seq ?_)
        refine Sx.textR ?_
        refine Ox.pure rfl rfl (rp_move rfl rfl) ?_
        refine Ox.pure rfl rfl (by first | exact rp_bin rfl rfl rfl (binI_t (by omega)) | exact rp_bin rfl rfl rfl (binI_f (by omega)) | exact rp_bin rfl rfl rfl rfl) ?_
        refine Ox.pure rfl rfl (rp_assign rfl rfl) ?_
        refine Ox.nil ?_
        (repeat first | refine thenE_normal ?_ | refine thenE_exit ?_ | refine thenE_ret ?_ | refine blockE_normal ?_ | refine blockE_ret ?_ | refine blockE_same ?_ | refine blockE_other rfl ?_)
        (repeat refine Sx.seq ?_); refine Sx.ret ?_
        (repeat first | refine thenE_normal ?_ | refine thenE_exit ?_ | refine thenE_ret ?_ | refine blockE_normal ?_ | refine blockE_ret ?_ | refine blockE_same ?_ | refine blockE_other rfl ?_)
        exact endE_ret [_] ⟨rfl, trivial⟩ ⟨by ((repeat (first | exact Ext.refl _ _ | assumption | refine Ext.trans ?_ (by assumption))); (first | done | fail "chain")), rfl⟩
    · obtain rfl : i = l.length := by omega
      rw [List.take_length] at hck how ⊢
      have hf := list_formed hck
      obtain ⟨pw, kw, Aw, rfl, hslw, hkw, _⟩ := own_sl how
      obtain ⟨pz, kz, Az, rfl, hslz, hkz, hkz2, hbz, _⟩ := own_sl hoz
      have hdw := hslw.2
      have hpw := hslw.1
      by_cases h16 : 16 < depthV (.mk 3 0 [] l)
      · have hch : checkV (.mk 3 0 [] l) = 2 := by unfold checkV; rw [if_neg (by simp [hf]), if_pos h16]
        (repeat refine Sx.seq ?_)
        refine Sx.textR ?_
        refine Ox.pure rfl rfl (by first | exact rp_bin rfl rfl rfl (binI_t (by omega)) | exact rp_bin rfl rfl rfl (binI_f (by omega)) | exact rp_bin rfl rfl rfl rfl) ?_
        refine Ox.nil ?_
        (repeat first | refine thenE_normal ?_ | refine thenE_exit ?_ | refine thenE_ret ?_ | refine blockE_normal ?_ | refine blockE_ret ?_ | refine blockE_same ?_ | refine blockE_other rfl ?_)
        (repeat refine Sx.seq ?_); first | refine Sx.cond_false rfl ?_ | refine Sx.cond rfl (fun h => absurd h (by simp [*])) (fun _ => ?_)
        (repeat refine Sx.seq ?_); refine Sx.exit ?_
        (repeat first | refine thenE_normal ?_ | refine thenE_exit ?_ | refine thenE_ret ?_ | refine blockE_normal ?_ | refine blockE_ret ?_ | refine blockE_same ?_ | refine blockE_other rfl ?_)
        (repeat refine Sx.seq ?_)
        refine Sx.textR ?_
        refine Ox.pure rfl rfl (rp_move rfl rfl) ?_
        refine Ox.act rfl rfl (acts_call rfl rfl rfl (ref_List p l.length cap _)) ?_
        rintro v15 w15 ⟨e15, rfl⟩
        have hz15 := e15.size
        refine Ox.act rfl rfl (acts_call rfl rfl rfl (encode_at (.mk 3 0 [] l) (fun _ => True) _ _ (hrl _ (by ((repeat (first | exact Ext.refl _ _ | assumption | refine Ext.trans ?_ (by assumption))); (first | done | fail "chain")))) hdv (by omega))) ?_
        rintro v16 w16 ⟨e16, b22, rfl, ho22⟩
        have hz16 := e16.size
        obtain ⟨p22, k22, A22, rfl, hsl22, hk22, _⟩ := own_sl ho22; have hdc := hsl22.2; have hpc := hsl22.1
        refine Ox.pure rfl rfl (rp_move rfl rfl) ?_
        refine Ox.pure rfl rfl (rp_extract rfl rfl rfl) ?_
        refine Ox.pure rfl rfl (rp_extract rfl rfl rfl) ?_
        refine Ox.pure rfl rfl (rp_assign rfl rfl) ?_
        refine Ox.pure rfl rfl (rp_assign rfl rfl) ?_
        refine Ox.nil ?_
        (repeat first | refine thenE_normal ?_ | refine thenE_exit ?_ | refine thenE_ret ?_ | refine blockE_normal ?_ | refine blockE_ret ?_ | refine blockE_same ?_ | refine blockE_other rfl ?_)
        (repeat refine Sx.seq ?_)
        refine Sx.textR ?_
        refine Ox.pure rfl rfl (rp_move rfl rfl) ?_
        refine Ox.pure rfl rfl (by first | exact rp_bin rfl rfl rfl (binI_t (by omega)) | exact rp_bin rfl rfl rfl (binI_f (by omega)) | exact rp_bin rfl rfl rfl rfl) ?_
        refine Ox.nil ?_
        (repeat first | refine thenE_normal ?_ | refine thenE_exit ?_ | refine thenE_ret ?_ | refine blockE_normal ?_ | refine blockE_ret ?_ | refine blockE_same ?_ | refine blockE_other rfl ?_)
        (repeat refine Sx.seq ?_); first | refine Sx.cond_true rfl ?_ | refine Sx.cond rfl (fun _ => ?_) (fun h => absurd h (by simp [*]))
        (repeat refine Sx.seq ?_)
        refine Sx.textR ?_
        refine Ox.pure rfl rfl (rp_move rfl rfl) ?_
        refine Ox.pure rfl rfl (by first | exact rp_bin rfl rfl rfl (binI_t (by omega)) | exact rp_bin rfl rfl rfl (binI_f (by omega)) | exact rp_bin rfl rfl rfl rfl) ?_
        refine Ox.pure rfl rfl (rp_assign rfl rfl) ?_
        refine Ox.nil ?_
        (repeat first | refine thenE_normal ?_ | refine thenE_exit ?_ | refine thenE_ret ?_ | refine blockE_normal ?_ | refine blockE_ret ?_ | refine blockE_same ?_ | refine blockE_other rfl ?_)
        (repeat refine Sx.seq ?_); refine Sx.ret ?_
        (repeat first | refine thenE_normal ?_ | refine thenE_exit ?_ | refine thenE_ret ?_ | refine blockE_normal ?_ | refine blockE_ret ?_ | refine blockE_same ?_ | refine blockE_other rfl ?_)
        exact endE_ret [_] ⟨rfl, trivial⟩ ⟨by ((repeat (first | exact Ext.refl _ _ | assumption | refine Ext.trans ?_ (by assumption))); (first | done | fail "chain")), rfl⟩
      · have hch : checkV (.mk 3 0 [] l) = 0 := by unfold checkV; rw [if_neg (by simp [hf]), if_neg h16]
        have hzc := zeros_check l.length
        have hze : (encV (.mk 3 0 [] (List.replicate l.length zInt))).length = 1 + (numeralL l.length).length + 2 * l.length := by
          rw [list_enc, List.length_replicate]; simp [zeros_enc]; omega
        have hzr' : (encR (.mk 3 0 [] (List.replicate l.length zInt))).length = 1 + (numeralL l.length).length + 2 * l.length := by rw [encR, if_pos hzc, hze]
        have hcl : (encR (.mk 3 0 [] l)).length = 1 + (numeralL l.length).length + (encL l).length := by rw [encR, if_pos hch, list_enc]; simp; omega
        have hcd : (bytesV (encR (.mk 3 0 [] l))).drop (1 + (numeralL l.length).length) = bytesV (encL l) := by
          rw [encR, if_pos hch, list_enc, ← bytesV_drop, Nat.add_comm, List.drop_succ_cons, List.drop_left]
        have hmp := numeralL_pos l.length
        have hm10 := numeralL_10 (u := l.length) (by omega)
        generalize hm : (numeralL l.length).length = m at hze hzr' hcl hcd hmp hm10
        have hrz : ∀ w, Ext [] wr w → rep (fun _ => True) w (.mk 3 0 [] (List.replicate l.length zInt)) [.int .i64 3, .int .i64 0, .string ⟨[].toArray⟩, .slice pz l.length kz] := fun w he =>
          ⟨⟨by decide, by decide⟩, ⟨by decide, by decide⟩, by simp, by rw [List.length_replicate]; omega, pz, kz, Az, zrows l.length, by rw [List.length_replicate], by rw [List.length_replicate]; exact hkz, hkz2, by rw [List.length_replicate]; exact hslz.ext0 he,
            fun h0 => ⟨trivial, Nat.lt_of_lt_of_le (hbz (by rw [List.length_replicate] at h0; exact h0)).2 he.size⟩, zrows_reps _ _ _⟩
        (repeat refine Sx.seq ?_)
        refine Sx.textR ?_
        refine Ox.pure rfl rfl (by first | exact rp_bin rfl rfl rfl (binI_t (by omega)) | exact rp_bin rfl rfl rfl (binI_f (by omega)) | exact rp_bin rfl rfl rfl rfl) ?_
        refine Ox.nil ?_
        (repeat first | refine thenE_normal ?_ | refine thenE_exit ?_ | refine thenE_ret ?_ | refine blockE_normal ?_ | refine blockE_ret ?_ | refine blockE_same ?_ | refine blockE_other rfl ?_)
        (repeat refine Sx.seq ?_); first | refine Sx.cond_false rfl ?_ | refine Sx.cond rfl (fun h => absurd h (by simp [*])) (fun _ => ?_)
        (repeat refine Sx.seq ?_); refine Sx.exit ?_
        (repeat first | refine thenE_normal ?_ | refine thenE_exit ?_ | refine thenE_ret ?_ | refine blockE_normal ?_ | refine blockE_ret ?_ | refine blockE_same ?_ | refine blockE_other rfl ?_)
        (repeat refine Sx.seq ?_)
        refine Sx.textR ?_
        refine Ox.pure rfl rfl (rp_move rfl rfl) ?_
        refine Ox.act rfl rfl (acts_call rfl rfl rfl (ref_List p l.length cap _)) ?_
        rintro v17 w17 ⟨e17, rfl⟩
        have hz17 := e17.size
        refine Ox.act rfl rfl (acts_call rfl rfl rfl (encode_at (.mk 3 0 [] l) (fun _ => True) _ _ (hrl _ (by ((repeat (first | exact Ext.refl _ _ | assumption | refine Ext.trans ?_ (by assumption))); (first | done | fail "chain")))) hdv (by omega))) ?_
        rintro v18 w18 ⟨e18, b22, rfl, ho22⟩
        have hz18 := e18.size
        obtain ⟨p22, k22, A22, rfl, hsl22, hk22, _⟩ := own_sl ho22; have hdc := hsl22.2; have hpc := hsl22.1
        refine Ox.pure rfl rfl (rp_move rfl rfl) ?_
        refine Ox.pure rfl rfl (rp_extract rfl rfl rfl) ?_
        refine Ox.pure rfl rfl (rp_extract rfl rfl rfl) ?_
        refine Ox.pure rfl rfl (rp_assign rfl rfl) ?_
        refine Ox.pure rfl rfl (rp_assign rfl rfl) ?_
        refine Ox.nil ?_
        (repeat first | refine thenE_normal ?_ | refine thenE_exit ?_ | refine thenE_ret ?_ | refine blockE_normal ?_ | refine blockE_ret ?_ | refine blockE_same ?_ | refine blockE_other rfl ?_)
        (repeat refine Sx.seq ?_)
        refine Sx.textR ?_
        refine Ox.pure rfl rfl (rp_move rfl rfl) ?_
        refine Ox.pure rfl rfl (by first | exact rp_bin rfl rfl rfl (binI_t (by omega)) | exact rp_bin rfl rfl rfl (binI_f (by omega)) | exact rp_bin rfl rfl rfl rfl) ?_
        refine Ox.nil ?_
        (repeat first | refine thenE_normal ?_ | refine thenE_exit ?_ | refine thenE_ret ?_ | refine blockE_normal ?_ | refine blockE_ret ?_ | refine blockE_same ?_ | refine blockE_other rfl ?_)
        (repeat refine Sx.seq ?_); first | refine Sx.cond_false rfl ?_ | refine Sx.cond rfl (fun h => absurd h (by simp [*])) (fun _ => ?_)
        (repeat refine Sx.seq ?_); refine Sx.skip ?_
        (repeat first | refine thenE_normal ?_ | refine thenE_exit ?_ | refine thenE_ret ?_ | refine blockE_normal ?_ | refine blockE_ret ?_ | refine blockE_same ?_ | refine blockE_other rfl ?_)
        (repeat refine Sx.seq ?_)
        refine Sx.textR ?_
        refine Ox.pure rfl rfl (rp_move rfl rfl) ?_
        refine Ox.act rfl rfl (acts_call rfl rfl rfl (ref_List pz l.length kz _)) ?_
        rintro v19 w19 ⟨e19, rfl⟩
        have hz19 := e19.size
        refine Ox.act rfl rfl (acts_call rfl rfl rfl (size_at (.mk 3 0 [] (List.replicate l.length zInt)) (fun _ => True) _ _ (hrz _ (by ((repeat (first | exact Ext.refl _ _ | assumption | refine Ext.trans ?_ (by assumption))); (first | done | fail "chain")))) (by rw [depthV, if_pos rfl, zeros_depth]; omega) (by omega))) ?_
        rintro v20 w20 ⟨e20, rfl⟩
        have hz20 := e20.size
        refine Ox.pure rfl rfl (rp_move rfl rfl) ?_
        refine Ox.pure rfl rfl (rp_extract rfl rfl rfl) ?_
        refine Ox.pure rfl rfl (rp_extract rfl rfl rfl) ?_
        refine Ox.pure rfl rfl (rp_assign rfl rfl) ?_
        refine Ox.pure rfl rfl (rp_assign rfl rfl) ?_
        refine Ox.nil ?_
        (repeat first | refine thenE_normal ?_ | refine thenE_exit ?_ | refine thenE_ret ?_ | refine blockE_normal ?_ | refine blockE_ret ?_ | refine blockE_same ?_ | refine blockE_other rfl ?_)
        (repeat refine Sx.seq ?_)
        refine Sx.textR ?_
        refine Ox.pure rfl rfl (rp_move rfl rfl) ?_
        refine Ox.pure rfl rfl (rp_lenS rfl rfl rfl) ?_
        refine Ox.pure rfl rfl (rp_move rfl rfl) ?_
        refine Ox.pure rfl rfl (rp_lenS rfl rfl rfl) ?_
        refine Ox.pure rfl rfl (rp_bin (v := .int .i64 ((1 + m : Nat) : Int)) rfl rfl rfl (by rw [binI_fit_sub (wrap64 (by omega))]; exact congrArg (fun z => some (Value.int .i64 z)) (by omega))) ?_
        refine Ox.pure rfl rfl (rp_assign rfl rfl) ?_
        refine Ox.nil ?_
        (repeat first | refine thenE_normal ?_ | refine thenE_exit ?_ | refine thenE_ret ?_ | refine blockE_normal ?_ | refine blockE_ret ?_ | refine blockE_same ?_ | refine blockE_other rfl ?_)
        (repeat refine Sx.seq ?_)
        refine Sx.walkR rfl (fun _ _ _ _ h => h) [0, 1, 2, 3, 4, 5, 6, 7, 8, 9, 10, 11, 12, 13, 14, 15, 16, 17, 18, 19, 20, 21, 22, 23, 24, 25, 26, 27] [0, 1, 2, 3, 4, 5, 6, 7, 8, 9, 10, 11, 12, 13, 14, 15, 16, 17, 18, 19, 20, 21, 22, 23, 24, 25, 26, 27] (0) (by kernel_rfl) ?_
        intro hq w21 e21; have hz21 := e21.size
        refine Wx.pure hq rfl rfl rfl rfl (rp_move rfl rfl) ?_
        refine Wx.pure hq rfl rfl rfl rfl (by first | exact rp_bin rfl rfl rfl (binI_t (by omega)) | exact rp_bin rfl rfl rfl (binI_f (by omega)) | exact rp_bin rfl rfl rfl rfl) ?_
        refine Wx.pure hq rfl rfl rfl rfl (rp_move rfl rfl) ?_
        first | (refine Wx.skip hq rfl rfl rfl rfl ?_) | (refine Wx.pure hq rfl rfl rfl rfl (rp_move rfl rfl) ?_)
        first | (refine Wx.skip hq rfl rfl rfl rfl ?_) | (refine Wx.pure hq rfl rfl rfl rfl (rp_lenS rfl rfl rfl) ?_)
        first | (refine Wx.skip hq rfl rfl rfl rfl ?_) | (refine Wx.pure hq rfl rfl rfl rfl (rp_move rfl rfl) ?_)
        first | (refine Wx.skip hq rfl rfl rfl rfl ?_) | (refine Wx.pure hq rfl rfl rfl rfl (rp_move rfl rfl) ?_)
        first | (refine Wx.skip hq rfl rfl rfl rfl ?_) | (refine Wx.pure hq rfl rfl rfl rfl (rp_lenS rfl rfl rfl) ?_)
        first | (refine Wx.skip hq rfl rfl rfl rfl ?_) | (refine Wx.pure hq rfl rfl rfl rfl (by first | exact rp_bin rfl rfl rfl (binI_fit_mul (wrap64 (by omega))) | exact rp_bin rfl rfl rfl rfl) ?_)
        first | (refine Wx.skip hq rfl rfl rfl rfl ?_) | (refine Wx.pure hq rfl rfl rfl rfl (by first | exact rp_bin rfl rfl rfl (binI_fit_sub (wrap64 (by omega))) | exact rp_bin rfl rfl rfl rfl) ?_)
        first | (refine Wx.skip hq rfl rfl rfl rfl ?_) | (refine Wx.pure hq rfl rfl rfl rfl (rp_move rfl rfl) ?_)
        first | (refine Wx.skip hq rfl rfl rfl rfl ?_) | (refine Wx.pure hq rfl rfl rfl rfl (by first | exact rp_bin rfl rfl rfl (binI_fit_add (wrap64 (by omega))) | exact rp_bin rfl rfl rfl rfl) ?_)
        first | (refine Wx.skip hq rfl rfl rfl rfl ?_) | (refine Wx.pure hq rfl rfl rfl rfl (by first | exact rp_bin rfl rfl rfl (binI_t (by omega)) | exact rp_bin rfl rfl rfl (binI_f (by omega)) | exact rp_bin rfl rfl rfl rfl) ?_)
        refine Wx.pure hq rfl rfl rfl rfl (by first | exact rp_pick_t rfl rfl rfl | exact rp_pick_f rfl rfl rfl) ?_
        refine Wx.pure hq rfl rfl rfl rfl (rp_move rfl rfl) ?_
        first | (refine Wx.skip hq rfl rfl rfl rfl ?_) | (refine Wx.pure hq rfl rfl rfl rfl (rp_move rfl rfl) ?_)
        first | (refine Wx.skip hq rfl rfl rfl rfl ?_) | (refine Wx.pure hq rfl rfl rfl rfl (by first | exact rp_bin rfl rfl rfl (binI_t (by omega)) | exact rp_bin rfl rfl rfl (binI_f (by omega)) | exact rp_bin rfl rfl rfl rfl) ?_)
        refine Wx.pure hq rfl rfl rfl rfl (by first | exact rp_pick_t rfl rfl rfl | exact rp_pick_f rfl rfl rfl) ?_
        refine Wx.pure hq rfl rfl rfl rfl (rp_move rfl rfl) ?_
        first | (refine Wx.skip hq rfl rfl rfl rfl ?_) | (refine Wx.pure hq rfl rfl rfl rfl (rp_move rfl rfl) ?_)
        first | (refine Wx.skip hq rfl rfl rfl rfl ?_) | (refine Wx.pure hq rfl rfl rfl rfl (rp_move rfl rfl) ?_)
        first | (refine Wx.skip hq rfl rfl rfl rfl ?_) | (refine Wx.pure hq rfl rfl rfl rfl (rp_sliceS (1 + m) (encR (.mk 3 0 [] l)).length rfl rfl rfl rfl rfl rfl (.inr ⟨_, rfl⟩) (.inl ⟨rfl, rfl⟩) (by omega) (by omega)) ?_)
        first | (refine Wx.skip hq rfl rfl rfl rfl ?_) | (refine Wx.val hq rfl rfl rfl rfl ([]) (rv_bytes (A := A22.add (1 + m)) (l := encL l) rfl rfl rfl rfl rfl (by omega) (fun h0 => by rw [hpc (by omega), if_neg (by omega)]; exact congrArg (fun k => some (A22.add k)) (Nat.mul_one _)) (fun u hu => by rw [← hcd]; exact ((hdc.ext0 (by ((repeat (first | exact Ext.refl _ _ | assumption | refine Ext.trans ?_ (by assumption))); (first | done | fail "chain")))).ext0 hu).drop (1 + m))) ?_)
        first | (refine Wx.skip hq rfl rfl rfl rfl ?_) | (refine Wx.pure hq rfl rfl rfl rfl (rp_move rfl rfl) ?_)
        first | (refine Wx.skip hq rfl rfl rfl rfl ?_) | (refine Wx.val hq rfl rfl rfl rfl ([]) (rv_bytes (A := Aw) (l := encL l) rfl rfl rfl rfl rfl rfl hpw (fun u hu => (hdw.ext0 (by ((repeat (first | exact Ext.refl _ _ | assumption | refine Ext.trans ?_ (by assumption))); (first | done | fail "chain")))).ext0 hu)) ?_)
        first | (refine Wx.skip hq rfl rfl rfl rfl ?_) | (refine Wx.pure hq rfl rfl rfl rfl (by first | exact rp_strEq_t rfl rfl rfl (by (first | assumption | rfl | decide)) | exact rp_strEq_f rfl rfl rfl (by (first | assumption | rfl | decide)) | exact rp_strEq rfl rfl rfl) ?_)
        refine Wx.pure hq rfl rfl rfl rfl (by first | exact rp_pick_t rfl rfl rfl | exact rp_pick_f rfl rfl rfl) ?_
        refine Wx.pure hq rfl rfl rfl rfl (rp_assign rfl rfl) ?_
        refine Wx.nil ?_
        (repeat first | refine thenE_normal ?_ | refine thenE_exit ?_ | refine thenE_ret ?_ | refine blockE_normal ?_ | refine blockE_ret ?_ | refine blockE_same ?_ | refine blockE_other rfl ?_)
        (repeat refine Sx.seq ?_); refine Sx.ret ?_
        (repeat first | refine thenE_normal ?_ | refine thenE_exit ?_ | refine thenE_ret ?_ | refine blockE_normal ?_ | refine blockE_ret ?_ | refine blockE_same ?_ | refine blockE_other rfl ?_)
        exact endE_ret [_] ⟨rfl, trivial⟩ ⟨by ((repeat (first | exact Ext.refl _ _ | assumption | refine Ext.trans ?_ (by assumption))); (first | done | fail "chain")), rfl⟩

open Go.ChangeShapes Go.WideShapes Go.ChangeAt Go.RowKit in
theorem lawContract (H : Type) (enc : TypeId × Value → H) (W : World) (base : Nat) (args : Array Value) (ds gs : List (DataW H)) (before : List MemPlace)
    (hval : ∀ (j : Nat) t v, Try.f8.params[j]? = some t → args[j]? = some v → Value.okWide Try.prog W .any base t v)
    (hW : DataW.Whole enc Try.prog Try.f8.params.toList Rows.codecListsSpec.vars false W args.toList ds gs before)
    (hw : (DataW.weightsEach Try.prog (Try.f8.params.toList ++ Rows.codecListsSpec.plain.varTypes Try.prog) (ds ++ gs)).all (· ≤ reachBytes) = true) :
    Calls Try.prog 8 args W fun e W' => ∃ v, e = .returned v ∧ Rows.codecListsSpec.post enc Try.prog Try.f8 false true false false W args v W' := by
  obtain ⟨p, q, hA, hV, rfl, hz, hn⟩ := id hW
  obtain ⟨rfl, rfl⟩ := trodVars_none hV
  have hA' : DataW.TrodAll enc Try.prog W 0 (fun _ => true) true [22] args.toList ds p := hA
  obtain ⟨v0, vs0, d0, ds0, p0, q0, hargs, rfl, rfl, h0, r0⟩ := trodAll_cons hA'
  obtain ⟨rfl, rfl, rfl⟩ := trodAll_nil r0
  obtain rfl : args = #[v0] := by cases args; simp_all
  have hw' : ∀ x ∈ DataW.weightsEach Try.prog [22] [d0], x ≤ reachBytes := by
    have hw2 : (DataW.weightsEach Try.prog [22] [d0]).all (· ≤ reachBytes) = true := hw
    simpa [List.all_eq_true] using hw2
  simp only [DataW.weightsEach, List.mem_append] at hw'
  obtain ⟨l, row, pb, A, cap, rfl, h1, h2, h3, h4, h5, h6⟩ := arg_reps (not_agg undL (hval 0 22 v0 rfl rfl)) h0 (fun x hx => hw' x (.inl hx))
  refine (listsLaw l row pb A cap W h1 h2 h3 h4 h5 h6).mono fun e W' he => ?_
  cases e with
  | returned r =>
    obtain ⟨hx, rfl⟩ := he
    exact ⟨_, rfl, post_true (by kernel_rfl) (by kernel_rfl) rfl hW rfl rfl rfl rfl rfl hx⟩
  | panicked c => exact he.elim
  | outgrown => exact he.elim

open Go.ChangeShapes Go.WideShapes Go.ChangeAt Go.RowKit in
set_option maxRecDepth 100000 in
theorem lifted (os : Os) (started : os.Started) (H : Type) (enc : TypeId × Value → H) :
    ReturnsInHanded {} Try.checked os 8 .any (Rows.codecListsSpec.pre6 enc Try.prog Try.f8 [] false) (Rows.codecListsSpec.post enc Try.prog Try.f8 false true false false) := by
  refine returnsInHanded_of_change_sized (C := Try.checked) (by kernel_rfl) started (by kernel_rfl) Try.func8
    (ChangeSpec.witness6 (enc := enc) (C := Try.checked) (s := Rows.codecListsSpec) false ⟨#[], #[.slice none 0 0], []⟩ 8 (by kernel_rfl) (by kernel_rfl) (by kernel_rfl) (by kernel_rfl)) ?_
  intro W base args ds gs before hval hW _ hw _
  exact lawContract H enc W base args ds gs before hval hW hw

theorem over : Rows.codecListsRow.holds Try.pinned (OpenSpec.ofChange Rows.codecListsSpec) :=
  OpenClaim.holds_of_wide 8 Try.f8 rfl rfl rfl rfl rfl rfl rfl ⟨rfl, rfl, rfl, rfl, rfl⟩ rfl rfl rfl rfl rfl (by kernel_rfl) Try.func8 (by kernel_rfl)
    (of_decide_eq_true (by kernel_rfl)) (by unfold Func.isWrapper; first | (rw [if_pos (by decide +kernel)]; kernel_rfl) | (rw [if_neg (by decide +kernel)]; exact ⟨rfl, rfl⟩))
    (fun os started H enc _ => lifted os started H enc)

theorem proved : Rows.CodecListsSaid := over

end Go.Proofs.Ytflopfjhejchfaa
