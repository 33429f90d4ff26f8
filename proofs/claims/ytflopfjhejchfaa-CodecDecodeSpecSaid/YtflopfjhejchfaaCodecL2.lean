/- The law CodecDecodeSpec. -/
import Derived.Test.YtflopfjhejchfaaRows
import Derived.Test.YtflopfjhejchfaaCodecT
import Derived.Test.YtflopfjhejchfaaEngC
set_option linter.unusedVariables false
set_option linter.unusedSimpArgs false
namespace Go.Proofs.Ytflopfjhejchfaa
open Go Go.Eng

theorem undB : Try.prog.underlying 27 = some (.slice 5) := rfl
theorem undU : Try.prog.underlying 5 = some (.int .u8) := rfl
theorem celU : Try.prog.cellsOf 5 = 1 := rfl
theorem bytU : Try.prog.bytesOf 5 = 1 := rfl

theorem trod_u8 {H : Type} {enc : TypeId × Value → H} {W : World} {fuel : Nat} {c : Value} {x : DataW H × List MemPlace} {sp : Nat → Bool} (h : DataW.trod enc Try.prog W 0 sp true fuel 5 [c] = some x) : ∃ u : UInt8, c = .int .u8 (u.toNat : Int) := by
  cases fuel with
  | zero => simp [DataW.trod] at h
  | succ fuel =>
  unfold DataW.trod at h
  simp only [undU] at h
  cases c with
  | int k n =>
    simp only at h
    split at h
    · rename_i hk
      obtain ⟨rfl, hk⟩ := hk
      have := (Lit.wf_int_iff _ _).1 hk
      have h2 : 0 ≤ n ∧ n ≤ 255 := by simpa [IntKind.min, IntKind.max, IntKind.signed, IntKind.bits] using this
      refine ⟨UInt8.ofNat n.toNat, ?_⟩
      have h3 : (UInt8.ofNat n.toNat).toNat = n.toNat := by simp; omega
      rw [h3]
      congr 1
      omega
    · cases h
  | _ => simp at h

theorem build_bytes {W : World} {a : Addr} : ∀ (len : Nat), (∀ i, i < len → ∃ u : UInt8, W.cell? (a.add i) = some (.int .u8 (u.toNat : Int))) → ∃ b : List UInt8, b.length = len ∧ Cells W a (bytesV b)
  | 0, _ => ⟨[], rfl, cells_nil _ _⟩
  | len + 1, h => by
    obtain ⟨b, h1, h3⟩ := build_bytes len (fun i hi => h i (by omega))
    obtain ⟨u, hc⟩ := h len (by omega)
    refine ⟨b ++ [u], by simp [h1], ?_⟩
    rw [bytesV_append]
    intro i x hi
    by_cases hlt : i < (bytesV b).length
    · rw [List.getElem?_append_left hlt] at hi; exact h3 i x hi
    · rw [List.getElem?_append_right (by omega)] at hi
      rw [bytesV_length, h1] at hlt hi
      have hj : i - len = 0 := by
        rcases Nat.eq_zero_or_pos (i - len) with h5 | h5
        · exact h5
        · rw [List.getElem?_eq_none (by simp [bytesV]; omega)] at hi; cases hi
      rw [hj] at hi
      have : i = len := by omega
      subst this
      rw [hc]
      simpa [bytesV] using hi

theorem not_agg {W : World} {r : Reach} {base : Nat} {t e : TypeId} {x : Value} (ht : Try.prog.underlying t = some (.slice e)) (h : Value.okWide Try.prog W r base t x) : ∀ a, x ≠ .agg a := by
  rintro a rfl
  simp [Value.okWide, ht, Cell.okWide, Cell.ok] at h
theorem cells_one {x y : Value} (h : x.cells.toList = [y]) (hx : ∀ a, x ≠ .agg a) : x = y := by
  cases x with
  | agg a => exact absurd rfl (hx a)
  | _ => simpa [Value.cells] using h

theorem arg_bytes {H : Type} {enc : TypeId × Value → H} {W : World} {x : Value} {d : DataW H} {ps : List MemPlace} (hx : ∀ a, x ≠ .agg a) (h : DataW.Trod enc Try.prog W 0 (fun _ => true) true 27 x d ps) (hw : ∀ x ∈ DataW.weights Try.prog 27 d, x ≤ reachBytes) :
    ∃ (b : List UInt8) (p : Option Addr) (A : Addr) (cap : Nat), x = .slice p b.length cap ∧ b.length ≤ cap ∧ b.length ≤ 140737488355328 ∧ Sl W p A b.length (bytesV b) := by
  obtain ⟨fuel, h⟩ := h
  rcases DataW.trod_slice undB h with ⟨he, _⟩ | ⟨a, len, cap, elems, rest, m, hfu, he, hx3, hb, hlc, hcm, hlen, hel3, _, _⟩
  · have hx := cells_one he hx
    exact ⟨[], none, ⟨0, 0, none⟩, 0, hx, by simp, by simp, by simp, cells_nil _ _⟩
  · have hx := cells_one he hx
    subst hx
    simp only [Prod.mk.injEq] at hx3
    rw [hx3.1] at hw
    simp only [DataW.weights, undB, bytU] at hw
    have hlb : len ≤ 140737488355328 := by
      have := hw _ (.head _)
      simp only [List.length_map] at this
      unfold reachBytes at this; omega
    obtain ⟨b, hbl, hC⟩ := build_bytes (W := W) (a := a) len (fun i hi => by
      have h5 := hel3 i hi
      have hi' : i < elems.length := by omega
      rw [List.getElem?_eq_getElem hi', celU, Nat.mul_one] at h5
      obtain ⟨cs', h6, h7⟩ := Option.bind_eq_some_iff.1 h5
      obtain ⟨_, h8, h9⟩ := World.cells?_some h6
      obtain ⟨c, rfl⟩ : ∃ c, cs' = [c] := by
        match cs', h8 with
        | [c], _ => exact ⟨c, rfl⟩
      obtain ⟨u, rfl⟩ := trod_u8 h7
      have := h9 0 (by omega)
      exact ⟨u, by simpa [Addr.add] using this⟩)
    exact ⟨b, some a, a, cap, by rw [hbl], by omega, by omega, fun _ => rfl, hC⟩

theorem decodeLaw (b : List UInt8) (p : Option Addr) (A : Addr) (cap : Nat) (W : World) (hcap : b.length ≤ cap) (hlb : b.length ≤ 140737488355328) (hsl : Sl W p A b.length (bytesV b)) :
    Calls Try.prog 4 #[.slice p b.length cap] W (Ret fun r w' => Ext [] W w' ∧ r = .bool true) := by
  refine calls_of_Sx (args := [.slice p b.length cap]) Try.func4 rfl rfl ?_
  by_cases hbig : 2000 < b.length
  · (repeat refine Sx.seq ?_)
    refine Sx.textR ?_
    refine Ox.pure rfl rfl (rp_assign rfl rfl) ?_
    refine Ox.nil ?_
    (repeat first | refine thenE_normal ?_ | refine thenE_exit ?_ | refine thenE_ret ?_ | refine blockE_normal ?_ | refine blockE_ret ?_ | refine blockE_same ?_ | refine blockE_other rfl ?_)
    (repeat refine Sx.seq ?_)
    refine Sx.textR ?_
    refine Ox.act rfl rfl (acts_call rfl rfl rfl (sane_at _)) ?_
    rintro v1 w1 ⟨e1, rfl⟩
    have hz1 := e1.size
    refine Ox.pure rfl rfl (rp_not rfl rfl) ?_
    refine Ox.nil ?_
    (repeat first | refine thenE_normal ?_ | refine thenE_exit ?_ | refine thenE_ret ?_ | refine blockE_normal ?_ | refine blockE_ret ?_ | refine blockE_same ?_ | refine blockE_other rfl ?_)
    (repeat refine Sx.seq ?_); first | refine Sx.cond_false rfl ?_ | refine Sx.cond rfl (fun h => absurd h (by simp [*])) (fun _ => ?_)
    (repeat refine Sx.seq ?_); refine Sx.skip ?_
    (repeat first | refine thenE_normal ?_ | refine thenE_exit ?_ | refine thenE_ret ?_ | refine blockE_normal ?_ | refine blockE_ret ?_ | refine blockE_same ?_ | refine blockE_other rfl ?_)
    (repeat refine Sx.seq ?_)
    refine Sx.textR ?_
    refine Ox.pure rfl rfl (rp_move rfl rfl) ?_
    refine Ox.pure rfl rfl (rp_lenS rfl rfl rfl) ?_
    refine Ox.pure rfl rfl (by first | exact rp_bin rfl rfl rfl (binI_t (by omega)) | exact rp_bin rfl rfl rfl (binI_f (by omega)) | exact rp_bin rfl rfl rfl rfl) ?_
    refine Ox.nil ?_
    (repeat first | refine thenE_normal ?_ | refine thenE_exit ?_ | refine thenE_ret ?_ | refine blockE_normal ?_ | refine blockE_ret ?_ | refine blockE_same ?_ | refine blockE_other rfl ?_)
    (repeat refine Sx.seq ?_); first | refine Sx.cond_true rfl ?_ | refine Sx.cond rfl (fun _ => ?_) (fun h => absurd h (by simp [*]))
    (repeat refine Sx.seq ?_)
    refine Sx.textR ?_
    refine Ox.pure rfl rfl (rp_assign rfl rfl) ?_
    refine Ox.nil ?_
    (repeat first | refine thenE_normal ?_ | refine thenE_exit ?_ | refine thenE_ret ?_ | refine blockE_normal ?_ | refine blockE_ret ?_ | refine blockE_same ?_ | refine blockE_other rfl ?_)
    (repeat refine Sx.seq ?_); refine Sx.ret ?_
    (repeat first | refine thenE_normal ?_ | refine thenE_exit ?_ | refine thenE_ret ?_ | refine blockE_normal ?_ | refine blockE_ret ?_ | refine blockE_same ?_ | refine blockE_other rfl ?_)
    exact endE_ret [_] ⟨rfl, trivial⟩ ⟨by ((repeat (first | exact Ext.refl _ _ | assumption | refine Ext.trans ?_ (by assumption))); (first | done | fail "chain")), rfl⟩
  · (repeat refine Sx.seq ?_)
    refine Sx.textR ?_
    refine Ox.pure rfl rfl (rp_assign rfl rfl) ?_
    refine Ox.nil ?_
    (repeat first | refine thenE_normal ?_ | refine thenE_exit ?_ | refine thenE_ret ?_ | refine blockE_normal ?_ | refine blockE_ret ?_ | refine blockE_same ?_ | refine blockE_other rfl ?_)
    (repeat refine Sx.seq ?_)
    refine Sx.textR ?_
    refine Ox.act rfl rfl (acts_call rfl rfl rfl (sane_at _)) ?_
    rintro v2 w2 ⟨e2, rfl⟩
    have hz2 := e2.size
    refine Ox.pure rfl rfl (rp_not rfl rfl) ?_
    refine Ox.nil ?_
    (repeat first | refine thenE_normal ?_ | refine thenE_exit ?_ | refine thenE_ret ?_ | refine blockE_normal ?_ | refine blockE_ret ?_ | refine blockE_same ?_ | refine blockE_other rfl ?_)
    (repeat refine Sx.seq ?_); first | refine Sx.cond_false rfl ?_ | refine Sx.cond rfl (fun h => absurd h (by simp [*])) (fun _ => ?_)
    (repeat refine Sx.seq ?_); refine Sx.skip ?_
    (repeat first | refine thenE_normal ?_ | refine thenE_exit ?_ | refine thenE_ret ?_ | refine blockE_normal ?_ | refine blockE_ret ?_ | refine blockE_same ?_ | refine blockE_other rfl ?_)
    (repeat refine Sx.seq ?_)
    refine Sx.textR ?_
    refine Ox.pure rfl rfl (rp_move rfl rfl) ?_
    refine Ox.pure rfl rfl (rp_lenS rfl rfl rfl) ?_
    refine Ox.pure rfl rfl (by first | exact rp_bin rfl rfl rfl (binI_t (by omega)) | exact rp_bin rfl rfl rfl (binI_f (by omega)) | exact rp_bin rfl rfl rfl rfl) ?_
    refine Ox.nil ?_
    (repeat first | refine thenE_normal ?_ | refine thenE_exit ?_ | refine thenE_ret ?_ | refine blockE_normal ?_ | refine blockE_ret ?_ | refine blockE_same ?_ | refine blockE_other rfl ?_)
    (repeat refine Sx.seq ?_); first | refine Sx.cond_false rfl ?_ | refine Sx.cond rfl (fun h => absurd h (by simp [*])) (fun _ => ?_)
    (repeat refine Sx.seq ?_); refine Sx.skip ?_
    (repeat first | refine thenE_normal ?_ | refine thenE_exit ?_ | refine thenE_ret ?_ | refine blockE_normal ?_ | refine blockE_ret ?_ | refine blockE_same ?_ | refine blockE_other rfl ?_)
    (repeat refine Sx.seq ?_)
    refine Sx.textR ?_
    refine Ox.pure rfl rfl (rp_move rfl rfl) ?_
    refine Ox.act rfl rfl (acts_call rfl rfl rfl (decode_at b p A cap _ (by omega) hcap (hsl.ext0 (by ((repeat (first | exact Ext.refl _ _ | assumption | refine Ext.trans ?_ (by assumption))); (first | done | fail "chain")))))) ?_
    rintro v3 w3 ⟨e3, cs5, rfl, hr5⟩
    have hz3 := e3.size
    have hc45 := rep_length hr5; have hone5 := rep_one hr5
    refine Ox.pure rfl rfl (rp_move rfl rfl) ?_
    refine Ox.pure rfl rfl (rp_extract rfl rfl rfl) ?_
    refine Ox.pure rfl rfl (rp_extract rfl rfl rfl) ?_
    refine Ox.act rfl rfl (acts_alloc rfl rfl) ?_
    rintro v4 w4 ⟨e4, b4, rfl, hb4, hB4⟩
    first | (have hC4 : Cells w4 ⟨b4, 0, none⟩ [_, _, _, _] := hB4.cells) | have hC4 := Blk.cellsL hB4
    have hl4 := hB4.lt
    have hz4 := e4.size
    refine Ox.act rfl rfl (acts_store_all rfl rfl rfl hB4 rfl (by first | rfl | assumption) (by first | rfl | assumption) (by (first | assumption | exact List.all_eq_true.mp rfl | simp [Value.cells, Value.oneCell']))) ?_
    rintro v5 w5 ⟨rfl, q5, hB5⟩
    have e5 := Ext.renew e4 q5 hb4
    have hz5 := e5.size
    first | (have hC5 : Cells w5 ⟨b4, 0, none⟩ [_, _, _, _] := hB5.cells) | have hC5 := Blk.cellsL hB5
    refine Ox.pure rfl rfl (rp_assign rfl rfl) ?_
    refine Ox.nil ?_
    (repeat first | refine thenE_normal ?_ | refine thenE_exit ?_ | refine thenE_ret ?_ | refine blockE_normal ?_ | refine blockE_ret ?_ | refine blockE_same ?_ | refine blockE_other rfl ?_)
    (repeat refine Sx.seq ?_)
    refine Sx.textR ?_
    refine Ox.pure rfl rfl (rp_move rfl rfl) ?_
    refine Ox.act rfl rfl (acts_call rfl rfl rfl (ref_Decode b p A cap _ (by omega) hcap (hsl.ext0 (by ((repeat (first | exact Ext.refl _ _ | assumption | refine Ext.trans ?_ (by assumption))); (first | done | fail "chain")))))) ?_
    rintro v6 w6 ⟨e6, cs6, rfl, hr6⟩
    have hz6 := e6.size
    have hc46 := rep_length hr6; have hone6 := rep_one hr6
    refine Ox.pure rfl rfl (rp_move rfl rfl) ?_
    refine Ox.pure rfl rfl (rp_extract rfl rfl rfl) ?_
    refine Ox.pure rfl rfl (rp_extract rfl rfl rfl) ?_
    refine Ox.act rfl rfl (acts_alloc rfl rfl) ?_
    rintro v7 w7 ⟨e7, b7, rfl, hb7, hB7⟩
    first | (have hC7 : Cells w7 ⟨b7, 0, none⟩ [_, _, _, _] := hB7.cells) | have hC7 := Blk.cellsL hB7
    have hl7 := hB7.lt
    have hz7 := e7.size
    refine Ox.act rfl rfl (acts_store_all rfl rfl rfl hB7 rfl (by first | rfl | assumption) (by first | rfl | assumption) (by (first | assumption | exact List.all_eq_true.mp rfl | simp [Value.cells, Value.oneCell']))) ?_
    rintro v8 w8 ⟨rfl, q8, hB8⟩
    have e8 := Ext.renew e7 q8 hb7
    have hz8 := e8.size
    first | (have hC8 : Cells w8 ⟨b7, 0, none⟩ [_, _, _, _] := hB8.cells) | have hC8 := Blk.cellsL hB8
    refine Ox.pure rfl rfl (rp_assign rfl rfl) ?_
    refine Ox.nil ?_
    (repeat first | refine thenE_normal ?_ | refine thenE_exit ?_ | refine thenE_ret ?_ | refine blockE_normal ?_ | refine blockE_ret ?_ | refine blockE_same ?_ | refine blockE_other rfl ?_)
    (repeat refine Sx.seq ?_)
    refine Sx.textR ?_
    refine Ox.val rfl rfl (rv_load rfl rfl (by (intro u hu; first | exact Cells.ld (Cells.ext0 (by assumption) (by ((repeat (first | exact Ext.refl _ _ | assumption | refine Ext.trans ?_ (by assumption))); (first | done | fail "chain")))) _ rfl rfl | exact Cells.ld0 (Cells.ext0 (by assumption) (by ((repeat (first | exact Ext.refl _ _ | assumption | refine Ext.trans ?_ (by assumption))); (first | done | fail "chain")))) rfl rfl | exact Cells.ldA (Cells.ext0 (by assumption) (by ((repeat (first | exact Ext.refl _ _ | assumption | refine Ext.trans ?_ (by assumption))); (first | done | fail "chain")))) rfl rfl | exact Cells.ldL (Cells.ext0 (by assumption) (by ((repeat (first | exact Ext.refl _ _ | assumption | refine Ext.trans ?_ (by assumption))); (first | done | fail "chain")))) rfl rfl (by assumption) | exact Cells.ldP (Cells.ext0 (by assumption) (by ((repeat (first | exact Ext.refl _ _ | assumption | refine Ext.trans ?_ (by assumption))); (first | done | fail "chain")))) _ rfl rfl rfl rfl | exact Cells.ldP (Cells.ext0 (by assumption) (by ((repeat (first | exact Ext.refl _ _ | assumption | refine Ext.trans ?_ (by assumption))); (first | done | fail "chain")))) _ rfl rfl (by assumption) (by assumption)))) ?_
    refine Ox.val rfl rfl (rv_load rfl rfl (by (intro u hu; first | exact Cells.ld (Cells.ext0 (by assumption) (by ((repeat (first | exact Ext.refl _ _ | assumption | refine Ext.trans ?_ (by assumption))); (first | done | fail "chain")))) _ rfl rfl | exact Cells.ld0 (Cells.ext0 (by assumption) (by ((repeat (first | exact Ext.refl _ _ | assumption | refine Ext.trans ?_ (by assumption))); (first | done | fail "chain")))) rfl rfl | exact Cells.ldA (Cells.ext0 (by assumption) (by ((repeat (first | exact Ext.refl _ _ | assumption | refine Ext.trans ?_ (by assumption))); (first | done | fail "chain")))) rfl rfl | exact Cells.ldL (Cells.ext0 (by assumption) (by ((repeat (first | exact Ext.refl _ _ | assumption | refine Ext.trans ?_ (by assumption))); (first | done | fail "chain")))) rfl rfl (by assumption) | exact Cells.ldP (Cells.ext0 (by assumption) (by ((repeat (first | exact Ext.refl _ _ | assumption | refine Ext.trans ?_ (by assumption))); (first | done | fail "chain")))) _ rfl rfl rfl rfl | exact Cells.ldP (Cells.ext0 (by assumption) (by ((repeat (first | exact Ext.refl _ _ | assumption | refine Ext.trans ?_ (by assumption))); (first | done | fail "chain")))) _ rfl rfl (by assumption) (by assumption)))) ?_
    refine Ox.act rfl rfl (acts_call rfl rfl rfl (ref_Same (decRes b).1 (decRes b).1 _ _ _ _ _ (rep_ext0 (by ((repeat (first | exact Ext.refl _ _ | assumption | refine Ext.trans ?_ (by assumption))); (first | done | fail "chain"))) hr5) (rep_ext0 (by ((repeat (first | exact Ext.refl _ _ | assumption | refine Ext.trans ?_ (by assumption))); (first | done | fail "chain"))) hr6))) ?_
    rintro v9 w9 ⟨e9, rfl⟩
    have hz9 := e9.size
    rw [same_self]
    refine Ox.pure rfl rfl (rp_move rfl rfl) ?_
    first | (refine Ox.skip rfl rfl ?_) | (refine Ox.pure rfl rfl (rp_move rfl rfl) ?_)
    first | (refine Ox.skip rfl rfl ?_) | (refine Ox.pure rfl rfl (rp_move rfl rfl) ?_)
    first | (refine Ox.skip rfl rfl ?_) | (refine Ox.pure rfl rfl (by first | exact rp_bin rfl rfl rfl (binI_t (by omega)) | exact rp_bin rfl rfl rfl (binI_f (by omega)) | exact rp_bin rfl rfl rfl rfl) ?_)
    refine Ox.pure rfl rfl (by first | exact rp_pick_t rfl rfl rfl | exact rp_pick_f rfl rfl rfl) ?_
    refine Ox.pure rfl rfl (rp_assign rfl rfl) ?_
    refine Ox.nil ?_
    (repeat first | refine thenE_normal ?_ | refine thenE_exit ?_ | refine thenE_ret ?_ | refine blockE_normal ?_ | refine blockE_ret ?_ | refine blockE_same ?_ | refine blockE_other rfl ?_)
    (repeat refine Sx.seq ?_); refine Sx.ret ?_
    (repeat first | refine thenE_normal ?_ | refine thenE_exit ?_ | refine thenE_ret ?_ | refine blockE_normal ?_ | refine blockE_ret ?_ | refine blockE_same ?_ | refine blockE_other rfl ?_)
    exact endE_ret [_] ⟨rfl, trivial⟩ ⟨by ((repeat (first | exact Ext.refl _ _ | assumption | refine Ext.trans ?_ (by assumption))); (first | done | fail "chain")), rfl⟩

open Go.ChangeShapes Go.WideShapes Go.ChangeAt Go.RowKit in
theorem lawContract (H : Type) (enc : TypeId × Value → H) (W : World) (base : Nat) (args : Array Value) (ds gs : List (DataW H)) (before : List MemPlace)
    (hval : ∀ (j : Nat) t v, Try.f4.params[j]? = some t → args[j]? = some v → Value.okWide Try.prog W .any base t v)
    (hW : DataW.Whole enc Try.prog Try.f4.params.toList Rows.codecDecodeSpecSpec.vars false W args.toList ds gs before)
    (hw : (DataW.weightsEach Try.prog (Try.f4.params.toList ++ Rows.codecDecodeSpecSpec.plain.varTypes Try.prog) (ds ++ gs)).all (· ≤ reachBytes) = true) :
    Calls Try.prog 4 args W fun e W' => ∃ v, e = .returned v ∧ Rows.codecDecodeSpecSpec.post enc Try.prog Try.f4 false true false false W args v W' := by
  obtain ⟨p, q, hA, hV, rfl, hz, hn⟩ := id hW
  obtain ⟨rfl, rfl⟩ := trodVars_none hV
  have hA' : DataW.TrodAll enc Try.prog W 0 (fun _ => true) true [27] args.toList ds p := hA
  obtain ⟨v0, vs0, d0, ds0, p0, q0, hargs, rfl, rfl, h0, r0⟩ := trodAll_cons hA'
  obtain ⟨rfl, rfl, rfl⟩ := trodAll_nil r0
  obtain rfl : args = #[v0] := by cases args; simp_all
  have hw' : ∀ x ∈ DataW.weightsEach Try.prog [27] [d0], x ≤ reachBytes := by
    have hw2 : (DataW.weightsEach Try.prog [27] [d0]).all (· ≤ reachBytes) = true := hw
    simpa [List.all_eq_true] using hw2
  simp only [DataW.weightsEach, List.mem_append] at hw'
  obtain ⟨b, pb, A, cap, rfl, hcap, hlb, hsl⟩ := arg_bytes (not_agg undB (hval 0 27 v0 rfl rfl)) h0 (fun x hx => hw' x (.inl hx))
  refine (decodeLaw b pb A cap W hcap hlb hsl).mono fun e W' he => ?_
  cases e with
  | returned r =>
    obtain ⟨hx, rfl⟩ := he
    exact ⟨_, rfl, post_true (by kernel_rfl) (by kernel_rfl) rfl hW rfl rfl rfl rfl rfl hx⟩
  | panicked c => exact he.elim
  | outgrown => exact he.elim

open Go.ChangeShapes Go.WideShapes Go.ChangeAt Go.RowKit in
set_option maxRecDepth 100000 in
theorem lifted (os : Os) (started : os.Started) (H : Type) (enc : TypeId × Value → H) :
    ReturnsInHanded {} Try.checked os 4 .any (Rows.codecDecodeSpecSpec.pre6 enc Try.prog Try.f4 [] false) (Rows.codecDecodeSpecSpec.post enc Try.prog Try.f4 false true false false) := by
  refine returnsInHanded_of_change_sized (C := Try.checked) (by kernel_rfl) started (by kernel_rfl) Try.func4
    (ChangeSpec.witness6 (enc := enc) (C := Try.checked) (s := Rows.codecDecodeSpecSpec) false ⟨#[], #[.slice none 0 0], []⟩ 8 (by kernel_rfl) (by kernel_rfl) (by kernel_rfl) (by kernel_rfl)) ?_
  intro W base args ds gs before hval hW _ hw _
  exact lawContract H enc W base args ds gs before hval hW hw

theorem over : Rows.codecDecodeSpecRow.holds Try.pinned (OpenSpec.ofChange Rows.codecDecodeSpecSpec) :=
  OpenClaim.holds_of_wide 4 Try.f4 rfl rfl rfl rfl rfl rfl rfl ⟨rfl, rfl, rfl, rfl, rfl⟩ rfl rfl rfl rfl rfl (by kernel_rfl) Try.func4 (by kernel_rfl)
    (of_decide_eq_true (by kernel_rfl)) (by unfold Func.isWrapper; first | (rw [if_pos (by decide +kernel)]; kernel_rfl) | (rw [if_neg (by decide +kernel)]; exact ⟨rfl, rfl⟩))
    (fun os started H enc _ => lifted os started H enc)

theorem proved : Rows.CodecDecodeSpecSaid := over

end Go.Proofs.Ytflopfjhejchfaa
