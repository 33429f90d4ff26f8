/- The codec's walks: Decode. -/
import Derived.Test.YtflopfjhejchfaaRows
import Derived.Test.YtflopfjhejchfaaCodecV
import Derived.Test.YtflopfjhejchfaaEngD
set_option linter.unusedVariables false
set_option linter.unusedSimpArgs false
namespace Go.Proofs.Ytflopfjhejchfaa
open Go Go.Eng

def zeroV : V := .mk 0 0 [] []
/-- What Decode yields. -/
def decRes (b : List UInt8) : V × Int := match decV 16 b with
  | some (v, []) => (v, 0)
  | _ => (zeroV, 10)
abbrev zeroC : List Value := [.int .i64 0, .int .i64 0, .string ⟨[].toArray⟩, nilS]
theorem rep_zero (S : Nat → Prop) (w : World) : rep S w zeroV zeroC :=
  ⟨⟨by decide, by decide⟩, ⟨by decide, by decide⟩, by simp, by simp, none, 0, ⟨0, 0, none⟩, [], rfl, by simp, by simp, ⟨by simp, cells_nil _ _⟩, by simp, rfl⟩

theorem dec1_ok (w : World) (b2 b3 : Nat) : CallsD Try.prog 31 #[.pointer (some ⟨b2, 0, none⟩), .pointer (some ⟨b3, 0, none⟩)] .returning w (fun e um w' => um = .returning ∧ (Ret fun _ w' => Ext [] w w') e w') := by
  refine callsD_recover (args := [.pointer (some ⟨b2, 0, none⟩), .pointer (some ⟨b3, 0, none⟩)]) (v := .nilIface) Try.func31 rfl rfl rfl rfl rfl rfl rfl rfl rfl (.inr ⟨rfl, rfl, rfl⟩) ?_
  (repeat refine Sx.seq ?_)
  refine Sx.textR ?_
  refine Ox.pure rfl rfl (rp_move rfl rfl) ?_
  refine Ox.pure rfl rfl (rp_ifNe_f rfl rfl rfl rfl) ?_
  refine Ox.nil ?_
  (repeat first | refine thenE_normal ?_ | refine thenE_exit ?_ | refine thenE_ret ?_ | refine blockE_normal ?_ | refine blockE_ret ?_ | refine blockE_same ?_ | refine blockE_other rfl ?_)
  (repeat refine Sx.seq ?_); first | refine Sx.cond_false rfl ?_ | refine Sx.cond rfl (fun h => absurd h (by simp [*])) (fun _ => ?_)
  (repeat refine Sx.seq ?_); refine Sx.skip ?_
  (repeat first | refine thenE_normal ?_ | refine thenE_exit ?_ | refine thenE_ret ?_ | refine blockE_normal ?_ | refine blockE_ret ?_ | refine blockE_same ?_ | refine blockE_other rfl ?_)
  exact endE_normal [] trivial (by show Ext [] w w; ((repeat (first | exact Ext.refl _ _ | assumption | refine Ext.trans ?_ (by assumption))); (first | done | fail "chain")))

theorem dec1_bad (w : World) (b2 b3 : Nat) (c2 : List Value) (v3 : Value) (hB2 : Blk w b2 24 c2) (h2 : c2.length = 4) (hB3 : Blk w b3 28 [v3]) (hne : b3 ≠ b2) :
    CallsD Try.prog 31 #[.pointer (some ⟨b2, 0, none⟩), .pointer (some ⟨b3, 0, none⟩)] (.panicking errP) w
      (fun e um w' => um = .panicking [{ v := .iface 28 (.int .i64 10), recovered := true }] ∧ (Ret fun _ w' => Ext [b2, b3] w w' ∧ Blk w' b2 24 zeroC ∧ Blk w' b3 28 [.int .i64 10]) e w') := by
  refine callsD_recover (args := [.pointer (some ⟨b2, 0, none⟩), .pointer (some ⟨b3, 0, none⟩)]) (v := .iface 28 (.int .i64 10)) Try.func31 rfl rfl rfl rfl rfl rfl rfl rfl rfl (.inl ⟨_, [], rfl, rfl, rfl, rfl, rfl⟩) ?_
  (repeat refine Sx.seq ?_)
  refine Sx.textR ?_
  refine Ox.pure rfl rfl (rp_move rfl rfl) ?_
  refine Ox.pure rfl rfl (rp_ifNe_t rfl rfl rfl rfl) ?_
  refine Ox.nil ?_
  (repeat first | refine thenE_normal ?_ | refine thenE_exit ?_ | refine thenE_ret ?_ | refine blockE_normal ?_ | refine blockE_ret ?_ | refine blockE_same ?_ | refine blockE_other rfl ?_)
  (repeat refine Sx.seq ?_); first | refine Sx.cond_true rfl ?_ | refine Sx.cond rfl (fun _ => ?_) (fun h => absurd h (by simp [*]))
  (repeat refine Sx.seq ?_)
  refine Sx.walkR rfl (fun _ _ _ _ h => h) [0, 1, 2, 3, 4] [0, 1, 2] (0) (by kernel_rfl) ?_
  intro hq w1 e1; have hz1 := e1.size
  refine Wx.pure hq rfl rfl rfl rfl (rp_buildS (ps := []) rfl rfl rfl rfl rfl) ?_
  refine Wx.pure hq rfl rfl rfl rfl (rp_move rfl rfl) ?_
  refine Wx.pure hq rfl rfl rfl rfl (rp_assert rfl rfl rfl rfl) ?_
  refine Wx.actLast rfl rfl rfl rfl (by kernel_rfl) (acts_store_all rfl rfl rfl (hB2.ext (X := []) (by ((repeat (first | exact Ext.refl _ _ | assumption | refine Ext.trans ?_ (by assumption))); (first | done | fail "chain"))) (by simp)) rfl rfl h2 (by (first | assumption | exact List.all_eq_true.mp rfl | simp [Value.cells, Value.oneCell']))) ?_
  rintro vs2 ws2 ⟨rfl, qs2, hbs2⟩
  have hB3' := (hB3.ext (X := []) (by ((repeat (first | exact Ext.refl _ _ | assumption | refine Ext.trans ?_ (by assumption))); (first | done | fail "chain"))) (by simp)).ext qs2 (by simp; exact hne)
  refine Wx.actLast rfl rfl rfl rfl (by kernel_rfl) (acts_store_all rfl rfl rfl hB3' rfl rfl rfl (by (first | assumption | exact List.all_eq_true.mp rfl | simp [Value.cells, Value.oneCell']))) ?_
  rintro vs3 ws3 ⟨rfl, qs3, hbs3⟩
  refine Wx.nil ?_
  (repeat first | refine thenE_normal ?_ | refine thenE_exit ?_ | refine thenE_ret ?_ | refine blockE_normal ?_ | refine blockE_ret ?_ | refine blockE_same ?_ | refine blockE_other rfl ?_)
  have hz2 : Blk ws3 b2 24 zeroC := hbs2.ext qs3 (by simp; omega)
  exact endE_normal [] trivial ⟨((Ext.up (by ((repeat (first | exact Ext.refl _ _ | assumption | refine Ext.trans ?_ (by assumption))); (first | done | fail "chain")))).trans (qs2.mono (by simp))).trans (qs3.mono (by simp)), hz2, hbs3⟩

theorem decode_at (b : List UInt8) (p : Option Addr) (A : Addr) (cap : Nat) (w : World) (hl : b.length ≤ 1048576) (hcap : b.length ≤ cap) (hsl : Sl w p A b.length (bytesV b)) :
    Calls Try.prog 18 #[.slice p b.length cap] w (Ret fun r w' => Ext [] w w' ∧ ∃ cs, r = .tuple #[.agg cs.toArray, .int .i64 (decRes b).2] ∧ rep (fun k => w.heap.size ≤ k) w' (decRes b).1 cs) := by
  refine calls_of_Sx_defer (args := [.slice p b.length cap]) (t := 5) (g := 31) Try.func18 rfl rfl rfl rfl rfl rfl rfl rfl ?_
  (repeat refine Sx.seq ?_)
  refine Sx.textR ?_
  refine Ox.act rfl rfl (acts_alloc rfl rfl) ?_
  rintro va2 wa2 ⟨ea2, ba2, rfl, hba2, hBa2⟩
  first | (have hCa2 : Cells wa2 ⟨ba2, 0, none⟩ [_, _, _, _] := hBa2.cells) | have hCa2 := Blk.cellsL hBa2
  have hla2 := hBa2.lt
  have hza2 := ea2.size
  refine Ox.act rfl rfl (acts_alloc rfl rfl) ?_
  rintro va3 wa3 ⟨ea3, ba3, rfl, hba3, hBa3⟩
  first | (have hCa3 : Cells wa3 ⟨ba3, 0, none⟩ [_] := hBa3.cells) | have hCa3 := Blk.cellsL hBa3
  have hla3 := hBa3.lt
  have hza3 := ea3.size
  refine Ox.nil ?_
  (repeat first | refine thenE_normal ?_ | refine thenE_exit ?_ | refine thenE_ret ?_ | refine blockE_normal ?_ | refine blockE_ret ?_ | refine blockE_same ?_ | refine blockE_other rfl ?_)
  refine ⟨rfl, _, rp_makeFunc rfl rfl rfl, ?_⟩
  have hB2 : Blk wa3 ba2 24 zeroC := hBa2.ext ea3 (by simp)
  have hB3 : Blk wa3 ba3 28 [.int .i64 0] := hBa3
  have hne : ba3 ≠ ba2 := by omega
  have bad : ∀ (u : World) (c2 : List Value) (v3 : Value), Ext [] w u → Blk u ba2 24 c2 → c2.length = 4 → Blk u ba3 28 [v3] → decRes b = (zeroV, 10) → ∀ tmps : Array Value, tmps[2]? = some (.pointer (some ⟨ba2, 0, none⟩)) → tmps[3]? = some (.pointer (some ⟨ba3, 0, none⟩)) →
      Leaves Try.prog Try.f18 tmps (Ret fun r w' => Ext [] w w' ∧ ∃ cs, r = .tuple #[.agg cs.toArray, .int .i64 (decRes b).2] ∧ rep (fun k => w.heap.size ≤ k) w' (decRes b).1 cs)
        [{ target := .fn (.func 31) #[.pointer (some ⟨ba2, 0, none⟩), .pointer (some ⟨ba3, 0, none⟩)], args := #[] }] (.panicking errP) u := by
    intro u c2 v3 he h2 hl2 h3 hd tmps ht2 ht3
    refine leaves_one rfl (by simp) rfl (dec1_bad u ba2 ba3 c2 v3 h2 hl2 h3 hne) fun e w' h => ?_
    cases e with
    | returned x =>
      obtain ⟨ex, hz2, hz3⟩ := h
      refine ⟨_, results_run (fn := Try.f18) (P := Try.prog) (w := w') (E := [(2, .pointer (some ⟨ba2, 0, none⟩)), (3, .pointer (some ⟨ba3, 0, none⟩))]) (vs := [.agg zeroC.toArray, .int .i64 10]) ⟨⟨_, rfl, hz2.cells.ldA rfl rfl⟩, ⟨_, rfl, hz3.cells.ld0 rfl rfl⟩, trivial⟩ tmps ?_, he.join ex (by simp; omega), zeroC, by rw [hd]; rfl, by rw [hd]; exact rep_zero _ _⟩
      intro t v ht
      simp only [get_cons] at ht
      split at ht
      · rename_i h5; subst h5; rw [← ht]; exact ht2
      · split at ht
        · rename_i h5; subst h5; rw [← ht]; exact ht3
        · cases ht
    | panicked c => exact h.elim
    | outgrown => exact h.elim
  (repeat refine Sx.seq ?_)
  refine Sx.textR ?_
  refine Ox.pure rfl rfl (rp_move rfl rfl) ?_
  refine Ox.pure rfl rfl (rp_buildS (ps := [(0, .tmp 6)]) rfl rfl rfl rfl rfl) ?_
  refine Ox.act rfl rfl (acts_box rfl rfl) ?_
  rintro vrd wrd ⟨erd, brd, rfl, hbrd, hBrd⟩
  first | (have hCrd : Cells wrd ⟨brd, 0, none⟩ [_] := hBrd.cells) | have hCrd := Blk.cellsL hBrd
  have hlrd := hBrd.lt
  have hzrd := erd.size
  refine Ox.pure rfl rfl (rp_assign rfl rfl) ?_
  refine Ox.nil ?_
  (repeat first | refine thenE_normal ?_ | refine thenE_exit ?_ | refine thenE_ret ?_ | refine blockE_normal ?_ | refine blockE_ret ?_ | refine blockE_same ?_ | refine blockE_other rfl ?_)
  have hBrd' : Blk wrd brd 58 [.slice p b.length cap] := hBrd
  have hRd : Rd w.heap.size wrd brd b := ⟨p, A, cap, hBrd', hcap, hsl.ext0 (by ((repeat (first | exact Ext.refl _ _ | assumption | refine Ext.trans ?_ (by assumption))); (first | done | fail "chain"))), fun h => by
    have := hsl.2.lt (fun e => by have := congrArg List.length e; rw [bytesV_length] at this; simp only [List.length_nil] at this; omega)
    omega⟩
  (repeat refine Sx.seq ?_)
  refine Sx.textR ?_
  refine Ox.pure rfl rfl (rp_move rfl rfl) ?_
  refine Ox.act rfl rfl (acts_call_or rfl rfl rfl (value_at w.heap.size 16 0 _ brd b rfl hl hRd (by omega)) (by intro c w9 hz9; (repeat first | refine thenE_panic ?_ | refine blockE_panic ?_); exact fun tmps htm => by rw [hz9.2.1]; exact bad w9 zeroC (.int .i64 0) ((show Ext [] w wrd by ((repeat (first | exact Ext.refl _ _ | assumption | refine Ext.trans ?_ (by assumption))); (first | done | fail "chain"))).join hz9.2.2 (by simp; omega)) ((hB2.ext erd (by simp)).ext hz9.2.2 (by simp; omega)) rfl ((hB3.ext erd (by simp)).ext hz9.2.2 (by simp; omega)) (by rw [decRes, hz9.1]) tmps (htm 2 _ rfl) (htm 3 _ rfl))) ?_
  rintro vva wva ⟨qva, v, rest, cs, hv, rfl, hrep, hrl, hRv⟩
  have hzva := qva.size; have hc4 := rep_length hrep; have hone := rep_one hrep
  have hB2v := (hB2.ext erd (by simp)).ext qva (by simp; omega)
  have hB3v := (hB3.ext erd (by simp)).ext qva (by simp; omega)
  refine Ox.act rfl rfl (acts_store_all rfl rfl rfl hB2v rfl (by exact hc4) rfl hone) ?_
  rintro vs2 ws2 ⟨rfl, qs2, hbs2⟩
  have hzs2 := qs2.size; have hB3s := hB3v.ext qs2 (by simp; exact hne)
  have hRs := hRv.extX qs2 (by simp; omega) (by simp; omega)
  have hB2s : Blk ws2 ba2 24 cs := hbs2
  have hCs2 := hB2s.cells
  refine Ox.nil ?_
  (repeat first | refine thenE_normal ?_ | refine thenE_exit ?_ | refine thenE_ret ?_ | refine blockE_normal ?_ | refine blockE_ret ?_ | refine blockE_same ?_ | refine blockE_other rfl ?_)
  have es2 : Ext [] w ws2 := ((show Ext [] w wrd by ((repeat (first | exact Ext.refl _ _ | assumption | refine Ext.trans ?_ (by assumption))); (first | done | fail "chain"))).join qva (by simp; omega)).join qs2 (by simp; omega)
  obtain ⟨pr, Ar, cr, hBr, hcr, hslr, hnr⟩ := id hRs
  have hCr := hBr.cells
  by_cases h0 : rest = []
  · subst h0
    have hdr : decRes b = (v, 0) := by rw [decRes, hv]
    (repeat refine Sx.seq ?_)
    refine Sx.textR ?_
    refine Ox.pure rfl rfl (rp_move rfl rfl) ?_
    refine Ox.pure rfl rfl (rp_move rfl rfl) ?_
    refine Ox.pure rfl rfl (by first | exact rp_nilP rfl rfl | exact rp_nilF rfl rfl) ?_
    refine Ox.pure rfl rfl (rp_fieldAddr rfl rfl rfl rfl) ?_
    refine Ox.val rfl rfl (rv_load rfl rfl (by (intro u hu; first | exact Cells.ld (Cells.ext0 (by assumption) (by ((repeat (first | exact Ext.refl _ _ | assumption | refine Ext.trans ?_ (by assumption))); (first | done | fail "chain")))) _ rfl rfl | exact Cells.ld0 (Cells.ext0 (by assumption) (by ((repeat (first | exact Ext.refl _ _ | assumption | refine Ext.trans ?_ (by assumption))); (first | done | fail "chain")))) rfl rfl | exact Cells.ldA (Cells.ext0 (by assumption) (by ((repeat (first | exact Ext.refl _ _ | assumption | refine Ext.trans ?_ (by assumption))); (first | done | fail "chain")))) rfl rfl | exact Cells.ldL (Cells.ext0 (by assumption) (by ((repeat (first | exact Ext.refl _ _ | assumption | refine Ext.trans ?_ (by assumption))); (first | done | fail "chain")))) rfl rfl (by assumption) | exact Cells.ldP (Cells.ext0 (by assumption) (by ((repeat (first | exact Ext.refl _ _ | assumption | refine Ext.trans ?_ (by assumption))); (first | done | fail "chain")))) _ rfl rfl rfl rfl | exact Cells.ldP (Cells.ext0 (by assumption) (by ((repeat (first | exact Ext.refl _ _ | assumption | refine Ext.trans ?_ (by assumption))); (first | done | fail "chain")))) _ rfl rfl (by assumption) (by assumption)))) ?_
    refine Ox.pure rfl rfl (rp_lenS rfl rfl rfl) ?_
    refine Ox.pure rfl rfl (by first | exact rp_bin rfl rfl rfl (binI_t (by omega)) | exact rp_bin rfl rfl rfl (binI_f (by omega)) | exact rp_bin rfl rfl rfl rfl) ?_
    refine Ox.act rfl rfl (acts_call_or rfl rfl rfl (want_at _ _ _) (by intro c w9 hz9; (repeat first | refine thenE_panic ?_ | refine blockE_panic ?_); exact absurd hz9.1 (by simp))) ?_
    rintro vwt wwt ⟨_, ewt⟩
    refine Ox.nil ?_
    (repeat first | refine thenE_normal ?_ | refine thenE_exit ?_ | refine thenE_ret ?_ | refine blockE_normal ?_ | refine blockE_ret ?_ | refine blockE_same ?_ | refine blockE_other rfl ?_)
    (repeat refine Sx.seq ?_)
    refine Sx.textR ?_
    refine Ox.val rfl rfl (rv_load rfl rfl (by (intro u hu; first | exact Cells.ld (Cells.ext0 (by assumption) (by ((repeat (first | exact Ext.refl _ _ | assumption | refine Ext.trans ?_ (by assumption))); (first | done | fail "chain")))) _ rfl rfl | exact Cells.ld0 (Cells.ext0 (by assumption) (by ((repeat (first | exact Ext.refl _ _ | assumption | refine Ext.trans ?_ (by assumption))); (first | done | fail "chain")))) rfl rfl | exact Cells.ldA (Cells.ext0 (by assumption) (by ((repeat (first | exact Ext.refl _ _ | assumption | refine Ext.trans ?_ (by assumption))); (first | done | fail "chain")))) rfl rfl | exact Cells.ldL (Cells.ext0 (by assumption) (by ((repeat (first | exact Ext.refl _ _ | assumption | refine Ext.trans ?_ (by assumption))); (first | done | fail "chain")))) rfl rfl (by assumption) | exact Cells.ldP (Cells.ext0 (by assumption) (by ((repeat (first | exact Ext.refl _ _ | assumption | refine Ext.trans ?_ (by assumption))); (first | done | fail "chain")))) _ rfl rfl rfl rfl | exact Cells.ldP (Cells.ext0 (by assumption) (by ((repeat (first | exact Ext.refl _ _ | assumption | refine Ext.trans ?_ (by assumption))); (first | done | fail "chain")))) _ rfl rfl (by assumption) (by assumption)))) ?_
    refine Ox.act rfl rfl (acts_store_all rfl rfl rfl (hB2s.ext (X := []) (by ((repeat (first | exact Ext.refl _ _ | assumption | refine Ext.trans ?_ (by assumption))); (first | done | fail "chain"))) (by simp)) rfl (by exact hc4) hc4 hone) ?_
    rintro vs4 ws4 ⟨rfl, qs4, hbs4⟩
    refine Ox.act rfl rfl (acts_store_all rfl rfl rfl ((hB3s.ext (X := []) (by ((repeat (first | exact Ext.refl _ _ | assumption | refine Ext.trans ?_ (by assumption))); (first | done | fail "chain"))) (by simp)).ext qs4 (by simp; exact hne)) rfl rfl rfl (by (first | assumption | exact List.all_eq_true.mp rfl | simp [Value.cells, Value.oneCell']))) ?_
    rintro vs5 ws5 ⟨rfl, qs5, hbs5⟩
    refine Ox.nil ?_
    (repeat first | refine thenE_normal ?_ | refine thenE_exit ?_ | refine thenE_ret ?_ | refine blockE_normal ?_ | refine blockE_ret ?_ | refine blockE_same ?_ | refine blockE_other rfl ?_)
    (repeat refine Sx.seq ?_); refine Sx.ret ?_
    (repeat first | refine thenE_normal ?_ | refine thenE_exit ?_ | refine thenE_ret ?_ | refine blockE_normal ?_ | refine blockE_ret ?_ | refine blockE_same ?_ | refine blockE_other rfl ?_)
    intro tmps htm
    have hB2f : Blk ws5 ba2 24 cs := Blk.ext (show Blk ws4 ba2 24 cs from hbs4) qs5 (by simp; omega)
    have hB3f : Blk ws5 ba3 28 [.int .i64 0] := hbs5
    have es5 : Ext [] w ws5 := ((es2.trans (by ((repeat (first | exact Ext.refl _ _ | assumption | refine Ext.trans ?_ (by assumption))); (first | done | fail "chain")))).join qs4 (by simp; omega)).join qs5 (by simp; omega)
    have hrepf : rep (fun k => w.heap.size ≤ k) ws5 v cs := rep_weak (fun k _ hk => by omega) (rep_ext qs5 (fun k hk => by simp; omega) (rep_ext qs4 (fun k hk => by simp; omega) (rep_ext0 (by ((repeat (first | exact Ext.refl _ _ | assumption | refine Ext.trans ?_ (by assumption))); (first | done | fail "chain"))) (rep_ext qs2 (fun k hk => by simp; omega) hrep))))
    refine leaves_one rfl (by simp) rfl (dec1_ok ws5 ba2 ba3) fun e w' h => ?_
    cases e with
    | returned x =>
      have ex : Ext [] ws5 w' := h
      refine ⟨_, results_run (fn := Try.f18) (P := Try.prog) (w := w') (E := [(2, .pointer (some ⟨ba2, 0, none⟩)), (3, .pointer (some ⟨ba3, 0, none⟩))]) (vs := [.agg cs.toArray, .int .i64 0]) ⟨⟨_, rfl, (hB2f.ext ex (by simp)).cells.ldL rfl rfl hc4⟩, ⟨_, rfl, (hB3f.ext ex (by simp)).cells.ld0 rfl rfl⟩, trivial⟩ tmps ?_, es5.trans ex, cs, by rw [hdr]; rfl, by rw [hdr]; exact rep_ext0 ex hrepf⟩
      intro t v ht
      simp only [get_cons] at ht
      split at ht
      · rename_i h5; subst h5; rw [← ht]; exact htm 2 _ rfl
      · split at ht
        · rename_i h5; subst h5; rw [← ht]; exact htm 3 _ rfl
        · cases ht
    | panicked c => exact h.elim
    | outgrown => exact h.elim
  · have hdr : decRes b = (zeroV, 10) := by
      rw [decRes, hv]
      cases rest with
      | nil => exact absurd rfl h0
      | cons c t => rfl
    have hlen : rest.length ≠ 0 := fun h => h0 (List.eq_nil_of_length_eq_zero h)
    (repeat refine Sx.seq ?_)
    refine Sx.textR ?_
    refine Ox.pure rfl rfl (rp_move rfl rfl) ?_
    refine Ox.pure rfl rfl (rp_move rfl rfl) ?_
    refine Ox.pure rfl rfl (by first | exact rp_nilP rfl rfl | exact rp_nilF rfl rfl) ?_
    refine Ox.pure rfl rfl (rp_fieldAddr rfl rfl rfl rfl) ?_
    refine Ox.val rfl rfl (rv_load rfl rfl (by (intro u hu; first | exact Cells.ld (Cells.ext0 (by assumption) (by ((repeat (first | exact Ext.refl _ _ | assumption | refine Ext.trans ?_ (by assumption))); (first | done | fail "chain")))) _ rfl rfl | exact Cells.ld0 (Cells.ext0 (by assumption) (by ((repeat (first | exact Ext.refl _ _ | assumption | refine Ext.trans ?_ (by assumption))); (first | done | fail "chain")))) rfl rfl | exact Cells.ldA (Cells.ext0 (by assumption) (by ((repeat (first | exact Ext.refl _ _ | assumption | refine Ext.trans ?_ (by assumption))); (first | done | fail "chain")))) rfl rfl | exact Cells.ldL (Cells.ext0 (by assumption) (by ((repeat (first | exact Ext.refl _ _ | assumption | refine Ext.trans ?_ (by assumption))); (first | done | fail "chain")))) rfl rfl (by assumption) | exact Cells.ldP (Cells.ext0 (by assumption) (by ((repeat (first | exact Ext.refl _ _ | assumption | refine Ext.trans ?_ (by assumption))); (first | done | fail "chain")))) _ rfl rfl rfl rfl | exact Cells.ldP (Cells.ext0 (by assumption) (by ((repeat (first | exact Ext.refl _ _ | assumption | refine Ext.trans ?_ (by assumption))); (first | done | fail "chain")))) _ rfl rfl (by assumption) (by assumption)))) ?_
    refine Ox.pure rfl rfl (rp_lenS rfl rfl rfl) ?_
    refine Ox.pure rfl rfl (by first | exact rp_bin rfl rfl rfl (binI_t (by omega)) | exact rp_bin rfl rfl rfl (binI_f (by omega)) | exact rp_bin rfl rfl rfl rfl) ?_
    refine Ox.act rfl rfl (acts_never rfl rfl rfl (want_at _ _ _) (by intro c w9 hz9; (repeat first | refine thenE_panic ?_ | refine blockE_panic ?_); exact fun tmps htm => by rw [hz9.2.1, hz9.2.2]; exact bad ws2 cs (.int .i64 0) es2 hB2s hc4 hB3s hdr tmps (htm 2 _ rfl) (htm 3 _ rfl)) (fun v w h => absurd h.1 (by first | decide | omega))) (fun _ _ h => h.elim)

end Go.Proofs.Ytflopfjhejchfaa
