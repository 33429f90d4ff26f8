/- Corrections' walks: spans of days. -/
import Derived.Test.YtfnekbnlokigcaaRows
import Derived.Test.YtfnekbnlokigcaaCorrA
import Derived.Test.YtfnekbnlokigcaaEngY
import Derived.Test.YtfnekbnlokigcaaFactF
set_option linter.unusedVariables false
set_option maxRecDepth 100000
set_option maxHeartbeats 4000000
set_option linter.unusedSimpArgs false
namespace Go.Proofs.Ytfnekbnlokigcaa
open Go Go.Eng

def kG (l : List Fct) (c : Cr) (now : Int) : Int → Int := fun d => knownV l c.key d now
theorem value_at (t : Tb) (l : List Fct) (c : Cr) (now day : Int) (p : Option Addr) (A : Addr) (cap b2 b7 b5 : Nat) (w : World) (hs : SlV fc w p A l cap) (h2 : Cells w ⟨b2, 0, none⟩ (wvc t (.slice p l.length cap))) (h7 : Cells w ⟨b7, 0, none⟩ (cc c)) (h5 : Cells w ⟨b5, 0, none⟩ [.int .i64 now]) :
    Calls Try.prog 30 (#[.int .i64 day] ++ #[.pointer (some ⟨b2, 0, none⟩), .pointer (some ⟨b7, 0, none⟩), .pointer (some ⟨b5, 0, none⟩)]) w (Ret fun r w' => Ext [] w w' ∧ r = .int .i64 (kG l c now day)) := by
  show Calls Try.prog 30 #[.int .i64 day, .pointer (some ⟨b2, 0, none⟩), .pointer (some ⟨b7, 0, none⟩), .pointer (some ⟨b5, 0, none⟩)] w _
  refine calls_of_Sx (args := [.int .i64 day, .pointer (some ⟨b2, 0, none⟩), .pointer (some ⟨b7, 0, none⟩), .pointer (some ⟨b5, 0, none⟩)]) Try.func30 rfl rfl ?_
  unfold kG knownV
  cases hok : (atL l c.key day now).2 with
  | true =>
    (repeat refine Sx.seq ?_)
    refine Sx.textR ?_
    refine Ox.pure rfl rfl (rp_assign rfl rfl) ?_
    refine Ox.nil ?_
    (repeat first | refine thenE_normal ?_ | refine blockE_normal ?_ | refine scopeE_normal ?_)
    (repeat refine Sx.seq ?_)
    refine Sx.textR ?_
    refine Ox.pure rfl rfl (by first | exact rp_fieldAddr2 rfl rfl rfl rfl | exact rp_fieldAddr rfl rfl rfl rfl) ?_
    refine Ox.val rfl rfl (rv_load rfl rfl (by (intro u hu; first | exact Cells.l1 (by assumption) (by (repeat first | exact .refl _ _ | assumption | refine .trans ?_ (by assumption)); first | done | fail) _ rfl rfl | exact Cells.l0 (by assumption) (by (repeat first | exact .refl _ _ | assumption | refine .trans ?_ (by assumption)); first | done | fail) rfl rfl))) ?_
    refine Ox.pure rfl rfl (by first | exact rp_fieldAddr2 rfl rfl rfl rfl | exact rp_fieldAddr rfl rfl rfl rfl) ?_
    refine Ox.val rfl rfl (rv_load rfl rfl (by (intro u hu; first | exact Cells.lA (by assumption) (by (repeat first | exact .refl _ _ | assumption | refine .trans ?_ (by assumption)); first | done | fail) rfl rfl | exact Cells.lL (by assumption) (by (repeat first | exact .refl _ _ | assumption | refine .trans ?_ (by assumption)); first | done | fail) rfl rfl (by assumption) | exact Cells.lP (by assumption) (by (repeat first | exact .refl _ _ | assumption | refine .trans ?_ (by assumption)); first | done | fail) _ rfl rfl rfl rfl | exact Cells.lP (by assumption) (by (repeat first | exact .refl _ _ | assumption | refine .trans ?_ (by assumption)); first | done | fail) _ rfl rfl (by assumption) (by assumption)))) ?_
    refine Ox.pure rfl rfl (rp_move rfl rfl) ?_
    refine Ox.val rfl rfl (rv_load rfl rfl (by (intro u hu; first | exact Cells.l1 (by assumption) (by (repeat first | exact .refl _ _ | assumption | refine .trans ?_ (by assumption)); first | done | fail) _ rfl rfl | exact Cells.l0 (by assumption) (by (repeat first | exact .refl _ _ | assumption | refine .trans ?_ (by assumption)); first | done | fail) rfl rfl))) ?_
    refine Ox.act rfl rfl (acts_call rfl rfl rfl (at_at l c.key day now p A cap _ (hs.ext0 (by (repeat first | exact .refl _ _ | assumption | refine .trans ?_ (by assumption)); first | done | fail)))) ?_
    rintro v1 w1 ⟨e1, rfl⟩
    have hz1 := e1.size
    rw [hok]
    refine Ox.pure rfl rfl (rp_move rfl rfl) ?_
    refine Ox.pure rfl rfl (rp_extract rfl rfl rfl) ?_
    refine Ox.pure rfl rfl (rp_extract rfl rfl rfl) ?_
    refine Ox.pure rfl rfl (rp_assign rfl rfl) ?_
    refine Ox.pure rfl rfl (rp_assign rfl rfl) ?_
    refine Ox.nil ?_
    (repeat first | refine thenE_normal ?_ | refine blockE_normal ?_ | refine scopeE_normal ?_)
    (repeat refine Sx.seq ?_)
    refine Sx.textR ?_
    refine Ox.pure rfl rfl (rp_move rfl rfl) ?_
    refine Ox.nil ?_
    (repeat first | refine thenE_normal ?_ | refine blockE_normal ?_ | refine scopeE_normal ?_)
    (repeat refine Sx.seq ?_); first | refine Sx.cond_true rfl ?_ | refine Sx.cond rfl (fun _ => ?_) (fun h => absurd h (by simp [*]))
    (repeat refine Sx.seq ?_)
    refine Sx.textR ?_
    refine Ox.pure rfl rfl (rp_move rfl rfl) ?_
    refine Ox.pure rfl rfl (rp_assign rfl rfl) ?_
    refine Ox.nil ?_
    (repeat first | refine thenE_normal ?_ | refine blockE_normal ?_ | refine scopeE_normal ?_)
    (repeat refine Sx.seq ?_); refine Sx.ret ?_
    (repeat first | refine thenE_ret ?_ | refine blockE_ret ?_ | refine scopeE_ret ?_)
    exact endE_ret [_] ⟨rfl, trivial⟩ ⟨by (repeat first | exact .refl _ _ | assumption | refine .trans ?_ (by assumption)); first | done | fail, rfl⟩
  | false =>
    (repeat refine Sx.seq ?_)
    refine Sx.textR ?_
    refine Ox.pure rfl rfl (rp_assign rfl rfl) ?_
    refine Ox.nil ?_
    (repeat first | refine thenE_normal ?_ | refine blockE_normal ?_ | refine scopeE_normal ?_)
    (repeat refine Sx.seq ?_)
    refine Sx.textR ?_
    refine Ox.pure rfl rfl (by first | exact rp_fieldAddr2 rfl rfl rfl rfl | exact rp_fieldAddr rfl rfl rfl rfl) ?_
    refine Ox.val rfl rfl (rv_load rfl rfl (by (intro u hu; first | exact Cells.l1 (by assumption) (by (repeat first | exact .refl _ _ | assumption | refine .trans ?_ (by assumption)); first | done | fail) _ rfl rfl | exact Cells.l0 (by assumption) (by (repeat first | exact .refl _ _ | assumption | refine .trans ?_ (by assumption)); first | done | fail) rfl rfl))) ?_
    refine Ox.pure rfl rfl (by first | exact rp_fieldAddr2 rfl rfl rfl rfl | exact rp_fieldAddr rfl rfl rfl rfl) ?_
    refine Ox.val rfl rfl (rv_load rfl rfl (by (intro u hu; first | exact Cells.lA (by assumption) (by (repeat first | exact .refl _ _ | assumption | refine .trans ?_ (by assumption)); first | done | fail) rfl rfl | exact Cells.lL (by assumption) (by (repeat first | exact .refl _ _ | assumption | refine .trans ?_ (by assumption)); first | done | fail) rfl rfl (by assumption) | exact Cells.lP (by assumption) (by (repeat first | exact .refl _ _ | assumption | refine .trans ?_ (by assumption)); first | done | fail) _ rfl rfl rfl rfl | exact Cells.lP (by assumption) (by (repeat first | exact .refl _ _ | assumption | refine .trans ?_ (by assumption)); first | done | fail) _ rfl rfl (by assumption) (by assumption)))) ?_
    refine Ox.pure rfl rfl (rp_move rfl rfl) ?_
    refine Ox.val rfl rfl (rv_load rfl rfl (by (intro u hu; first | exact Cells.l1 (by assumption) (by (repeat first | exact .refl _ _ | assumption | refine .trans ?_ (by assumption)); first | done | fail) _ rfl rfl | exact Cells.l0 (by assumption) (by (repeat first | exact .refl _ _ | assumption | refine .trans ?_ (by assumption)); first | done | fail) rfl rfl))) ?_
    refine Ox.act rfl rfl (acts_call rfl rfl rfl (at_at l c.key day now p A cap _ (hs.ext0 (by (repeat first | exact .refl _ _ | assumption | refine .trans ?_ (by assumption)); first | done | fail)))) ?_
    rintro v2 w2 ⟨e2, rfl⟩
    have hz2 := e2.size
    rw [hok]
    refine Ox.pure rfl rfl (rp_move rfl rfl) ?_
    refine Ox.pure rfl rfl (rp_extract rfl rfl rfl) ?_
    refine Ox.pure rfl rfl (rp_extract rfl rfl rfl) ?_
    refine Ox.pure rfl rfl (rp_assign rfl rfl) ?_
    refine Ox.pure rfl rfl (rp_assign rfl rfl) ?_
    refine Ox.nil ?_
    (repeat first | refine thenE_normal ?_ | refine blockE_normal ?_ | refine scopeE_normal ?_)
    (repeat refine Sx.seq ?_)
    refine Sx.textR ?_
    refine Ox.pure rfl rfl (rp_move rfl rfl) ?_
    refine Ox.nil ?_
    (repeat first | refine thenE_normal ?_ | refine blockE_normal ?_ | refine scopeE_normal ?_)
    (repeat refine Sx.seq ?_); first | refine Sx.cond_false rfl ?_ | refine Sx.cond rfl (fun h => absurd h (by simp [*])) (fun _ => ?_)
    (repeat refine Sx.seq ?_); refine Sx.skip ?_
    (repeat first | refine thenE_normal ?_ | refine blockE_normal ?_ | refine scopeE_normal ?_)
    (repeat refine Sx.seq ?_)
    refine Sx.textR ?_
    refine Ox.pure rfl rfl (rp_assign rfl rfl) ?_
    refine Ox.nil ?_
    (repeat first | refine thenE_normal ?_ | refine blockE_normal ?_ | refine scopeE_normal ?_)
    (repeat refine Sx.seq ?_); refine Sx.ret ?_
    (repeat first | refine thenE_ret ?_ | refine blockE_ret ?_ | refine scopeE_ret ?_)
    exact endE_ret [_] ⟨rfl, trivial⟩ ⟨by (repeat first | exact .refl _ _ | assumption | refine .trans ?_ (by assumption)); first | done | fail, rfl⟩

theorem spans_at (a b : Int) (f : Value) (w : World) (hf : f.cells.toList = [f]) :
    Calls Try.prog 31 #[.int .i64 a, .int .i64 b, f] w (Ret fun r w' => Ext [] w w' ∧ ∃ b1 b2 b3, r = .func (.func 43) #[] #[.pointer (some ⟨b1, 0, none⟩), .pointer (some ⟨b2, 0, none⟩), .pointer (some ⟨b3, 0, none⟩)] ∧
      w.heap.size ≤ b1 ∧ b1 < b2 ∧ b1 < b3 ∧ Blk w' b1 3 [.int .i64 a] ∧ Cells w' ⟨b2, 0, none⟩ [.int .i64 b] ∧ Cells w' ⟨b3, 0, none⟩ [f]) := by
  refine calls_of_Sx (args := [.int .i64 a, .int .i64 b, f]) Try.func31 rfl rfl ?_
  (repeat refine Sx.seq ?_)
  refine Sx.textR ?_
  refine Ox.act rfl rfl (acts_box rfl rfl) ?_
  rintro vb1 wb1 ⟨eb1, bb1, rfl, hbb1, hBb1⟩
  first | (have hCb1 : Cells wb1 ⟨bb1, 0, none⟩ [_] := hBb1.cells) | have hCb1 := Blk.cellsL hBb1
  have hlb1 := hBb1.lt
  have hzb1 := eb1.size
  refine Ox.act rfl rfl (acts_box rfl rfl) ?_
  rintro vb2 wb2 ⟨eb2, bb2, rfl, hbb2, hBb2⟩
  first | (have hCb2 : Cells wb2 ⟨bb2, 0, none⟩ [_] := hBb2.cells) | have hCb2 := Blk.cellsL hBb2
  have hlb2 := hBb2.lt
  have hzb2 := eb2.size
  refine Ox.act rfl rfl (acts_box rfl rfl) ?_
  rintro vb3 wb3 ⟨eb3, bb3, rfl, hbb3, hBb3⟩
  have hzb3 := eb3.size
  have hCb3 : Cells wb3 ⟨bb3, 0, none⟩ [f] := by have := hBb3.cells; rwa [hf] at this
  refine Ox.pure rfl rfl (rp_assign rfl rfl) ?_
  refine Ox.nil ?_
  (repeat first | refine thenE_normal ?_ | refine blockE_normal ?_ | refine scopeE_normal ?_)
  (repeat refine Sx.seq ?_)
  refine Sx.textR ?_
  refine Ox.pure rfl rfl (rp_makeFunc rfl rfl rfl) ?_
  refine Ox.pure rfl rfl (rp_assign rfl rfl) ?_
  refine Ox.nil ?_
  (repeat first | refine thenE_normal ?_ | refine blockE_normal ?_ | refine scopeE_normal ?_)
  (repeat refine Sx.seq ?_); refine Sx.ret ?_
  (repeat first | refine thenE_ret ?_ | refine blockE_ret ?_ | refine scopeE_ret ?_)
  exact endE_ret [_] ⟨rfl, trivial⟩ ⟨by (repeat first | exact .refl _ _ | assumption | refine .trans ?_ (by assumption)); first | done | fail, bb1, bb2, bb3, rfl, by omega, by omega, by omega, hBb1.ext (X := []) (by (repeat first | exact .refl _ _ | assumption | refine .trans ?_ (by assumption)); first | done | fail) (by simp), hCb2.ext0 (by (repeat first | exact .refl _ _ | assumption | refine .trans ?_ (by assumption)); first | done | fail), hCb3.ext0 (by (repeat first | exact .refl _ _ | assumption | refine .trans ?_ (by assumption)); first | done | fail)⟩

/-! ## The runs -/
abbrev ys (r : Int × Int × Int) : List Value := [.agg #[.int .i64 r.1, .int .i64 r.2.1], .int .i64 r.2.2]
theorem ys_inj {a b : Int × Int × Int} (h : ys a = ys b) : a = b := by
  obtain ⟨a1, a2, a3⟩ := a
  obtain ⟨b1, b2, b3⟩ := b
  simp [ys] at h
  obtain ⟨⟨rfl, rfl⟩, rfl⟩ := h
  rfl
theorem runsN_fuel (g : Int → Int) (to : Int) : ∀ (n m : Nat) (d : Int), (to - d).toNat ≤ n → (to - d).toNat ≤ m → runsN g to n d = runsN g to m d
  | 0, 0, d, _, _ => rfl
  | 0, m + 1, d, h, _ => by unfold runsN; rw [if_neg (by omega)]
  | n + 1, 0, d, _, h => by unfold runsN; rw [if_neg (by omega)]
  | n + 1, m + 1, d, h1, h2 => by
    unfold runsN
    by_cases hd : d < to
    · rw [if_pos hd, if_pos hd]
      have := endN_in g (g d) (to - (d + 1)).toNat (d + 1)
      rw [runsN_fuel g to n m _ (by omega) (by omega)]
    · rw [if_neg hd, if_neg hd]
def endOf (g : Int → Int) (to d : Int) : Int := endN g (g d) (to - (d + 1)).toNat (d + 1)
theorem endOf_in (g : Int → Int) {to d : Int} (h : d < to) : d < endOf g to d ∧ endOf g to d ≤ to := by
  have := endN_in g (g d) (to - (d + 1)).toNat (d + 1)
  unfold endOf; omega
def runsF (g : Int → Int) (to d : Int) : List (Int × Int × Int) := runsN g to (to - d).toNat d
theorem runsF_step (g : Int → Int) {to d : Int} (h : d < to) : runsF g to d = (d, endOf g to d, g d) :: runsF g to (endOf g to d) := by
  have h2 := endOf_in g h
  unfold runsF
  rw [show (to - d).toNat = (to - (d + 1)).toNat + 1 by omega]
  have e : runsN g to ((to - (d + 1)).toNat + 1) d = (d, endOf g to d, g d) :: runsN g to (to - (d + 1)).toNat (endOf g to d) := by
    show (if d < to then _ else _) = _
    rw [if_pos h]; rfl
  rw [e, runsN_fuel g to (to - (d + 1)).toNat (to - endOf g to d).toNat _ (by omega) (by omega)]
theorem runsF_end (g : Int → Int) {to d : Int} (h : ¬ d < to) : runsF g to d = [] := by
  unfold runsF; rw [show (to - d).toNat = 0 by omega]; rfl

theorem blkRound {J : List (List Value) → List Nat → World → Prop} {X : List Nat} {pre : List (List Value)} {W W' : World} (h : RoundStep J X pre W W') {b : Nat} {t : TypeId} {cs : List Value} (hB : Blk W b t cs) (hX : b ∉ X) : Blk W' b t cs := by
  obtain ⟨_, _, ⟨Y, he, hY⟩, _⟩ := h
  exact hB.ext he (fun hm => (hY _ hm).elim hX (fun h => by have := hB.lt; omega))
/-- The blocks that the iterator reads. -/
def SpS (n : Nat) (A : Addr) (b1 b2 b3 c2 c7 c5 : Nat) (x : Nat) : Prop := x = b1 ∨ x = b2 ∨ x = b3 ∨ x = c2 ∨ x = c7 ∨ x = c5 ∨ (0 < n ∧ x = A.block)

theorem spans_iter (t : Tb) (l : List Fct) (c : Cr) (now a b : Int) (p : Option Addr) (A : Addr) (cap b1 b2 b3 c2 c7 c5 B : Nat) (W0 : World) (hs : SlV fc W0 p A l cap) (hab : -1000000 ≤ a) (hbb : b ≤ 1000000)
    (h1 : Blk W0 b1 3 [.int .i64 a]) (h2 : Cells W0 ⟨b2, 0, none⟩ [.int .i64 b]) (h3 : Cells W0 ⟨b3, 0, none⟩ [.func (.func 30) #[] #[.pointer (some ⟨c2, 0, none⟩), .pointer (some ⟨c7, 0, none⟩), .pointer (some ⟨c5, 0, none⟩)]])
    (k2 : Cells W0 ⟨c2, 0, none⟩ (wvc t (.slice p l.length cap))) (k7 : Cells W0 ⟨c7, 0, none⟩ (cc c)) (k5 : Cells W0 ⟨c5, 0, none⟩ [.int .i64 now]) (hB : B ≤ b1) (hne : b1 ≠ b2 ∧ b1 ≠ b3 ∧ b1 ≠ c2 ∧ b1 ≠ c7 ∧ b1 ≠ c5 ∧ (0 < l.length → b1 ≠ A.block)) :
    IterE Try.prog 43 #[.pointer (some ⟨b1, 0, none⟩), .pointer (some ⟨b2, 0, none⟩), .pointer (some ⟨b3, 0, none⟩)] B (SpS l.length A b1 b2 b3 c2 c7 c5) (fun pre x => pre ++ [x] <+: (runsF (kG l c now) b a).map ys) (fun pre => pre = (runsF (kG l c now) b a).map ys) W0 := by
  intro l' J hJ hround X0 hJ0 hX0
  show Calls Try.prog 43 #[.func (.yield l') #[] #[], .pointer (some ⟨b1, 0, none⟩), .pointer (some ⟨b2, 0, none⟩), .pointer (some ⟨b3, 0, none⟩)] W0 _
  have hl1 := h1.lt
  have hl2 : b2 < W0.heap.size := h2.lt (by simp)
  have hl3 : b3 < W0.heap.size := h3.lt (by simp)
  have hm2 : c2 < W0.heap.size := k2.lt (by simp)
  have hm7 : c7 < W0.heap.size := k7.lt (by simp)
  have hm5 : c5 < W0.heap.size := k5.lt (by simp)
  have hmA : 0 < l.length → A.block < W0.heap.size := fun h => hs.row.lt (fun e => by have := rowsV_length fc_len l; rw [e] at this; simp at this; omega)
  obtain ⟨n2, n3, n4, n7, n5, nA⟩ := hne
  refine calls_of_Sx (args := [.func (.yield l') #[] #[], .pointer (some ⟨b1, 0, none⟩), .pointer (some ⟨b2, 0, none⟩), .pointer (some ⟨b3, 0, none⟩)]) Try.func43 rfl rfl ?_
  (repeat refine Sx.seq ?_); refine Sx.block ?_
  refine Sx.loop (ι := Int × List (Int × Int × Int) × List Nat) (fun i E wr => E = [(0, .func (.yield l') #[] #[]), (1, .pointer (some ⟨b1, 0, none⟩)), (2, .pointer (some ⟨b2, 0, none⟩)), (3, .pointer (some ⟨b3, 0, none⟩))] ∧ (a ≤ i.1 ∧ (i.1 ≤ b ∨ i.1 = a)) ∧ J (i.2.1.map ys) i.2.2 wr ∧ (∀ x ∈ i.2.2, ¬ SpS l.length A b1 b2 b3 c2 c7 c5 x) ∧ Blk wr b1 3 [.int .i64 i.1] ∧ Cells wr ⟨b2, 0, none⟩ [.int .i64 b] ∧ Cells wr ⟨b3, 0, none⟩ [.func (.func 30) #[] #[.pointer (some ⟨c2, 0, none⟩), .pointer (some ⟨c7, 0, none⟩), .pointer (some ⟨c5, 0, none⟩)]] ∧ Cells wr ⟨c2, 0, none⟩ (wvc t (.slice p l.length cap)) ∧ Cells wr ⟨c7, 0, none⟩ (cc c) ∧ Cells wr ⟨c5, 0, none⟩ [.int .i64 now] ∧ Cells wr A (rowsV fc l) ∧ W0.heap.size ≤ wr.heap.size ∧ i.2.1 ++ runsF (kG l c now) b i.1 = runsF (kG l c now) b a) (fun i => (b - i.1).toNat) (a, [], X0)
    (sub_cons rfl (sub_cons rfl (sub_cons rfl (sub_cons rfl sub_nil)))) ⟨rfl, ⟨Int.le_refl _, .inr rfl⟩, hJ0, hX0, h1, h2, h3, k2, k7, k5, hs.row, Nat.le_refl _, rfl⟩ ?_
  rintro ⟨d, rs, X⟩ E wr ⟨rfl, ⟨hd, hd2⟩, hj, hX, hB1, hc2, hc3, hk2, hk7, hk5, hrw, hz, hrun⟩
  dsimp only at hd hd2 hj hX hB1 hrun ⊢
  have hC1 := hB1.cells
  by_cases hlt : d < b
  · have hend := endOf_in (kG l c now) hlt
    generalize hen : endOf (kG l c now) b d = en at *
    (repeat refine Sx.seq ?_)
    refine Sx.textR ?_
    refine Ox.val rfl rfl (rv_load rfl rfl (by (intro u hu; first | exact Cells.l1 (by assumption) (by (repeat first | exact .refl _ _ | assumption | refine .trans ?_ (by assumption)); first | done | fail) _ rfl rfl | exact Cells.l0 (by assumption) (by (repeat first | exact .refl _ _ | assumption | refine .trans ?_ (by assumption)); first | done | fail) rfl rfl))) ?_
    refine Ox.val rfl rfl (rv_load rfl rfl (by (intro u hu; first | exact Cells.l1 (by assumption) (by (repeat first | exact .refl _ _ | assumption | refine .trans ?_ (by assumption)); first | done | fail) _ rfl rfl | exact Cells.l0 (by assumption) (by (repeat first | exact .refl _ _ | assumption | refine .trans ?_ (by assumption)); first | done | fail) rfl rfl))) ?_
    refine Ox.pure rfl rfl (by first | exact rp_bin rfl rfl rfl (binI_t (by omega)) | exact rp_bin rfl rfl rfl (binI_f (by omega)) | exact rp_bin rfl rfl rfl rfl) ?_
    refine Ox.nil ?_
    (repeat first | refine thenE_normal ?_ | refine blockE_normal ?_ | refine scopeE_normal ?_)
    (repeat refine Sx.seq ?_); first | refine Sx.cond_true rfl ?_ | refine Sx.cond rfl (fun _ => ?_) (fun h => absurd h (by simp [*]))
    (repeat refine Sx.seq ?_); refine Sx.skip ?_
    (repeat first | refine thenE_normal ?_ | refine blockE_normal ?_ | refine scopeE_normal ?_)
    (repeat refine Sx.seq ?_); refine Sx.block ?_
    (repeat refine Sx.seq ?_)
    refine Sx.walkR rfl (fun _ _ _ _ h => h) [0, 1, 3, 4, 2, 5, 6] [0, 1, 3, 4, 5, 6] (0) (by kernel_rfl) ?_
    intro hq w3 e3; have hz3 := e3.size
    refine Wx.val hq rfl rfl rfl rfl ([]) (rv_load rfl rfl (by (intro u hu; first | exact Cells.l1 (by assumption) (by (repeat first | exact .refl _ _ | assumption | refine .trans ?_ (by assumption)); first | done | fail) _ rfl rfl | exact Cells.l0 (by assumption) (by (repeat first | exact .refl _ _ | assumption | refine .trans ?_ (by assumption)); first | done | fail) rfl rfl))) ?_
    refine Wx.val hq rfl rfl rfl rfl ([]) (rv_load rfl rfl (by (intro u hu; first | exact Cells.l1 (by assumption) (by (repeat first | exact .refl _ _ | assumption | refine .trans ?_ (by assumption)); first | done | fail) _ rfl rfl | exact Cells.l0 (by assumption) (by (repeat first | exact .refl _ _ | assumption | refine .trans ?_ (by assumption)); first | done | fail) rfl rfl))) ?_
    refine Wx.val hq rfl rfl rfl rfl ([]) (rv_load rfl rfl (by (intro u hu; first | exact Cells.l1 (by assumption) (by (repeat first | exact .refl _ _ | assumption | refine .trans ?_ (by assumption)); first | done | fail) _ rfl rfl | exact Cells.l0 (by assumption) (by (repeat first | exact .refl _ _ | assumption | refine .trans ?_ (by assumption)); first | done | fail) rfl rfl))) ?_
    refine Wx.pure hq rfl rfl rfl rfl (by first | exact rp_bin rfl rfl rfl (binI_fit_add (wrap64 (by omega))) | exact rp_bin rfl rfl rfl rfl) ?_
    refine Wx.actNew rfl rfl rfl rfl (acts_callv rfl rfl rfl rfl (value_at t l c now d p A cap c2 c7 c5 _ ⟨hs.ptr, hrw.ext0 (by (repeat first | exact .refl _ _ | assumption | refine .trans ?_ (by assumption)); first | done | fail), hs.le, hs.small, hs.few⟩ (hk2.ext0 (by (repeat first | exact .refl _ _ | assumption | refine .trans ?_ (by assumption)); first | done | fail)) (hk7.ext0 (by (repeat first | exact .refl _ _ | assumption | refine .trans ?_ (by assumption)); first | done | fail)) (hk5.ext0 (by (repeat first | exact .refl _ _ | assumption | refine .trans ?_ (by assumption)); first | done | fail)))) ?_
    rintro v4 w4 e4 rfl
    have hz4 := e4.size
    refine Wx.pure hq rfl rfl rfl rfl (rp_assign rfl rfl) ?_
    refine Wx.pure hq rfl rfl rfl rfl (rp_assign rfl rfl) ?_
    refine Wx.nil ?_
    (repeat first | refine thenE_normal ?_ | refine blockE_normal ?_ | refine scopeE_normal ?_)
    refine Sx.seq (Sx.upto (fun E' w' => (∀ t u, get [(0, .func (.yield l') #[] #[]), (1, .pointer (some ⟨b1, 0, none⟩)), (2, .pointer (some ⟨b2, 0, none⟩)), (3, .pointer (some ⟨b3, 0, none⟩)), (5, .int .i64 (kG l c now d)), (6, .int .i64 en)] t = some u → get E' t = some u) ∧ Ext [] wr w') ?_ ?_)
    · (repeat refine Sx.seq ?_); refine Sx.block ?_
      refine Sx.loop (ι := Int) (fun e E wk => E = [(0, .func (.yield l') #[] #[]), (1, .pointer (some ⟨b1, 0, none⟩)), (2, .pointer (some ⟨b2, 0, none⟩)), (3, .pointer (some ⟨b3, 0, none⟩)), (5, .int .i64 (kG l c now d)), (6, .int .i64 e)] ∧ d < e ∧ e ≤ b ∧ Ext [] wr wk ∧ endN (kG l c now) (kG l c now d) (b - e).toNat e = en) (fun e => (b - e).toNat) (d + 1)
        (sub_cons rfl (sub_cons rfl (sub_cons rfl (sub_cons rfl (sub_cons rfl (sub_cons rfl sub_nil)))))) ⟨rfl, by omega, by omega, by (repeat first | exact .refl _ _ | assumption | refine .trans ?_ (by assumption)); first | done | fail, hen⟩ ?_
      rintro e E wk ⟨rfl, he1, he2, ek, hee⟩
      by_cases helt : e < b
      · rw [endN_step _ _ helt] at hee
        by_cases hge : kG l c now e = kG l c now d
        · rw [if_pos hge] at hee
          (repeat refine Sx.seq ?_)
          refine Sx.textR ?_
          refine Ox.pure rfl rfl (rp_move rfl rfl) ?_
          refine Ox.val rfl rfl (rv_load rfl rfl (by (intro u hu; first | exact Cells.l1 (by assumption) (by (repeat first | exact .refl _ _ | assumption | refine .trans ?_ (by assumption)); first | done | fail) _ rfl rfl | exact Cells.l0 (by assumption) (by (repeat first | exact .refl _ _ | assumption | refine .trans ?_ (by assumption)); first | done | fail) rfl rfl))) ?_
          refine Ox.pure rfl rfl (by first | exact rp_bin rfl rfl rfl (binI_t (by omega)) | exact rp_bin rfl rfl rfl (binI_f (by omega)) | exact rp_bin rfl rfl rfl rfl) ?_
          refine Ox.pure rfl rfl (rp_move rfl rfl) ?_
          first | (refine Ox.skip rfl rfl ?_) | (refine Ox.val rfl rfl (rv_load rfl rfl (by (intro u hu; first | exact Cells.l1 (by assumption) (by (repeat first | exact .refl _ _ | assumption | refine .trans ?_ (by assumption)); first | done | fail) _ rfl rfl | exact Cells.l0 (by assumption) (by (repeat first | exact .refl _ _ | assumption | refine .trans ?_ (by assumption)); first | done | fail) rfl rfl))) ?_)
          first | (refine Ox.skip rfl rfl ?_) | (refine Ox.pure rfl rfl (rp_move rfl rfl) ?_)
          first | (refine Ox.skip rfl rfl ?_) | (refine Ox.act rfl rfl (acts_callv rfl rfl rfl rfl (value_at t l c now e p A cap c2 c7 c5 _ ⟨hs.ptr, hrw.ext0 (by (repeat first | exact .refl _ _ | assumption | refine .trans ?_ (by assumption)); first | done | fail), hs.le, hs.small, hs.few⟩ (hk2.ext0 (by (repeat first | exact .refl _ _ | assumption | refine .trans ?_ (by assumption)); first | done | fail)) (hk7.ext0 (by (repeat first | exact .refl _ _ | assumption | refine .trans ?_ (by assumption)); first | done | fail)) (hk5.ext0 (by (repeat first | exact .refl _ _ | assumption | refine .trans ?_ (by assumption)); first | done | fail)))) ?_; rintro v5 w5 ⟨e5, rfl⟩; have hz5 := e5.size)
          first | (refine Ox.skip rfl rfl ?_) | (refine Ox.pure rfl rfl (rp_move rfl rfl) ?_)
          first | (refine Ox.skip rfl rfl ?_) | (refine Ox.pure rfl rfl (by first | exact rp_bin rfl rfl rfl (binI_t (by omega)) | exact rp_bin rfl rfl rfl (binI_f (by omega)) | exact rp_bin rfl rfl rfl rfl) ?_)
          refine Ox.pure rfl rfl (by first | exact rp_pick_t rfl rfl rfl | exact rp_pick_f rfl rfl rfl) ?_
          refine Ox.nil ?_
          (repeat first | refine thenE_normal ?_ | refine blockE_normal ?_ | refine scopeE_normal ?_)
          (repeat refine Sx.seq ?_); first | refine Sx.cond_true rfl ?_ | refine Sx.cond rfl (fun _ => ?_) (fun h => absurd h (by simp [*]))
          (repeat refine Sx.seq ?_); refine Sx.skip ?_
          (repeat first | refine thenE_normal ?_ | refine blockE_normal ?_ | refine scopeE_normal ?_)
          (repeat refine Sx.seq ?_); refine Sx.block ?_
          (repeat refine Sx.seq ?_)
          refine Sx.textR ?_
          refine Ox.pure rfl rfl (rp_move rfl rfl) ?_
          refine Ox.pure rfl rfl (by first | exact rp_bin rfl rfl rfl (binI_fit_add (wrap64 (by omega))) | exact rp_bin rfl rfl rfl rfl) ?_
          refine Ox.pure rfl rfl (rp_assign rfl rfl) ?_
          refine Ox.nil ?_
          (repeat first | refine thenE_normal ?_ | refine blockE_normal ?_ | refine scopeE_normal ?_)
          exact ⟨e + 1, _, sub_cons rfl (sub_cons rfl (sub_cons rfl (sub_cons rfl (sub_cons rfl (sub_cons rfl sub_nil))))), ⟨rfl, by omega, by omega, by (repeat first | exact .refl _ _ | assumption | refine .trans ?_ (by assumption)); first | done | fail, hee⟩, by omega⟩
        · rw [if_neg hge] at hee
          (repeat refine Sx.seq ?_)
          refine Sx.textR ?_
          refine Ox.pure rfl rfl (rp_move rfl rfl) ?_
          refine Ox.val rfl rfl (rv_load rfl rfl (by (intro u hu; first | exact Cells.l1 (by assumption) (by (repeat first | exact .refl _ _ | assumption | refine .trans ?_ (by assumption)); first | done | fail) _ rfl rfl | exact Cells.l0 (by assumption) (by (repeat first | exact .refl _ _ | assumption | refine .trans ?_ (by assumption)); first | done | fail) rfl rfl))) ?_
          refine Ox.pure rfl rfl (by first | exact rp_bin rfl rfl rfl (binI_t (by omega)) | exact rp_bin rfl rfl rfl (binI_f (by omega)) | exact rp_bin rfl rfl rfl rfl) ?_
          refine Ox.pure rfl rfl (rp_move rfl rfl) ?_
          first | (refine Ox.skip rfl rfl ?_) | (refine Ox.val rfl rfl (rv_load rfl rfl (by (intro u hu; first | exact Cells.l1 (by assumption) (by (repeat first | exact .refl _ _ | assumption | refine .trans ?_ (by assumption)); first | done | fail) _ rfl rfl | exact Cells.l0 (by assumption) (by (repeat first | exact .refl _ _ | assumption | refine .trans ?_ (by assumption)); first | done | fail) rfl rfl))) ?_)
          first | (refine Ox.skip rfl rfl ?_) | (refine Ox.pure rfl rfl (rp_move rfl rfl) ?_)
          first | (refine Ox.skip rfl rfl ?_) | (refine Ox.act rfl rfl (acts_callv rfl rfl rfl rfl (value_at t l c now e p A cap c2 c7 c5 _ ⟨hs.ptr, hrw.ext0 (by (repeat first | exact .refl _ _ | assumption | refine .trans ?_ (by assumption)); first | done | fail), hs.le, hs.small, hs.few⟩ (hk2.ext0 (by (repeat first | exact .refl _ _ | assumption | refine .trans ?_ (by assumption)); first | done | fail)) (hk7.ext0 (by (repeat first | exact .refl _ _ | assumption | refine .trans ?_ (by assumption)); first | done | fail)) (hk5.ext0 (by (repeat first | exact .refl _ _ | assumption | refine .trans ?_ (by assumption)); first | done | fail)))) ?_; rintro v6 w6 ⟨e6, rfl⟩; have hz6 := e6.size)
          first | (refine Ox.skip rfl rfl ?_) | (refine Ox.pure rfl rfl (rp_move rfl rfl) ?_)
          first | (refine Ox.skip rfl rfl ?_) | (refine Ox.pure rfl rfl (by first | exact rp_bin rfl rfl rfl (binI_t (by omega)) | exact rp_bin rfl rfl rfl (binI_f (by omega)) | exact rp_bin rfl rfl rfl rfl) ?_)
          refine Ox.pure rfl rfl (by first | exact rp_pick_t rfl rfl rfl | exact rp_pick_f rfl rfl rfl) ?_
          refine Ox.nil ?_
          (repeat first | refine thenE_normal ?_ | refine blockE_normal ?_ | refine scopeE_normal ?_)
          (repeat refine Sx.seq ?_); first | refine Sx.cond_false rfl ?_ | refine Sx.cond rfl (fun h => absurd h (by simp [*])) (fun _ => ?_)
          (repeat refine Sx.seq ?_); refine Sx.exit ?_
          (repeat first | refine thenE_exit ?_ | refine blockE_same ?_ | refine blockE_other rfl ?_ | refine scopeE_exit ?_ | refine thenE_normal ?_ | refine blockE_normal ?_ | refine scopeE_normal ?_)
          exact ⟨by rw [← hee]; exact sub_cons rfl (sub_cons rfl (sub_cons rfl (sub_cons rfl (sub_cons rfl (sub_cons rfl sub_nil))))), by (repeat first | exact .refl _ _ | assumption | refine .trans ?_ (by assumption)); first | done | fail⟩
      · rw [endN_end _ _ helt] at hee
        (repeat refine Sx.seq ?_)
        refine Sx.textR ?_
        refine Ox.pure rfl rfl (rp_move rfl rfl) ?_
        refine Ox.val rfl rfl (rv_load rfl rfl (by (intro u hu; first | exact Cells.l1 (by assumption) (by (repeat first | exact .refl _ _ | assumption | refine .trans ?_ (by assumption)); first | done | fail) _ rfl rfl | exact Cells.l0 (by assumption) (by (repeat first | exact .refl _ _ | assumption | refine .trans ?_ (by assumption)); first | done | fail) rfl rfl))) ?_
        refine Ox.pure rfl rfl (by first | exact rp_bin rfl rfl rfl (binI_t (by omega)) | exact rp_bin rfl rfl rfl (binI_f (by omega)) | exact rp_bin rfl rfl rfl rfl) ?_
        refine Ox.pure rfl rfl (rp_move rfl rfl) ?_
        first | (refine Ox.skip rfl rfl ?_) | (refine Ox.val rfl rfl (rv_load rfl rfl (by (intro u hu; first | exact Cells.l1 (by assumption) (by (repeat first | exact .refl _ _ | assumption | refine .trans ?_ (by assumption)); first | done | fail) _ rfl rfl | exact Cells.l0 (by assumption) (by (repeat first | exact .refl _ _ | assumption | refine .trans ?_ (by assumption)); first | done | fail) rfl rfl))) ?_)
        first | (refine Ox.skip rfl rfl ?_) | (refine Ox.pure rfl rfl (rp_move rfl rfl) ?_)
        first | (refine Ox.skip rfl rfl ?_) | (refine Ox.act rfl rfl (acts_callv rfl rfl rfl rfl (value_at t l c now e p A cap c2 c7 c5 _ ⟨hs.ptr, hrw.ext0 (by (repeat first | exact .refl _ _ | assumption | refine .trans ?_ (by assumption)); first | done | fail), hs.le, hs.small, hs.few⟩ (hk2.ext0 (by (repeat first | exact .refl _ _ | assumption | refine .trans ?_ (by assumption)); first | done | fail)) (hk7.ext0 (by (repeat first | exact .refl _ _ | assumption | refine .trans ?_ (by assumption)); first | done | fail)) (hk5.ext0 (by (repeat first | exact .refl _ _ | assumption | refine .trans ?_ (by assumption)); first | done | fail)))) ?_; rintro v7 w7 ⟨e7, rfl⟩; have hz7 := e7.size)
        first | (refine Ox.skip rfl rfl ?_) | (refine Ox.pure rfl rfl (rp_move rfl rfl) ?_)
        first | (refine Ox.skip rfl rfl ?_) | (refine Ox.pure rfl rfl (by first | exact rp_bin rfl rfl rfl (binI_t (by omega)) | exact rp_bin rfl rfl rfl (binI_f (by omega)) | exact rp_bin rfl rfl rfl rfl) ?_)
        refine Ox.pure rfl rfl (by first | exact rp_pick_t rfl rfl rfl | exact rp_pick_f rfl rfl rfl) ?_
        refine Ox.nil ?_
        (repeat first | refine thenE_normal ?_ | refine blockE_normal ?_ | refine scopeE_normal ?_)
        (repeat refine Sx.seq ?_); first | refine Sx.cond_false rfl ?_ | refine Sx.cond rfl (fun h => absurd h (by simp [*])) (fun _ => ?_)
        (repeat refine Sx.seq ?_); refine Sx.exit ?_
        (repeat first | refine thenE_exit ?_ | refine blockE_same ?_ | refine blockE_other rfl ?_ | refine scopeE_exit ?_ | refine thenE_normal ?_ | refine blockE_normal ?_ | refine scopeE_normal ?_)
        exact ⟨by rw [← hee]; exact sub_cons rfl (sub_cons rfl (sub_cons rfl (sub_cons rfl (sub_cons rfl (sub_cons rfl sub_nil))))), by (repeat first | exact .refl _ _ | assumption | refine .trans ?_ (by assumption)); first | done | fail⟩
    rintro E' wm ⟨hsub, em⟩
    refine thenE_normal (Sx.weaken ?_ hsub)
    have hzm := em.size
    have hnx : rs.map ys ++ [ys (d, en, kG l c now d)] <+: (runsF (kG l c now) b a).map ys := by
      rw [← hrun, runsF_step _ hlt, hen, List.map_append, List.map_cons]
      exact ⟨(runsF (kG l c now) b en).map ys, by simp⟩
    (repeat refine Sx.seq ?_)
    refine Sx.textR ?_
    refine Ox.pure rfl rfl (rp_move rfl rfl) ?_
    refine Ox.val rfl rfl (rv_load rfl rfl (by (intro u hu; first | exact Cells.l1 (by assumption) (by (repeat first | exact .refl _ _ | assumption | refine .trans ?_ (by assumption)); first | done | fail) _ rfl rfl | exact Cells.l0 (by assumption) (by (repeat first | exact .refl _ _ | assumption | refine .trans ?_ (by assumption)); first | done | fail) rfl rfl))) ?_
    refine Ox.pure rfl rfl (rp_move rfl rfl) ?_
    refine Ox.pure rfl rfl (rp_buildS (ps := [(0, .tmp 28), (1, .tmp 29)]) rfl rfl rfl rfl rfl) ?_
    refine Ox.pure rfl rfl (rp_move rfl rfl) ?_
    refine Ox.act rfl rfl (acts_yield rfl rfl rfl (hround (rs.map ys) (ys (d, en, kG l c now d)) X _ hnx (hJ.stay _ _ _ _ [] hj em (by simp)))) ?_
    rintro vyd wyd ⟨rfl, hst⟩
    refine Ox.pure rfl rfl (rp_not rfl rfl) ?_
    refine Ox.nil ?_
    (repeat first | refine thenE_normal ?_ | refine blockE_normal ?_ | refine scopeE_normal ?_)
    (repeat refine Sx.seq ?_); first | refine Sx.cond_false rfl ?_ | refine Sx.cond rfl (fun h => absurd h (by simp [*])) (fun _ => ?_)
    (repeat refine Sx.seq ?_); refine Sx.skip ?_
    (repeat first | refine thenE_normal ?_ | refine blockE_normal ?_ | refine scopeE_normal ?_)
    have hno : ∀ x, SpS l.length A b1 b2 b3 c2 c7 c5 x → x ∉ X := fun x hx hm => hX x hm hx
    have hB1y : Blk wyd b1 3 [.int .i64 d] := blkRound hst (hB1.ext (X := []) em (by simp)) (hno _ (.inl rfl))
    obtain ⟨X', hj', hY, hX'⟩ := id hst
    have hzy : wm.heap.size ≤ wyd.heap.size := by obtain ⟨Y, he, _⟩ := hY; exact he.size
    (repeat refine Sx.seq ?_)
    refine Sx.textR ?_
    refine Ox.pure rfl rfl (rp_move rfl rfl) ?_
    refine Ox.act rfl rfl (acts_store_all rfl rfl rfl hB1y rfl rfl rfl (by (first | assumption | exact List.all_eq_true.mp rfl | simp [Value.cells, Value.oneCell']))) ?_
    rintro vs5 ws5 ⟨rfl, qs5, hBs5⟩
    refine Ox.nil ?_
    (repeat first | refine thenE_normal ?_ | refine blockE_normal ?_ | refine scopeE_normal ?_)
    have hzs := qs5.size
    refine ⟨(en, rs ++ [(d, en, kG l c now d)], X'), _, sub_cons rfl (sub_cons rfl (sub_cons rfl (sub_cons rfl sub_nil))), ⟨rfl, ⟨by first | omega | (dsimp only; omega), .inl hend.2⟩, ?_, ?_, hBs5, ?_, ?_, ?_, ?_, ?_, ?_, by first | omega | (dsimp only; omega), ?_⟩, by first | omega | (dsimp only; omega)⟩
    · dsimp only
      rw [List.map_append]
      exact hJ.stay _ _ _ _ [b1] hj' qs5 (fun z hz => by
        rw [List.mem_singleton.1 hz]
        exact ⟨hB, fun hm => (hX' _ hm).elim (hno _ (.inl rfl)) (fun h => by omega)⟩)
    · dsimp only
      intro x hx hS
      rcases hX' x hx with h5 | h5
      · exact hX x h5 hS
      · rcases hS with h | h | h | h | h | h | ⟨h, h'⟩
        · omega
        · omega
        · omega
        · omega
        · omega
        · omega
        · have := hmA h; omega
    · exact (hst.cells (hc2.ext0 em) (hno _ (.inr (.inl rfl)))).ext qs5 (by simp; omega)
    · exact (hst.cells (hc3.ext0 em) (hno _ (.inr (.inr (.inl rfl))))).ext qs5 (by simp; omega)
    · exact (hst.cells (hk2.ext0 em) (hno _ (.inr (.inr (.inr (.inl rfl)))))).ext qs5 (by simp; omega)
    · exact (hst.cells (hk7.ext0 em) (hno _ (.inr (.inr (.inr (.inr (.inl rfl))))))).ext qs5 (by simp; omega)
    · exact (hst.cells (hk5.ext0 em) (hno _ (.inr (.inr (.inr (.inr (.inr (.inl rfl)))))))).ext qs5 (by simp; omega)
    · by_cases h0 : 0 < l.length
      · exact (hst.cells (hrw.ext0 em) (hno _ (.inr (.inr (.inr (.inr (.inr (.inr ⟨h0, rfl⟩)))))))).ext qs5 (by have := nA h0; simp; omega)
      · rw [List.eq_nil_of_length_eq_zero (show l.length = 0 by omega)]; exact cells_nil _ _
    · dsimp only
      rw [← hrun, runsF_step _ hlt, hen]; simp
  · rw [runsF_end _ hlt, List.append_nil] at hrun
    (repeat refine Sx.seq ?_)
    refine Sx.textR ?_
    refine Ox.val rfl rfl (rv_load rfl rfl (by (intro u hu; first | exact Cells.l1 (by assumption) (by (repeat first | exact .refl _ _ | assumption | refine .trans ?_ (by assumption)); first | done | fail) _ rfl rfl | exact Cells.l0 (by assumption) (by (repeat first | exact .refl _ _ | assumption | refine .trans ?_ (by assumption)); first | done | fail) rfl rfl))) ?_
    refine Ox.val rfl rfl (rv_load rfl rfl (by (intro u hu; first | exact Cells.l1 (by assumption) (by (repeat first | exact .refl _ _ | assumption | refine .trans ?_ (by assumption)); first | done | fail) _ rfl rfl | exact Cells.l0 (by assumption) (by (repeat first | exact .refl _ _ | assumption | refine .trans ?_ (by assumption)); first | done | fail) rfl rfl))) ?_
    refine Ox.pure rfl rfl (by first | exact rp_bin rfl rfl rfl (binI_t (by omega)) | exact rp_bin rfl rfl rfl (binI_f (by omega)) | exact rp_bin rfl rfl rfl rfl) ?_
    refine Ox.nil ?_
    (repeat first | refine thenE_normal ?_ | refine blockE_normal ?_ | refine scopeE_normal ?_)
    (repeat refine Sx.seq ?_); first | refine Sx.cond_false rfl ?_ | refine Sx.cond rfl (fun h => absurd h (by simp [*])) (fun _ => ?_)
    (repeat refine Sx.seq ?_); refine Sx.exit ?_
    (repeat first | refine thenE_exit ?_ | refine blockE_same ?_ | refine blockE_other rfl ?_ | refine scopeE_exit ?_ | refine thenE_normal ?_ | refine blockE_normal ?_ | refine scopeE_normal ?_)
    exact endE_normal [] trivial ⟨_, X, by rw [← hrun], hj⟩

end Go.Proofs.Ytfnekbnlokigcaa
