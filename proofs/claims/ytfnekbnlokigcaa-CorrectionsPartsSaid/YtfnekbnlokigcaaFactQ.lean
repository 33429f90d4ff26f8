/- The facts' walks: keys sorted. -/
import Derived.Test.YtfnekbnlokigcaaRows
import Derived.Test.YtfnekbnlokigcaaEngV
import Derived.Test.YtfnekbnlokigcaaFactP
set_option linter.unusedVariables false
set_option maxRecDepth 100000
set_option maxHeartbeats 4000000
set_option linter.unusedSimpArgs false
namespace Go.Proofs.Ytfnekbnlokigcaa
open Go Go.Eng

def sortLay_ren : Go.Shelf.Ren := ⟨fun | 6 => 54 | 15 => 59 | 14 => 58 | 28 => 68 | 29 => 69 | 20 => 60 | 21 => 61 | 22 => 62 | 23 => 63 | 24 => 64 | 25 => 65 | 26 => 66 | 27 => 67 | 46 => 70 | 47 => 71 | 48 => 72 | 49 => 73 | 50 => 74 | 57 => 75 | n => n, fun | 22 => 49 | 24 => 52 | 25 => 102 | 3 => 3 | 39 => 47 | 0 => 0 | 53 => 125 | 55 => 127 | 4 => 4 | 46 => 119 | 45 => 118 | 50 => 65 | 5 => 5 | 9 => 9 | 66 => 128 | 70 => 132 | 76 => 134 | 77 => 135 | n => n, fun | n => n⟩
theorem sortLay : Go.Proofs.SlLaysF0.n6 Try.prog sortLay_ren := {
  mixed := by kernel_rfl
  f6 := ⟨Try.f54.name, by decide, Try.func54.trans (congrArg some (by kernel_rfl))⟩
  f14 := ⟨Try.f58.name, by decide, Try.func58.trans (congrArg some (by kernel_rfl))⟩
  f15 := Try.func59.trans (congrArg some (by kernel_rfl))
  f20 := ⟨Try.f60.name, by decide, Try.func60.trans (congrArg some (by kernel_rfl))⟩
  f21 := ⟨Try.f61.name, by decide, Try.func61.trans (congrArg some (by kernel_rfl))⟩
  f22 := ⟨Try.f62.name, by decide, Try.func62.trans (congrArg some (by kernel_rfl))⟩
  f23 := ⟨Try.f63.name, by decide, Try.func63.trans (congrArg some (by kernel_rfl))⟩
  f24 := ⟨Try.f64.name, by decide, Try.func64.trans (congrArg some (by kernel_rfl))⟩
  f25 := ⟨Try.f65.name, by decide, Try.func65.trans (congrArg some (by kernel_rfl))⟩
  f26 := ⟨Try.f66.name, by decide, Try.func66.trans (congrArg some (by kernel_rfl))⟩
  f27 := ⟨Try.f67.name, by decide, Try.func67.trans (congrArg some (by kernel_rfl))⟩
  f28 := Try.func68.trans (congrArg some (by kernel_rfl))
  f29 := Try.func69.trans (congrArg some (by kernel_rfl))
  f46 := ⟨Try.f70.name, by decide, Try.func70.trans (congrArg some (by kernel_rfl))⟩
  f47 := Try.func71.trans (congrArg some (by kernel_rfl))
  f48 := Try.func72.trans (congrArg some (by kernel_rfl))
  f49 := ⟨Try.f73.name, by decide, Try.func73.trans (congrArg some (by kernel_rfl))⟩
  f50 := ⟨Try.f74.name, by decide, Try.func74.trans (congrArg some (by kernel_rfl))⟩
  f57 := ⟨Try.f75.name, by decide, Try.func75.trans (congrArg some (by kernel_rfl))⟩
  t0 := Try.underlying0
  a0 := Try.isAgg0
  z0 := Try.sizeOf0
  v0 := Try.zeroValue0
  t3 := Try.underlying3
  a3 := Try.isAgg3
  z3 := Try.sizeOf3
  v3 := Try.zeroValue3
  t4 := Try.underlying4
  a4 := Try.isAgg4
  z4 := Try.sizeOf4
  v4 := Try.zeroValue4
  t5 := Try.underlying5
  a5 := Try.isAgg5
  z5 := Try.sizeOf5
  v5 := Try.zeroValue5
  t9 := Try.underlying9
  a9 := Try.isAgg9
  z9 := Try.sizeOf9
  v9 := Try.zeroValue9
  t22 := Try.underlying49
  a22 := Try.isAgg49
  z22 := Try.sizeOf49
  v22 := Try.zeroValue49
  t25 := Try.underlying102
  a25 := Try.isAgg102
  z25 := Try.sizeOf102
  v25 := Try.zeroValue102
  t39 := Try.underlying47
  a39 := Try.isAgg47
  z39 := Try.sizeOf47
  v39 := Try.zeroValue47
  t45 := Try.underlying118
  a45 := Try.isAgg118
  z45 := Try.sizeOf118
  v45 := Try.zeroValue118
  t46 := Try.underlying119
  a46 := Try.isAgg119
  z46 := Try.sizeOf119
  v46 := Try.zeroValue119
  t50 := Try.underlying65
  a50 := Try.isAgg65
  z50 := Try.sizeOf65
  v50 := Try.zeroValue65
  t53 := Try.underlying125
  a53 := Try.isAgg125
  z53 := Try.sizeOf125
  v53 := Try.zeroValue125
  t55 := Try.underlying127
  a55 := Try.isAgg127
  z55 := Try.sizeOf127
  v55 := Try.zeroValue127
  t66 := Try.underlying128
  a66 := Try.isAgg128
  z66 := Try.sizeOf128
  v66 := Try.zeroValue128
  t70 := Try.underlying132
  a70 := Try.isAgg132
  z70 := Try.sizeOf132
  v70 := Try.zeroValue132
  t76 := Try.underlying134
  a76 := Try.isAgg134
  z76 := Try.sizeOf134
  v76 := Try.zeroValue134
  t77 := Try.underlying135
  a77 := Try.isAgg135
  z77 := Try.sizeOf135
  v77 := Try.zeroValue135 }

instance : Inhabited Ky := ⟨⟨0, 0, 0⟩⟩
theorem swoK : Go.Sort.SWO (Go.Proofs.ltOf cmpK) where
  irrefl x := decide_eq_false (fun h => lessK_irrefl x ((cmpK_lt x x).1 h))
  trans x y z h1 h2 := decide_eq_true ((cmpK_lt x z).2 (lessK_trans ((cmpK_lt x y).1 (of_decide_eq_true h1)) ((cmpK_lt y z).1 (of_decide_eq_true h2))))
  ntrans x y z h1 h2 := by
    have h3 : ¬ lessK x y := fun h => of_decide_eq_false h1 ((cmpK_lt x y).2 h)
    have h4 : ¬ lessK y z := fun h => of_decide_eq_false h2 ((cmpK_lt y z).2 h)
    refine decide_eq_false (fun h => ?_)
    have h5 := (cmpK_lt x z).1 h
    unfold lessK at h3 h4 h5; omega

theorem sortK_at (ks : List Ky) (base : Nat) (p : Option Addr) (c : Nat) (w : World) (ho : OwnK base w (.slice p ks.length c) ks) (hl : ks.length ≤ 1000000) :
    Calls Try.prog 54 #[.slice p ks.length c, .func (.func 46) #[] #[]] w (Ret fun r w' => Ext (Value.slice p ks.length c).ownBlock.toList w w' ∧ ∃ ks' : List Ky, ks'.Perm ks ∧ ks'.Pairwise (fun a b => ¬ lessK b a) ∧ OwnK base w' (.slice p ks.length c) ks') := by
  have := sort_own sortLay (k := 3) (enc := kc) rfl rfl kc_len kc_one cmpK swoK 46 #[] rfl ho (by omega) (fun x y W _ => compareKeys_at x y W)
  refine Calls.mono this ?_
  intro e w' h
  cases e with
  | returned v => 
    obtain ⟨h1, ks', h2, h3, h4⟩ := h
    exact ⟨h1, ks', h2, h3.imp (fun h5 h6 => h5 ((cmpK_lt _ _).2 h6)), h4⟩
  | panicked c => exact h.elim
  | outgrown => exact h.elim

theorem sortedFunc_at (l : List Ky) (b1 b : Nat) (w : World) (hn : l.Nodup) (hll : l.length ≤ 1000000) (h1 : Cells w ⟨b1, 0, none⟩ [.map (some b)]) (hM : MapL kvK evT w b (setL l)) :
    Calls Try.prog 44 #[.func (.func 55) #[] #[.pointer (some ⟨b1, 0, none⟩)], .func (.func 46) #[] #[]] w (Ret fun r w' => Ext [] w w' ∧ ∃ ks : List Ky, ks.Perm l ∧ ks.Pairwise (fun a b => ¬ lessK b a) ∧ OwnK w.heap.size w' r ks) := by
  refine calls_of_Sx (args := [.func (.func 55) #[] #[.pointer (some ⟨b1, 0, none⟩)], .func (.func 46) #[] #[]]) Try.func44 rfl rfl ?_
  (repeat refine Sx.seq ?_)
  refine Sx.textR ?_
  refine Ox.pure rfl rfl (rp_assign rfl rfl) ?_
  refine Ox.nil ?_
  (repeat first | refine thenE_normal ?_ | refine blockE_normal ?_ | refine scopeE_normal ?_)
  (repeat refine Sx.seq ?_)
  refine Sx.textR ?_
  refine Ox.pure rfl rfl (rp_move rfl rfl) ?_
  refine Ox.act rfl rfl (acts_call rfl rfl rfl (collect_at l b1 b _ hn hll (h1.ext0 (by (repeat first | exact .refl _ _ | assumption | refine .trans ?_ (by assumption)); first | done | fail)) (hM.ext0 (by (repeat first | exact .refl _ _ | assumption | refine .trans ?_ (by assumption)); first | done | fail)))) ?_
  rintro v1 w1 ⟨e1, ks, hperm, hO⟩
  have hz1 := e1.size
  have hkl := hperm.length_eq
  obtain ⟨p, c, A, rfl, hsv, _⟩ := SlV.of_own hO (by omega)
  refine Ox.pure rfl rfl (rp_assign rfl rfl) ?_
  refine Ox.nil ?_
  (repeat first | refine thenE_normal ?_ | refine blockE_normal ?_ | refine scopeE_normal ?_)
  (repeat refine Sx.seq ?_)
  refine Sx.textR ?_
  refine Ox.pure rfl rfl (rp_move rfl rfl) ?_
  refine Ox.pure rfl rfl (rp_move rfl rfl) ?_
  refine Ox.act rfl rfl (acts_call rfl rfl rfl (sortK_at ks w.heap.size p c _ (own_keep0 hO (by (repeat first | exact .refl _ _ | assumption | refine .trans ?_ (by assumption)); first | done | fail)) (by omega))) ?_
  rintro vso wso ⟨qso, ks', hperm2, hsort, hO2⟩
  refine Ox.nil ?_
  (repeat first | refine thenE_normal ?_ | refine blockE_normal ?_ | refine scopeE_normal ?_)
  (repeat refine Sx.seq ?_)
  refine Sx.textR ?_
  refine Ox.pure rfl rfl (rp_move rfl rfl) ?_
  refine Ox.pure rfl rfl (rp_assign rfl rfl) ?_
  refine Ox.nil ?_
  (repeat first | refine thenE_normal ?_ | refine blockE_normal ?_ | refine scopeE_normal ?_)
  (repeat refine Sx.seq ?_); refine Sx.ret ?_
  (repeat first | refine thenE_ret ?_ | refine blockE_ret ?_ | refine scopeE_ret ?_)
  have hkl2 := hperm2.length_eq
  refine endE_ret [_] ⟨rfl, trivial⟩ ⟨Ext.join (X := []) (by (repeat first | exact .refl _ _ | assumption | refine .trans ?_ (by assumption)); first | done | fail) qso (fun y hy => .inr (own_lt hO y hy).1), ks', hperm2.trans hperm, hsort, ?_⟩
  exact hO2

end Go.Proofs.Ytfnekbnlokigcaa
