/- The facts' walks: what differs. -/
import Derived.Test.YtfnekbnlokigcaaRows
import Derived.Test.YtfnekbnlokigcaaFactM
set_option linter.unusedVariables false
set_option maxRecDepth 100000
set_option maxHeartbeats 4000000
set_option linter.unusedSimpArgs false
namespace Go.Proofs.Ytfnekbnlokigcaa
open Go Go.Eng

def diffL (l : List Fct) (k : Ky) (bef aft : Int) (day : Int) : Prop := atL l k day bef ≠ atL l k day aft
instance (l : List Fct) (k : Ky) (bef aft day : Int) : Decidable (diffL l k bef aft day) := inferInstanceAs (Decidable (¬ (_ = _)))

/-! ## Differences as they lie -/
structure Df where
  key : Ky
  days : List Pt
  p : Option Addr
  c : Nat
abbrev dfc (d : Df) : List Value := [.int .i64 d.key.k, .int .i64 d.key.s, .int .i64 d.key.o, .slice d.p d.days.length d.c]
theorem dfc_len (d : Df) : (dfc d).length = 4 := rfl
theorem dfc_one (d : Df) : ∀ u ∈ dfc d, u.oneCell' = true := by simp [dfc, Value.oneCell']
abbrev Dv := Ky × List Pt
def Df.val (d : Df) : Dv := (d.key, d.days)
def DfIn (w : World) (l : List Df) : Prop := ∀ d ∈ l, ∃ A, SlV pc w d.p A d.days d.c
theorem DfIn.ext0 {w w' : World} {l : List Df} (h : DfIn w l) (he : Ext [] w w') : DfIn w' l := fun d hd => (h d hd).imp fun _ hs => hs.ext0 he

theorem ld_sub {α : Type} {enc : α → List Value} {m : Nat} (h : ∀ a, (enc a).length = m) {P : Program} {w : World} {t : TypeId} {A : Addr} {l : List α} (hc : Cells w A (rowsV enc l)) {i : Nat} (hi : i < l.length) (off : Nat) {sub : List Value} (ht : aggOf P t = some true) (hm : szOf P t = some sub.length) (ho : off + sub.length ≤ m) (hv : ((enc l[i]).drop off).take sub.length = sub) : Ld P w t (A.add (i * m + off)) (.agg sub.toArray) := by
  refine hc.ldP (i * m + off) ht hm ?_ rfl
  have := rowsV_at h hi
  rw [← this] at hv
  rw [List.drop_take, List.drop_drop, List.take_take, Nat.min_eq_left (by omega)] at hv
  exact hv

theorem eqSp (a b : Pt) (w : World) : (Op.equalIn (9999 + 1) 55 (.agg (pc a).toArray) (.agg (pc b).toArray)).run Try.prog w = .ok (decide (a = b)) w := by
  rw [eqs rfl (by kernel_rfl) (eqf_int (by decide) rfl rfl rfl rfl (eqf_int (by decide) rfl rfl rfl rfl (eqf_nil _ _ _ _)))]
  obtain ⟨a1, a2⟩ := a
  obtain ⟨b1, b2⟩ := b
  simp [Bool.decide_and]
theorem egSp : Try.prog.eqGuardType Try.prog.depth 55 = false := by kernel_rfl

theorem map_take_step {α β : Type} {f : α → β} {l m : List α} {i : Nat} (h1 : i < l.length) (h2 : i < m.length) (h : (l.take i).map f = (m.take i).map f) (he : f l[i] = f m[i]) : (l.take (i + 1)).map f = (m.take (i + 1)).map f := by
  rw [← List.take_append_getElem h1, ← List.take_append_getElem h2, List.map_append, List.map_append, h]
  simp [he]
theorem map_ne_at {α β : Type} {f : α → β} {l m : List α} {i : Nat} (h1 : i < l.length) (h2 : i < m.length) (he : f l[i] ≠ f m[i]) : l.map f ≠ m.map f := fun h => he (by
  have := congrArg (fun x => x[i]?) h
  simpa [h1, h2] using this)

end Go.Proofs.Ytfnekbnlokigcaa
