/- The facts' walks: the reference's value on a day; lists held against each other. -/
import Derived.Test.YtfnekbnlokigcaaRows
import Derived.Test.YtfnekbnlokigcaaFactF
set_option linter.unusedVariables false
set_option maxRecDepth 100000
set_option maxHeartbeats 4000000
set_option linter.unusedSimpArgs false
namespace Go.Proofs.Ytfnekbnlokigcaa
open Go Go.Eng

theorem bestL_take {l : List Fct} {k : Ky} {day known : Int} {i : Nat} (hi : i < l.length) : bestL (l.take (i + 1)) k day known = if l[i].key = k ∧ l[i].known ≤ known then dayStep day (bestL (l.take i) k day known) l[i] else bestL (l.take i) k day known := by
  unfold bestL
  rw [ofL_take hi, List.foldl_append]
  by_cases h : l[i].key = k ∧ l[i].known ≤ known
  · rw [if_pos h, if_pos h]; rfl
  · rw [if_neg h, if_neg h]; rfl

/-- Where the one that counts lies. -/
def BestAt (l : List Fct) (k : Ky) (day known : Int) (i : Nat) (b : Int) : Prop :=
  (b = -1 ∧ bestL (l.take i) k day known = none) ∨ ∃ j, ∃ h : j < l.length, b = (j : Int) ∧ j < i ∧ bestL (l.take i) k day known = some l[j]

theorem ld_field {α : Type} {enc : α → List Value} {m : Nat} (h : ∀ a, (enc a).length = m) {P : Program} {w : World} {t : TypeId} {A : Addr} {l : List α} (hc : Cells w A (rowsV enc l)) {i : Nat} (hi : i < l.length) (off : Nat) {v : Value} (ht : aggOf P t = some false) (ho : off < m) (hv : (enc l[i])[off]? = some v) : Ld P w t (A.add (i * m + off)) v := by
  refine hc.ld (i * m + off) ht ?_
  have := rowsV_at h hi
  rw [← this, List.getElem?_take_of_lt ho, List.getElem?_drop] at hv
  exact hv

end Go.Proofs.Ytfnekbnlokigcaa
