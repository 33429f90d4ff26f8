/- The facts' walks: the facts up to a time. -/
import Derived.Test.YtfnekbnlokigcaaRows
import Derived.Test.YtfnekbnlokigcaaFactJ
set_option linter.unusedVariables false
set_option maxRecDepth 100000
set_option maxHeartbeats 4000000
set_option linter.unusedSimpArgs false
namespace Go.Proofs.Ytfnekbnlokigcaa
open Go Go.Eng

theorem filter_take_step {α : Type} {q : α → Bool} {l : List α} {j : Nat} (hj : j < l.length) : (l.take (j + 1)).filter q = (l.take j).filter q ++ (if q l[j] then [l[j]] else []) := by
  rw [← List.take_append_getElem hj, List.filter_append]
  congr 1
  by_cases h : q l[j] = true
  · rw [if_pos h, List.filter_cons_of_pos h]; rfl
  · rw [if_neg h, List.filter_cons_of_neg h]; rfl
theorem set_take {α : Type} {r : List α} {i : Nat} (hi : i < r.length) (a : α) : (r.set i a).take (i + 1) = r.take i ++ [a] := by
  have h2 : i < (r.set i a).length := by rw [List.length_set]; exact hi
  rw [← List.take_append_getElem h2, List.take_set_of_le (Nat.le_refl i), List.getElem_set_self]

/-- The facts up to a time. -/
def uptoL (l : List Fct) (known : Int) : List Fct := l.filter fun f => decide (f.known ≤ known)

end Go.Proofs.Ytfnekbnlokigcaa
