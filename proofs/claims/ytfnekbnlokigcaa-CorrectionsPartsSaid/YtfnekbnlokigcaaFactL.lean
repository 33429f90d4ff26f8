/- The facts' walks: what was read. -/
import Derived.Test.YtfnekbnlokigcaaRows
import Derived.Test.YtfnekbnlokigcaaFactK
set_option linter.unusedVariables false
set_option maxRecDepth 100000
set_option maxHeartbeats 4000000
set_option linter.unusedSimpArgs false
namespace Go.Proofs.Ytfnekbnlokigcaa
open Go Go.Eng

structure Rd where
  key : Ky
  lo : Int
  hi : Int
abbrev rc (r : Rd) : List Value := [.int .i64 r.key.k, .int .i64 r.key.s, .int .i64 r.key.o, .int .i64 r.lo, .int .i64 r.hi]
theorem rc_len (r : Rd) : (rc r).length = 5 := rfl
theorem rc_one (r : Rd) : ∀ u ∈ rc r, u.oneCell' = true := by simp [rc, Value.oneCell']
def alike1 (l : List Fct) (r : Rd) (bef aft : Int) : Prop := pointsL l r.key r.lo r.hi bef = pointsL l r.key r.lo r.hi aft
instance (l : List Fct) (r : Rd) (bef aft : Int) : Decidable (alike1 l r bef aft) := inferInstanceAs (Decidable (_ = _))
def alikeL (l : List Fct) (reads : List Rd) (bef aft : Int) : Bool := reads.all fun r => decide (alike1 l r bef aft)
theorem all_take_step {α : Type} {q : α → Bool} {l : List α} {i : Nat} (hi : i < l.length) (h : (l.take i).all q = true) (h2 : q l[i] = true) : (l.take (i + 1)).all q = true := by
  rw [← List.take_append_getElem hi, List.all_append, h]; simp [h2]
theorem all_no {α : Type} {q : α → Bool} {l : List α} {i : Nat} (hi : i < l.length) (h2 : q l[i] = false) : l.all q = false := by
  rw [Bool.eq_false_iff]; intro h
  have := List.all_eq_true.1 h _ (List.getElem_mem hi)
  rw [h2] at this; cases this

end Go.Proofs.Ytfnekbnlokigcaa
