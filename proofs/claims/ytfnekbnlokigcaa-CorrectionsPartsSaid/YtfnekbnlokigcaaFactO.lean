/- The facts' walks: what has changed, by the reference. -/
import Derived.Test.YtfnekbnlokigcaaRows
import Derived.Test.YtfnekbnlokigcaaFactN
set_option linter.unusedVariables false
set_option maxRecDepth 100000
set_option maxHeartbeats 4000000
set_option linter.unusedSimpArgs false
namespace Go.Proofs.Ytfnekbnlokigcaa
open Go Go.Eng

/-! ## Days that are joined -/
def dayAdd (days : List Pt) (j : Nat) : List Pt :=
  if h : 0 < days.length then
    if (days[days.length - 1]'(by omega)).2 = (j : Int) then days.set (days.length - 1) ((days[days.length - 1]'(by omega)).1, (j : Int) + 1) else days ++ [((j : Int), (j : Int) + 1)]
  else days ++ [((j : Int), (j : Int) + 1)]
theorem dayAdd_join {days : List Pt} {j : Nat} (h : 0 < days.length) (he : (days[days.length - 1]'(by omega)).2 = (j : Int)) : dayAdd days j = days.set (days.length - 1) ((days[days.length - 1]'(by omega)).1, (j : Int) + 1) := by
  unfold dayAdd; rw [dif_pos h, if_pos he]
theorem dayAdd_new {days : List Pt} {j : Nat} (he : ∀ h : 0 < days.length, (days[days.length - 1]'(by omega)).2 ≠ (j : Int)) : dayAdd days j = days ++ [((j : Int), (j : Int) + 1)] := by
  unfold dayAdd
  by_cases h : 0 < days.length
  · rw [dif_pos h, if_neg (he h)]
  · rw [dif_neg h]
theorem dayAdd_length (days : List Pt) (j : Nat) : (dayAdd days j).length ≤ days.length + 1 := by
  unfold dayAdd
  split
  · split <;> simp
  · simp
def daysTo (l : List Fct) (k : Ky) (bef aft : Int) : Nat → List Pt
  | 0 => []
  | j + 1 => if diffL l k bef aft (j : Int) then dayAdd (daysTo l k bef aft j) j else daysTo l k bef aft j
theorem daysTo_le (l : List Fct) (k : Ky) (bef aft : Int) : ∀ j, (daysTo l k bef aft j).length ≤ j
  | 0 => by simp [daysTo]
  | j + 1 => by
    have := daysTo_le l k bef aft j
    have h2 := dayAdd_length (daysTo l k bef aft j) j
    unfold daysTo
    split <;> omega
def entryL (l : List Fct) (bef aft : Int) (k : Ky) : List Dv := if 0 < (daysTo l k bef aft 1024).length then [(k, daysTo l k bef aft 1024)] else []
def changedL (l : List Fct) (bef aft : Int) : List Dv := (keysL l).flatMap (entryL l bef aft)
theorem flatMap_take_step {α β : Type} {f : α → List β} {l : List α} {i : Nat} (hi : i < l.length) : (l.take (i + 1)).flatMap f = (l.take i).flatMap f ++ f l[i] := by
  rw [← List.take_append_getElem hi, List.flatMap_append]; simp

abbrev OwnSp (base : Nat) (w : World) (v : Value) (l : List Pt) : Prop := w.ownsRow base 55 2 v l.length (rowsV pc l)
structure OwnD (base : Nat) (w : World) (v : Value) (l : List Df) : Prop where
  row : w.ownsRow base 70 4 v l.length (rowsV dfc l)
  days : ∀ d ∈ l, OwnSp base w (.slice d.p d.days.length d.c) d.days
theorem OwnD.ext {base : Nat} {w w' : World} {v : Value} {l : List Df} (h : OwnD base w v l) (he : Ext [] w w') : OwnD base w' v l := ⟨own_keep0 h.row he, fun d hd => own_keep0 (h.days d hd) he⟩
theorem OwnD.snoc {base : Nat} {w w' : World} {v v' : Value} {l : List Df} {d : Df} (h : OwnD base w v l) (hg : Grew base 70 4 w v (l.length + 1) (rowsV dfc l ++ dfc d) v' w') (hd : OwnSp base w (.slice d.p d.days.length d.c) d.days) : OwnD base w' v' (l ++ [d]) := by
  refine ⟨?_, fun x hx => ?_⟩
  · have := hg.own
    rw [List.length_append, rowsV_append, rowsV_one]
    exact this
  · have hx' : OwnSp base w (.slice x.p x.days.length x.c) x.days := by
      rcases List.mem_append.1 hx with h1 | h1
      · exact h.days x h1
      · rw [List.mem_singleton.1 h1]; exact hd
    exact own_keep hx' hg.ext (fun g hg2 hm => own_apart hx' h.row (by decide) g hg2 (by simpa using hm))
theorem OwnD.sl {base : Nat} {w : World} {v : Value} {l : List Df} (h : OwnD base w v l) (hl : l.length ≤ 1000000) (hd : ∀ d ∈ l, d.days.length ≤ 1024) : ∃ p cap A, v = .slice p l.length cap ∧ SlV dfc w p A l cap ∧ DfIn w l := by
  obtain ⟨p, cap, A, rfl, hs, _⟩ := SlV.of_own h.row (by omega)
  refine ⟨p, cap, A, rfl, hs, fun d hm => ?_⟩
  obtain ⟨p', c', A', he, hs', _⟩ := SlV.of_own (h.days d hm) (by have := hd d hm; omega)
  simp only [Value.slice.injEq, true_and] at he
  obtain ⟨rfl, rfl⟩ := he
  exact ⟨A', hs'⟩

end Go.Proofs.Ytfnekbnlokigcaa
