/- The facts' walks: points. -/
import Derived.Test.YtfnekbnlokigcaaRows
import Derived.Test.YtfnekbnlokigcaaFactI
set_option linter.unusedVariables false
set_option maxRecDepth 100000
set_option maxHeartbeats 4000000
set_option linter.unusedSimpArgs false
namespace Go.Proofs.Ytfnekbnlokigcaa
open Go Go.Eng

/-- The points of n days from d on. -/
def ptsN (g : Int → Int × Bool) : Int → Nat → List Pt
  | _, 0 => []
  | d, n + 1 => (if (g d).2 then [(d, (g d).1)] else []) ++ ptsN g (d + 1) n
theorem ptsN_step (g : Int → Int × Bool) {d e : Int} (h : d < e) : ptsN g d (e - d).toNat = (if (g d).2 then [(d, (g d).1)] else []) ++ ptsN g (d + 1) (e - (d + 1)).toNat := by
  rw [show (e - d).toNat = (e - (d + 1)).toNat + 1 by omega, ptsN]
theorem ptsN_end (g : Int → Int × Bool) {d e : Int} (h : ¬ d < e) : ptsN g d (e - d).toNat = [] := by
  rw [show (e - d).toNat = 0 by omega, ptsN]
def pointsL (l : List Fct) (k : Ky) (lo hi known : Int) : List Pt := ptsN (fun d => atL l k d known) (max 0 lo) (min hi 1024 - max 0 lo).toNat
theorem ptsN_le (g : Int → Int × Bool) : ∀ (n : Nat) (d : Int), (ptsN g d n).length ≤ n
  | 0, d => by simp [ptsN]
  | n + 1, d => by
    rw [ptsN, List.length_append]
    have := ptsN_le g n (d + 1)
    split <;> simp <;> omega
theorem pointsL_le (l : List Fct) (k : Ky) (lo hi known : Int) : (pointsL l k lo hi known).length ≤ 1024 := by
  have := ptsN_le (fun d => atL l k d known) (min hi 1024 - max 0 lo).toNat (max 0 lo)
  unfold pointsL; omega

end Go.Proofs.Ytfnekbnlokigcaa
