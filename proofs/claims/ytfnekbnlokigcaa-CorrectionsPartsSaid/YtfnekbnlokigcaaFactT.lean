/- The facts' law: the examples. -/
import Derived.Test.YtfnekbnlokigcaaRows
import Derived.Test.YtfnekbnlokigcaaFactS
set_option linter.unusedVariables false
set_option maxRecDepth 100000
set_option maxHeartbeats 4000000
set_option linter.unusedSimpArgs false
namespace Go.Proofs.Ytfnekbnlokigcaa
open Go Go.Eng

abbrev k0 : Ky := ⟨3, 4, 9⟩
abbrev g1 : Fct := ⟨⟨3, 4, 9⟩, 7, 2, 6, 10, 0⟩
abbrev g2 : Fct := ⟨⟨3, 4, 9⟩, -1, 3, 4, 20, 0⟩
abbrev g3 : Fct := ⟨⟨3, 4, 9⟩, 7, 2, 6, 20, 0⟩
theorem n1 : atL [g1, g2] k0 3 15 = (7, true) := by decide +kernel
theorem n2 : atL [g1, g2] k0 3 20 = (0, false) := by decide +kernel
theorem n3 : atL [g1, g2] k0 2 20 = (7, true) := by decide +kernel
theorem n4 : atL [] k0 0 0 = (0, false) := by decide +kernel
theorem n5 : addL [g1] g2 = ([g1, g2], 0) := by decide +kernel
theorem n6 : (addL [g1, g2] g3).2 = 41 := by decide +kernel
theorem n7 : changedL [g1, g2] 15 20 = [(k0, [(3, 4)])] := by decide +kernel
theorem n8 : checkL [zF] = 40 := by decide +kernel
theorem n9 : checkL [g1, g2] = 0 := by decide +kernel
theorem n10 : (pointsL [g1, g2] k0 5 5 20).length = 0 := by decide +kernel
theorem n11 : alikeL [g1, g2] [] 1 2 = true := by decide +kernel
theorem n12 : alikeL [g1, g2] [⟨k0, 0, 9⟩] 15 20 = false := by decide +kernel
theorem n13 : (pointsL [g1, g2] k0 0 9 20).length = 3 := by decide +kernel
theorem n14 : uptoL [g1, g2] 19 = [g1] := by decide +kernel

end Go.Proofs.Ytfnekbnlokigcaa
