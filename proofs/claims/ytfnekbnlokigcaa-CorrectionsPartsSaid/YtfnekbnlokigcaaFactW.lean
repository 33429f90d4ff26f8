/- Arguments: reads. -/
import Derived.Test.YtfnekbnlokigcaaRows
import Derived.Test.YtfnekbnlokigcaaFactU
set_option linter.unusedVariables false
set_option maxRecDepth 100000
set_option linter.unusedSimpArgs false
namespace Go.Proofs.Ytfnekbnlokigcaa
open Go Go.Eng

def OkRd (r : Rd) : Prop := OkKy r.key ∧ in64 r.lo ∧ in64 r.hi

section
variable {H : Type} {enc : TypeId × Value → H} {W : World} {sp : Nat → Bool} {base fuel : Nat} {cs : List Value} {x : DataW H × List MemPlace}
end

theorem changedL_days {l : List Fct} {bef aft : Int} {x : Dv} (h : x ∈ changedL l bef aft) : x.2.length ≤ 1024 := by
  unfold changedL at h
  obtain ⟨k, _, h2⟩ := List.mem_flatMap.1 h
  unfold entryL at h2
  split at h2
  · simp only [List.mem_singleton] at h2
    subst h2
    exact daysTo_le l k bef aft 1024
  · cases h2
theorem days_of {ds : List Df} {l : List Fct} {bef aft : Int} (h : ds.map Df.val = changedL l bef aft) : ∀ d ∈ ds, d.days.length ≤ 1024 := fun d hd => by
  have : d.val ∈ changedL l bef aft := by rw [← h]; exact List.mem_map.2 ⟨d, hd, rfl⟩
  exact changedL_days this

end Go.Proofs.Ytfnekbnlokigcaa
