/- The engine, part twelve: a slice of structs is sorted. -/
import Derived.Test.YtfnekbnlokigcaaEngU
import Derived.Shelf.SlSortCmp.NoneTotal
set_option linter.unusedVariables false
set_option linter.unusedSimpArgs false
namespace Go.Eng
open Go Go.Sort Go.Shelf

theorem Ext.grows {w w' : World} (h : Ext [] w w') : ∃ q os, w' = grow (w.drewN q) os := by
  refine ⟨w'.drawn - w.drawn, w'.heap.extract w.heap.size w'.heap.size, ?_⟩
  have h1 : w'.heap = w.heap ++ w'.heap.extract w.heap.size w'.heap.size := by
    apply Array.ext_getElem?
    intro k
    rw [Array.getElem?_append]
    split
    · rename_i hk
      exact h.keep k hk (by simp)
    · rename_i hk
      rw [Array.getElem?_extract]
      have := h.size
      by_cases hk2 : k < w'.heap.size
      · rw [if_pos (by omega)]; congr 1; omega
      · rw [if_neg (by omega)]; exact Array.getElem?_eq_none (by omega)
  have h2 := h.drawn
  unfold grow World.drewN
  show w' = { heap := w.heap ++ w'.heap.extract w.heap.size w'.heap.size, tape := w.tape, drawn := w.drawn + (w'.drawn - w.drawn), os := w.os, output := w.output }
  rw [← h1, show w.drawn + (w'.drawn - w.drawn) = w'.drawn by omega, ← h.tape, ← h.os, ← h.output]

section
variable {α : Type} [Inhabited α] {enc : α → List Value} {k : Nat}

theorem flatK_rows (h : ∀ a, (enc a).length = k) (d : Array α) : flatK enc k d = (rowsV enc d.toList).toArray := by
  refine ext_get! (by simp [rowsV_length h]) fun t ht => ?_
  have ht' : t < d.size * k := by simpa using ht
  have k0 : 0 < k := by rcases Nat.eq_zero_or_pos k with h | h; · subst h; simp at ht'
                        · exact h
  have hi : t / k < d.size := Nat.div_lt_of_lt_mul (by rwa [Nat.mul_comm] at ht')
  have hr : t % k < k := Nat.mod_lt _ k0
  have hrow := rowsV_at h (l := d.toList) (i := t / k) (by simpa using hi)
  have h5 : t / k * k + t % k = t := by rw [Nat.mul_comm]; exact Nat.div_add_mod t k
  have h6 := congrArg (fun x => x[t % k]?) hrow
  simp only [List.getElem?_take_of_lt hr, List.getElem?_drop, h5] at h6
  rw [get_flatK _ _ _ _ ht']
  have hlt : t < (rowsV enc d.toList).length := by rw [rowsV_length h]; simpa using ht'
  have hlt2 : t % k < (enc d[t / k]).length := by rw [h]; exact hr
  rw [getElem!_pos d _ hi, getElem!_pos (enc d[t / k]) _ hlt2, getElem!_pos _ t (by simpa using hlt)]
  simp only [List.getElem_toArray]
  simp only [Array.getElem_toList, List.getElem?_eq_getElem hlt, List.getElem?_eq_getElem hlt2, Option.some.injEq] at h6
  exact h6.symm

variable {w : World} {g : Nat} {e : TypeId} {cs : List Value}

theorem holdsK_of_blk (h : ∀ a, (enc a).length = k) {l : List α} (hB : Blk w g e (rowsV enc l ++ cs)) : HoldsK enc k w g 0 l.toArray := by
  intro j hj
  rw [flatK_rows h] at hj ⊢
  have hj' : j < (rowsV enc l).length := by simpa using hj
  unfold Blk at hB
  refine ⟨?_, ?_⟩
  · unfold World.cell?
    simp only [hB, Nat.zero_add, Option.isSome_none, Bool.false_eq_true, if_false]
    rw [getElem!_pos _ j hj]
    simp [List.getElem?_append_left hj', List.getElem?_eq_getElem hj']
  · unfold World.frozen?
    simp [hB]

theorem blk_sortWorld (h : ∀ a, (enc a).length = k) {l : List α} {d' : Array α} (hd : d'.size = l.length) (hB : Blk w g e (rowsV enc l ++ cs)) (n : Nat) (os : Array Obj) : Blk (Go.Proofs.sortWorldK enc k w g 0 n d' os) g e (rowsV enc d'.toList ++ cs) := by
  have hlt := hB.lt
  unfold Go.Proofs.sortWorldK putRowK putRow mapBlock Go.Sort.ahead Go.Sort.grow Blk
  rw [flatK_rows h]
  simp only
  rw [Array.getElem?_append_left (by simpa using hlt), Array.getElem?_modify, if_pos rfl]
  unfold Blk at hB
  rw [hB]
  simp only [Option.map_some, onCells, Option.some.injEq, Obj.cells.injEq, and_true]
  have h1 := rowsV_length h l
  have h2 := rowsV_length h d'.toList
  have h3 : d'.toList.length = l.length := by simpa using hd
  apply Array.ext_getElem?
  intro j
  unfold putCells
  simp only [Array.getElem?_mapIdx, List.getElem?_toArray, Nat.zero_le, true_and, Nat.zero_add, List.size_toArray, Nat.sub_zero, id]
  by_cases hj : j < (rowsV enc d'.toList).length
  · rw [List.getElem?_append_left (by rw [h1, ← h3, ← h2]; exact hj), List.getElem?_append_left hj, List.getElem?_eq_getElem hj, List.getElem?_eq_getElem (by rw [h1, ← h3, ← h2]; exact hj), Option.map_some, if_pos hj, getElem!_pos _ j (by simpa using hj)]
    simp
  · rw [List.getElem?_append_right (by rw [h1, ← h3, ← h2]; omega), List.getElem?_append_right (by omega), show (rowsV enc l).length = (rowsV enc d'.toList).length by rw [h1, h2, h3]]
    cases cs[j - (rowsV enc d'.toList).length]? with
    | none => rfl
    | some v => simp [if_neg hj]

theorem ext_sortWorld (n : Nat) (d' : Array α) (os : Array Obj) : Ext [g] w (Go.Proofs.sortWorldK enc k w g 0 n d' os) := by
  unfold Go.Proofs.sortWorldK putRowK putRow mapBlock Go.Sort.ahead Go.Sort.grow
  refine ⟨rfl, rfl, rfl, by simp, fun j hj hx => ?_, by simp⟩
  simp only
  rw [Array.getElem?_append_left (by simpa using hj), Array.getElem?_modify, if_neg (fun h => hx (by simp [h]))]

theorem pairwise_of_sortedIn {lt : α → α → Bool} {d : Array α} (h : SortedIn lt 0 d.size d) : d.toList.Pairwise fun a b => lt b a = false := by
  rw [List.pairwise_iff_getElem]
  intro i j hi hj hij
  have := h i j (Nat.zero_le _) hij (by simpa using hj)
  rw [getElem!_pos d i (by simpa using hi), getElem!_pos d j (by simpa using hj)] at this
  simpa using this

/-- slices.SortFunc at a row of one's own. -/
theorem sort_own {P : Program} {ρ : Ren} (L : Go.Proofs.SlLaysF0.n6 P ρ) (hA : aggOf P (ρ.t 24) = some true) (hZ : szOf P (ρ.t 24) = some k) (hk : ∀ a, (enc a).length = k) (h1 : ∀ a, ∀ u ∈ enc a, u.oneCell' = true) (cf : α → α → Int) (hO : SWO (Go.Proofs.ltOf cf))
    (gf : FuncId) (cb : Array Value) (hg : callable P gf = true) {base : Nat} {e : TypeId} {l : List α} {p : Option Addr} {c : Nat} {w : World} (ho : w.ownsRow base e k (.slice p l.length c) l.length (rowsV enc l)) (hfew : l.length < 4611686018427387904)
    (hcmp : ∀ x y W, Ext (Value.slice p l.length c).ownBlock.toList w W → Calls P gf (#[.agg (enc x).toArray, .agg (enc y).toArray] ++ cb) W (Ret fun r W' => Ext [] W W' ∧ r = .int .i64 (cf x y))) :
    Calls P (ρ.f 6) #[.slice p l.length c, .func (.func gf) #[] cb] w (Ret fun r w' => Ext (Value.slice p l.length c).ownBlock.toList w w' ∧ ∃ l' : List α, l'.Perm l ∧ l'.Pairwise (fun a b => ¬ cf b a < 0) ∧ w'.ownsRow base e k (.slice p l.length c) l'.length (rowsV enc l')) := by
  rcases Nat.eq_zero_or_pos l.length with h0 | h0
  · obtain rfl := List.eq_nil_of_length_eq_zero h0
    refine (Go.Proofs.AnyF.slices_SortFunc_none L p c _ w).mono ?_
    rintro ev w' ⟨rfl, rfl⟩
    exact ⟨Ext.refl _ _, [], .refl _, List.Pairwise.nil, ho⟩
  · obtain ⟨g, cap, cs, he, hb, hB, hl, hkc, hcc, hxl⟩ := own_blk ho h0
    simp only [Value.slice.injEq, true_and] at he
    obtain ⟨rfl, rfl⟩ := he
    have hX : (Value.slice (some ⟨g, 0, none⟩) l.length c).ownBlock.toList = [g] := rfl
    rw [hX] at hcmp ⊢
    have hsz : l.toArray.size = l.length := by simp
    have hcon := Go.Proofs.AnyQ.slices_SortFunc L k (fun W => run_agg hA W) (fun W => run_szOf hZ W) enc hk h1 cf hO gf cb g 0 c l.toArray w (fun args W => run_callFunc hg args W)
      (fun m os dk hdk x y => ((hcmp x y _ (ext_sortWorld m dk os)).mono fun ev W' hr => by
        cases ev with
        | returned v => obtain ⟨h5, rfl⟩ := hr; exact ⟨rfl, h5.grows⟩
        | panicked c => exact hr.elim
        | outgrown => exact hr.elim)) (holdsK_of_blk hk hB) hB.lt (by rw [hsz]; exact hfew)
    rw [hsz] at hcon
    refine hcon.mono ?_
    rintro ev w' ⟨rfl, d', n, os, hp, hs, rfl⟩
    have hd : d'.size = l.length := by rw [hp.1, hsz]
    refine ⟨ext_sortWorld n d' os, d'.toList, ?_, ?_, ?_⟩
    · have := hp.2.2
      have h2 : d'.extract 0 l.length = d' := by rw [← hd]; simp
      have h3 : l.toArray.extract 0 l.length = l.toArray := by simp
      rw [h2, h3] at this
      simpa using this
    · rw [← hd] at hs
      refine (pairwise_of_sortedIn hs).imp fun h => ?_
      simpa [Go.Proofs.ltOf] using h
    · have hB' := blk_sortWorld hk hd hB n os
      have h5 : d'.toList.length = l.length := by simpa using hd
      rw [h5]
      refine blk_own hb hB' ?_ hkc hcc (by rw [rowsV_length hk, h5])
      rw [List.length_append, rowsV_length hk, h5, ← rowsV_length hk, ← List.length_append]; exact hl

end
end Go.Eng
