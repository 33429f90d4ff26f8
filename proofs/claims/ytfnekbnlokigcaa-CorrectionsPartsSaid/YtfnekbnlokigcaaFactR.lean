/- Plain: the keys of facts, sorted. No program in sight. -/
import Derived.Test.YtfnekbnlokigcaaEngU
import Derived.Test.YtfnekbnlokigcaaFactM
set_option linter.unusedVariables false
set_option linter.unusedSimpArgs false
namespace Go.Proofs.Ytfnekbnlokigcaa
open Go Go.Eng

theorem insK_cons (x : Ky) (l : List Ky) (k : Ky) : insK (x :: l) k = if lessK x k then x :: insK l k else if x = k then x :: l else k :: x :: l := by
  by_cases h : lessK x k
  · have hp : placeOf (x :: l) k = placeOf l k + 1 := by
      unfold placeOf; rw [List.takeWhile_cons_of_pos (by simpa using h)]; rfl
    rw [if_pos h]
    unfold insK insAt
    rw [hp, List.getElem?_cons_succ]
    split
    · rfl
    · simp
  · have hp : placeOf (x :: l) k = 0 := by
      unfold placeOf; rw [List.takeWhile_cons_of_neg (by simpa using h)]; rfl
    rw [if_neg h]
    unfold insK insAt
    rw [hp]
    by_cases he : x = k
    · simp [he]
    · simp [he]
theorem mem_insK {y : Ky} : ∀ {l : List Ky} {k : Ky}, y ∈ insK l k ↔ y = k ∨ y ∈ l
  | [], k => by simp [insK, insAt, placeOf]
  | x :: l, k => by
    rw [insK_cons]
    split
    · rw [List.mem_cons, mem_insK (l := l), List.mem_cons]
      constructor
      · rintro (h | h | h)
        · exact .inr (.inl h)
        · exact .inl h
        · exact .inr (.inr h)
      · rintro (h | h | h)
        · exact .inr (.inl h)
        · exact .inl h
        · exact .inr (.inr h)
    · split
      · rename_i he
        subst he
        constructor
        · exact .inr
        · rintro (h | h)
          · simp [h]
          · exact h
      · rw [List.mem_cons]
theorem insK_sorted : ∀ {l : List Ky} {k : Ky}, l.Pairwise lessK → (insK l k).Pairwise lessK
  | [], k, _ => by simp [insK, insAt, placeOf]
  | x :: l, k, h => by
    obtain ⟨h1, h2⟩ := List.pairwise_cons.1 h
    rw [insK_cons]
    split
    · rename_i hx
      refine List.pairwise_cons.2 ⟨fun y hy => ?_, insK_sorted h2⟩
      rcases mem_insK.1 hy with rfl | hy
      · exact hx
      · exact h1 y hy
    · split
      · exact h
      · rename_i hx he
        have hkx := lessK_total hx he
        refine List.pairwise_cons.2 ⟨fun y hy => ?_, h⟩
        rcases List.mem_cons.1 hy with rfl | hy
        · exact hkx
        · exact lessK_trans hkx (h1 y hy)
theorem keysL_spec (l : List Fct) : (keysL l).Pairwise lessK ∧ ∀ k, k ∈ keysL l ↔ ∃ f ∈ l, f.key = k := by
  have key : ∀ (m : List Fct) (o : List Ky), o.Pairwise lessK → (m.foldl (fun o f => insK o f.key) o).Pairwise lessK ∧ ∀ k, k ∈ m.foldl (fun o f => insK o f.key) o ↔ k ∈ o ∨ ∃ f ∈ m, f.key = k := by
    intro m
    induction m with
    | nil => intro o ho; exact ⟨ho, fun k => by simp⟩
    | cons f m ih =>
      intro o ho
      obtain ⟨h1, h2⟩ := ih (insK o f.key) (insK_sorted ho)
      refine ⟨h1, fun k => ?_⟩
      rw [List.foldl_cons, h2, mem_insK]
      constructor
      · rintro ((h | h) | ⟨g, h3, h4⟩)
        · exact .inr ⟨f, by simp, h.symm⟩
        · exact .inl h
        · exact .inr ⟨g, by simp [h3], h4⟩
      · rintro (h | ⟨g, h3, h4⟩)
        · exact .inl (.inr h)
        · rcases List.mem_cons.1 h3 with rfl | h3
          · exact .inl (.inl h4.symm)
          · exact .inr ⟨g, h3, h4⟩
  obtain ⟨h1, h2⟩ := key l [] List.Pairwise.nil
  exact ⟨h1, fun k => by rw [show keysL l = l.foldl (fun o f => insK o f.key) [] from rfl, h2]; simp⟩

theorem sorted_nodup {l : List Ky} (h : l.Pairwise lessK) : l.Nodup := h.imp fun h e => by subst e; exact lessK_irrefl _ h
theorem sorted_unique {a b : List Ky} (ha : a.Pairwise lessK) (hb : b.Pairwise lessK) (h : ∀ k, k ∈ a ↔ k ∈ b) : a = b := by
  have hp : a.Perm b := (List.perm_ext_iff_of_nodup (sorted_nodup ha) (sorted_nodup hb)).2 h
  exact hp.eq_of_pairwise (le := lessK) (fun x y _ _ h1 h2 => absurd (lessK_trans h1 h2) (lessK_irrefl x)) ha hb

/-- The map of the keys. -/
def keyM (l : List Fct) : List (Ky × Unit) := l.foldl (fun m f => putL m f.key ()) []
theorem keyM_take {l : List Fct} {i : Nat} (hi : i < l.length) : keyM (l.take (i + 1)) = putL (keyM (l.take i)) l[i].key () := by
  unfold keyM
  rw [← List.take_append_getElem hi, List.foldl_append]; rfl
theorem putL_fst (m : List (Ky × Unit)) (k : Ky) : (putL m k ()).map Prod.fst = if k ∈ m.map Prod.fst then m.map Prod.fst else m.map Prod.fst ++ [k] := by
  unfold putL
  cases h : Eng.look m k with
  | none =>
    have h1 := look_none.1 h
    rw [if_neg (fun hm => by obtain ⟨x, hx, rfl⟩ := List.mem_map.1 hm; exact h1 x hx rfl)]
    simp
  | some r =>
    obtain ⟨h1, h2⟩ := look_some h
    rw [if_pos (List.mem_map.2 ⟨m[r.1], List.getElem_mem h1, by rw [h2]⟩)]
    show (m.set r.1 (k, ())).map Prod.fst = _
    have : (k, ()) = m[r.1] := by rw [h2]
    rw [this, List.set_getElem_self]
theorem keyM_spec (l : List Fct) : ((keyM l).map Prod.fst).Nodup ∧ ∀ k, k ∈ (keyM l).map Prod.fst ↔ ∃ f ∈ l, f.key = k := by
  have key : ∀ (m : List Fct) (o : List (Ky × Unit)), (o.map Prod.fst).Nodup → ((m.foldl (fun o f => putL o f.key ()) o).map Prod.fst).Nodup ∧ ∀ k, k ∈ (m.foldl (fun o f => putL o f.key ()) o).map Prod.fst ↔ k ∈ o.map Prod.fst ∨ ∃ f ∈ m, f.key = k := by
    intro m
    induction m with
    | nil => intro o ho; exact ⟨ho, fun k => by simp⟩
    | cons f m ih =>
      intro o ho
      have hn : ((putL o f.key ()).map Prod.fst).Nodup := by
        rw [putL_fst]
        split
        · exact ho
        · rename_i hm
          rw [List.nodup_append]
          exact ⟨ho, by simp, fun a ha c hc => by simp only [List.mem_singleton] at hc; subst hc; rintro rfl; exact hm ha⟩
      obtain ⟨h1, h2⟩ := ih (putL o f.key ()) hn
      refine ⟨h1, fun k => ?_⟩
      rw [List.foldl_cons, h2, putL_fst]
      have hmem : k ∈ (if f.key ∈ o.map Prod.fst then o.map Prod.fst else o.map Prod.fst ++ [f.key]) ↔ k ∈ o.map Prod.fst ∨ f.key = k := by
        split
        · rename_i hm
          constructor
          · exact .inl
          · rintro (h | h)
            · exact h
            · exact h ▸ hm
        · rw [List.mem_append, List.mem_singleton]
          constructor
          · rintro (h | h)
            · exact .inl h
            · exact .inr h.symm
          · rintro (h | h)
            · exact .inl h
            · exact .inr h.symm
      rw [hmem]
      constructor
      · rintro ((h | h) | ⟨g, h3, h4⟩)
        · exact .inl h
        · exact .inr ⟨f, by simp, h⟩
        · exact .inr ⟨g, by simp [h3], h4⟩
      · rintro (h | ⟨g, h3, h4⟩)
        · exact .inl (.inl h)
        · rcases List.mem_cons.1 h3 with rfl | h3
          · exact .inl (.inr h4)
          · exact .inr ⟨g, h3, h4⟩
  obtain ⟨h1, h2⟩ := key l [] (by simp)
  exact ⟨h1, fun k => by rw [show keyM l = l.foldl (fun o f => putL o f.key ()) [] from rfl, h2]; simp⟩
theorem keyM_set (l : List Fct) : keyM l = ((keyM l).map Prod.fst).map fun k => (k, ()) := by
  rw [List.map_map]
  conv => lhs; rw [← List.map_id (keyM l)]
  exact List.map_congr_left fun x _ => by cases x; rfl
theorem keys_sorted {l : List Fct} {ks : List Ky} (hp : ks.Perm ((keyM l).map Prod.fst)) (hs : ks.Pairwise (fun a b => ¬ lessK b a)) : ks = keysL l := by
  obtain ⟨h1, h2⟩ := keyM_spec l
  obtain ⟨h3, h4⟩ := keysL_spec l
  have hn : ks.Nodup := hp.nodup_iff.2 h1
  refine sorted_unique ?_ h3 fun k => ?_
  · refine (hs.and hn).imp fun ⟨h5, h6⟩ => ?_
    exact lessK_total h5 (Ne.symm h6)
  · rw [hp.mem_iff, h2, h4]
theorem keyM_length (l : List Fct) : ((keyM l).map Prod.fst).length ≤ l.length := by
  have key : ∀ (m : List Fct) (o : List (Ky × Unit)), ((m.foldl (fun o f => putL o f.key ()) o).map Prod.fst).length ≤ o.length + m.length := by
    intro m
    induction m with
    | nil => intro o; simp
    | cons f m ih =>
      intro o
      have h1 := ih (putL o f.key ())
      have h2 : (putL o f.key ()).length ≤ o.length + 1 := by
        unfold putL; split <;> simp
      rw [List.foldl_cons]
      simp only [List.length_cons]
      omega
  have := key l []
  simp only [List.length_nil, Nat.zero_add] at this
  exact this

end Go.Proofs.Ytfnekbnlokigcaa
