/- Facts: plain laws about what is computed, no program in sight. -/
import Derived.Test.YtfnekbnlokigcaaFactR
import Derived.Test.YtfnekbnlokigcaaFactO
import Derived.Test.YtfnekbnlokigcaaFactL
set_option linter.unusedVariables false
set_option maxRecDepth 100000
set_option linter.unusedSimpArgs false
namespace Go.Proofs.Ytfnekbnlokigcaa
open Go Go.Eng

/-! ## Earlier knowledge -/
theorem ofL_upto (l : List Fct) (k : Ky) {known later : Int} (h : known ≤ later) : ofL (uptoL l known) k later = ofL l k known := by
  unfold ofL uptoL
  rw [List.filter_filter]
  refine List.filter_congr fun f _ => ?_
  rw [← Bool.decide_and]
  exact decide_eq_decide.2 ⟨fun ⟨⟨a, _⟩, c⟩ => ⟨a, c⟩, fun ⟨a, c⟩ => ⟨⟨a, by omega⟩, c⟩⟩
theorem atL_upto (l : List Fct) (k : Ky) (day : Int) {known later : Int} (h : known ≤ later) : atL (uptoL l known) k day later = atL l k day known := by
  unfold atL bestL; rw [ofL_upto l k h]
theorem uptoL_le (l : List Fct) (known : Int) : (uptoL l known).length ≤ l.length := List.length_filter_le _ _

/-! ## Later facts -/
section
variable {l more : List Fct} {known : Int} (h : ∀ f ∈ more, known < f.known)
include h
theorem ofL_more (k : Ky) {t : Int} (ht : t ≤ known) : ofL (l ++ more) k t = ofL l k t := by
  unfold ofL
  have e : more.filter (fun f => decide (f.key = k ∧ f.known ≤ t)) = [] := List.filter_eq_nil_iff.2 (fun f hf => by have := h f hf; simp only [decide_eq_true_eq]; omega)
  rw [List.filter_append, e, List.append_nil]
theorem atL_more (k : Ky) (day : Int) {t : Int} (ht : t ≤ known) : atL (l ++ more) k day t = atL l k day t := by
  unfold atL bestL; rw [ofL_more h k ht]
theorem pointsL_more (k : Ky) (lo hi : Int) {t : Int} (ht : t ≤ known) : pointsL (l ++ more) k lo hi t = pointsL l k lo hi t := by
  unfold pointsL
  rw [show (fun d => atL (l ++ more) k d t) = fun d => atL l k d t from funext fun d => atL_more h k d ht]
theorem uptoL_more : uptoL (l ++ more) known = uptoL l known := by
  unfold uptoL
  have e : more.filter (fun f => decide (f.known ≤ known)) = [] := List.filter_eq_nil_iff.2 (fun f hf => by have := h f hf; simp only [decide_eq_true_eq]; omega)
  rw [List.filter_append, e, List.append_nil]
theorem daysTo_more (k : Ky) {a b : Int} (ha : a ≤ known) (hb : b ≤ known) : ∀ j, daysTo (l ++ more) k a b j = daysTo l k a b j
  | 0 => rfl
  | j + 1 => by
    have hd : diffL (l ++ more) k a b (j : Int) = diffL l k a b (j : Int) := by unfold diffL; rw [atL_more h k _ ha, atL_more h k _ hb]
    unfold daysTo
    rw [daysTo_more k ha hb j]
    simp only [hd]
theorem entryL_more {a b : Int} (ha : a ≤ known) (hb : b ≤ known) : entryL (l ++ more) a b = entryL l a b := funext fun k => by
  unfold entryL; rw [daysTo_more h k ha hb]
end
theorem flat_insK {g : Ky → List Dv} {out : List Ky} {k : Ky} (hs : out.Pairwise lessK) (h : g k = [] ∨ k ∈ out) : (insK out k).flatMap g = out.flatMap g := by
  by_cases hk : k ∈ out
  · rw [sorted_unique (insK_sorted hs) hs (fun y => by rw [mem_insK]; exact ⟨fun h => h.elim (fun e => e ▸ hk) id, .inr⟩)]
  · have hg := h.resolve_right hk
    unfold insK
    split
    · rfl
    · unfold insAt
      rw [List.flatMap_append, List.flatMap_cons, hg, List.nil_append, ← List.flatMap_append, List.take_append_drop]
theorem flat_foldl {g : Ky → List Dv} : ∀ {fs : List Fct} {out : List Ky}, out.Pairwise lessK → (∀ f ∈ fs, g f.key = [] ∨ f.key ∈ out) → (fs.foldl (fun o f => insK o f.key) out).flatMap g = out.flatMap g
  | [], out, _, _ => rfl
  | f :: fs, out, hs, h => by
    rw [List.foldl_cons, flat_foldl (insK_sorted hs) (fun x hx => (h x (List.mem_cons_of_mem _ hx)).imp id fun hm => mem_insK.2 (.inr hm)), flat_insK hs (h f List.mem_cons_self)]
theorem diffL_key {l : List Fct} {k : Ky} {bef aft day : Int} (h : diffL l k bef aft day) : k ∈ keysL l := by
  refine Classical.byContradiction fun hn => h ?_
  have hno : ∀ f ∈ l, f.key ≠ k := fun f hf he => hn (((keysL_spec l).2 k).2 ⟨f, hf, he⟩)
  have ho : ∀ t, ofL l k t = [] := fun t => List.filter_eq_nil_iff.2 fun f hf => by
    have := hno f hf
    simp only [decide_eq_true_eq]
    exact fun x => this x.1
  unfold atL bestL
  rw [ho, ho]
theorem daysTo_nil {l : List Fct} {k : Ky} {bef aft : Int} (h : ∀ d, ¬ diffL l k bef aft d) : ∀ j, daysTo l k bef aft j = []
  | 0 => rfl
  | j + 1 => by unfold daysTo; rw [if_neg (h _), daysTo_nil h j]
theorem entryL_nil {l : List Fct} {k : Ky} {bef aft : Int} (h : k ∉ keysL l) : entryL l bef aft k = [] := by
  unfold entryL
  rw [daysTo_nil (fun d hd => h (diffL_key hd))]
  rfl
theorem changedL_more {l more : List Fct} {known a b : Int} (h : ∀ f ∈ more, known < f.known) (ha : a ≤ known) (hb : b ≤ known) : changedL (l ++ more) a b = changedL l a b := by
  unfold changedL
  rw [entryL_more h ha hb]
  unfold keysL
  rw [List.foldl_append]
  refine flat_foldl (keysL_spec l).1 fun f hf => ?_
  by_cases hk : f.key ∈ keysL l
  · exact .inr hk
  · exact .inl (entryL_nil hk)

/-! ## The last fact counts -/
def Cand (k : Ky) (day known : Int) (f : Fct) : Prop := f.key = k ∧ f.lo ≤ day ∧ day < f.hi ∧ f.known ≤ known
instance (k : Ky) (day known : Int) (f : Fct) : Decidable (Cand k day known f) := by unfold Cand; infer_instance
/-- After l[b] no other one of the first i comes. -/
def LastIn (l : List Fct) (k : Ky) (day known : Int) (i b : Nat) : Prop :=
  ∃ h : b < l.length, b < i ∧ Cand k day known l[b] ∧ ∀ j, (hj : j < l.length) → j < i → Cand k day known l[j] → ¬ before l[b] l[j] ∧ (b < j → before l[j] l[b])
theorem best_last (l : List Fct) (k : Ky) (day known : Int) : ∀ i, i ≤ l.length →
    (bestL (l.take i) k day known = none ∧ ∀ j, (hj : j < l.length) → j < i → ¬ Cand k day known l[j]) ∨
    ∃ b, ∃ h : b < l.length, bestL (l.take i) k day known = some l[b] ∧ LastIn l k day known i b
  | 0, _ => .inl ⟨rfl, fun j hj h => absurd h (by omega)⟩
  | i + 1, hi => by
    have ih := best_last l k day known i (by omega)
    rw [bestL_take (by omega)]
    by_cases hc : Cand k day known (l[i]'(by omega))
    · have hc' := hc
      obtain ⟨h1, h2, h3, h4⟩ := hc'
      rw [if_pos ⟨h1, h4⟩]
      unfold dayStep
      rw [if_pos ⟨h2, h3⟩]
      rcases ih with ⟨hb, hn⟩ | ⟨b, hb, hbs, _, hbi, hcb, hl⟩
      · rw [hb]
        refine .inr ⟨i, by omega, rfl, by omega, by omega, hc, fun j hj hji hcj => ?_⟩
        by_cases hji2 : j = i
        · subst hji2
          exact ⟨fun h => by unfold before at h; omega, fun h => by omega⟩
        · exact absurd hcj (hn j hj (by omega))
      · rw [hbs]
        simp only
        by_cases hbf : before (l[i]'(by omega)) l[b]
        · rw [if_pos hbf]
          refine .inr ⟨b, hb, rfl, hb, by omega, hcb, fun j hj hji hcj => ?_⟩
          by_cases hji2 : j = i
          · subst hji2
            exact ⟨fun h => by unfold before at h hbf; omega, fun _ => hbf⟩
          · exact hl j hj (by omega) hcj
        · rw [if_neg hbf]
          refine .inr ⟨i, by omega, rfl, by omega, by omega, hc, fun j hj hji hcj => ?_⟩
          by_cases hji2 : j = i
          · subst hji2
            exact ⟨fun h => by unfold before at h; omega, fun h => by omega⟩
          · have := (hl j hj (by omega) hcj).1
            exact ⟨fun h => by unfold before at this hbf h; omega, fun h => by omega⟩
    · have hsame : (if (l[i]'(by omega)).key = k ∧ (l[i]'(by omega)).known ≤ known then dayStep day (bestL (l.take i) k day known) (l[i]'(by omega)) else bestL (l.take i) k day known) = bestL (l.take i) k day known := by
        split
        · rename_i h
          unfold dayStep
          rw [if_neg (fun h2 => hc ⟨h.1, h2.1, h2.2, h.2⟩)]
        · rfl
      rw [hsame]
      rcases ih with ⟨hb, hn⟩ | ⟨b, hb, hbs, _, hbi, hcb, hl⟩
      · refine .inl ⟨hb, fun j hj hji => ?_⟩
        by_cases hji2 : j = i
        · subst hji2; exact hc
        · exact hn j hj (by omega)
      · refine .inr ⟨b, hb, hbs, hb, by omega, hcb, fun j hj hji hcj => ?_⟩
        by_cases hji2 : j = i
        · subst hji2; exact absurd hcj hc
        · exact hl j hj (by omega) hcj
theorem last_unique {l : List Fct} {k : Ky} {day known : Int} {i a b : Nat} (ha : LastIn l k day known i a) (hb : LastIn l k day known i b) : a = b := by
  obtain ⟨a1, a2, a3, a4⟩ := ha
  obtain ⟨b1, b2, b3, b4⟩ := hb
  have h1 := a4 b b1 b2 b3
  have h2 := b4 a a1 a2 a3
  by_cases h : a < b
  · exact absurd (h1.2 h) h2.1
  · by_cases h3 : b < a
    · exact absurd (h2.2 h3) h1.1
    · omega
theorem best_of_last {l : List Fct} {k : Ky} {day known : Int} {i : Nat} (h : LastIn l k day known l.length i) : ∃ hi : i < l.length, bestL l k day known = some l[i] := by
  have := best_last l k day known l.length (Nat.le_refl _)
  rw [List.take_length] at this
  rcases this with ⟨_, hn⟩ | ⟨b, hb, hbs, hl⟩
  · exact absurd h.choose_spec.2.1 (hn i h.choose h.choose)
  · have e := last_unique h hl
    subst e
    exact ⟨hb, hbs⟩

/-! ## Points, day by day -/
def restL (g : Int → Int × Bool) (lo hi d : Int) : List Pt := ptsN g (max d (max 0 lo)) (min hi 1024 - max d (max 0 lo)).toNat
theorem restL_zero (l : List Fct) (k : Ky) (lo hi known : Int) : restL (fun d => atL l k d known) lo hi 0 = pointsL l k lo hi known := by
  unfold restL pointsL; rw [show max 0 (max 0 lo) = max 0 lo by omega]
theorem restL_end (g : Int → Int × Bool) (lo hi : Int) : restL g lo hi 1024 = [] := by
  unfold restL; exact ptsN_end g (by omega)
theorem restL_skip (g : Int → Int × Bool) {lo hi d : Int} (hd : 0 ≤ d ∧ d < 1024) (h : (g d).2 = false ∨ d < lo ∨ hi ≤ d) : restL g lo hi d = restL g lo hi (d + 1) := by
  unfold restL
  by_cases h1 : d < lo
  · rw [show max (d + 1) (max 0 lo) = max d (max 0 lo) by omega]
  · rw [show max (d + 1) (max 0 lo) = d + 1 by omega, show max d (max 0 lo) = d by omega]
    by_cases h2 : d < min hi 1024
    · have h3 : (g d).2 = false := by rcases h with h | h | h; exact h; omega; omega
      rw [ptsN_step g h2, h3]
      rfl
    · rw [ptsN_end g h2, ptsN_end g (by omega)]
theorem restL_take (g : Int → Int × Bool) {lo hi d : Int} (hd : 0 ≤ d ∧ d < 1024) (h : (g d).2 = true) (h1 : lo ≤ d) (h2 : d < hi) : restL g lo hi d = (d, (g d).1) :: restL g lo hi (d + 1) := by
  unfold restL
  rw [show max (d + 1) (max 0 lo) = d + 1 by omega, show max d (max 0 lo) = d by omega, ptsN_step g (by omega), h]
  rfl
theorem drop_cons {α : Type} {l m : List α} {n : Nat} {a : α} (h : l.drop n = a :: m) : ∃ hn : n < l.length, l[n] = a ∧ l.drop (n + 1) = m := by
  have hn : n < l.length := by
    have := congrArg List.length h
    simp only [List.length_drop, List.length_cons] at this; omega
  rw [List.drop_eq_getElem_cons hn] at h
  injection h with h1 h2
  exact ⟨hn, h1, h2⟩

/-! ## Alike -/
theorem ptsN_succ (g : Int → Int × Bool) (d : Int) (n : Nat) : ptsN g d (n + 1) = (if (g d).2 then [(d, (g d).1)] else []) ++ ptsN g (d + 1) n := rfl
theorem ptsN_ge (g : Int → Int × Bool) : ∀ (n : Nat) (d : Int), ∀ q ∈ ptsN g d n, d ≤ q.1
  | 0, d, q, h => by cases h
  | n + 1, d, q, h => by
    rw [ptsN_succ] at h
    rcases List.mem_append.1 h with h | h
    · split at h
      · rw [List.mem_singleton.1 h]; exact Int.le_refl _
      · cases h
    · have := ptsN_ge g n (d + 1) q h; omega
theorem ptsN_eq {g h : Int → Int × Bool} (hg : ∀ e, (g e).2 = false → (g e).1 = 0) (hh : ∀ e, (h e).2 = false → (h e).1 = 0) : ∀ (n : Nat) (d : Int), ptsN g d n = ptsN h d n ↔ ∀ e, d ≤ e → e < d + n → g e = h e
  | 0, d => by constructor; (intro _ e h1 h2; exfalso; omega); (intro _; rfl)
  | n + 1, d => by
    have ih := ptsN_eq hg hh n (d + 1)
    have key : ptsN g d (n + 1) = ptsN h d (n + 1) ↔ g d = h d ∧ ptsN g (d + 1) n = ptsN h (d + 1) n := by
      rw [ptsN_succ, ptsN_succ]
      cases h1 : (g d).2 <;> cases h2 : (h d).2 <;> simp only [if_true, if_false, Bool.false_eq_true, List.nil_append, List.cons_append]
      · exact ⟨fun x => ⟨Prod.ext ((hg d h1).trans (hh d h2).symm) (h1.trans h2.symm), x⟩, fun x => x.2⟩
      · refine ⟨fun x => ?_, fun x => ?_⟩
        · have := ptsN_ge g n (d + 1) (d, (h d).1) (by rw [x]; exact List.mem_cons_self)
          simp only at this; omega
        · rw [x.1, h2] at h1; cases h1
      · refine ⟨fun x => ?_, fun x => ?_⟩
        · have := ptsN_ge h n (d + 1) (d, (g d).1) (by rw [← x]; exact List.mem_cons_self)
          simp only at this; omega
        · rw [x.1, h2] at h1; cases h1
      · refine ⟨fun x => ?_, fun x => ?_⟩
        · injection x with x1 x2
          injection x1 with _ x3
          exact ⟨Prod.ext x3 (h1.trans h2.symm), x2⟩
        · rw [x.1, x.2]
    rw [key, ih]
    constructor
    · rintro ⟨h1, h2⟩ e he1 he2
      by_cases he : e = d
      · rw [he]; exact h1
      · exact h2 e (by omega) (by omega)
    · exact fun h1 => ⟨h1 d (by omega) (by omega), fun e he1 he2 => h1 e (by omega) (by omega)⟩
theorem valO_zero (b : Option Fct) : (valO b).2 = false → (valO b).1 = 0 := by
  cases b with
  | none => exact fun _ => rfl
  | some f =>
    have e : valO (some f) = (if f.val < 0 then (0, false) else (f.val, true)) := rfl
    rw [e]
    split
    · exact fun _ => rfl
    · exact fun h => by cases h
theorem alike_days (l : List Fct) (r : Rd) (bef aft : Int) : alike1 l r bef aft ↔ ∀ e, max 0 r.lo ≤ e → e < min r.hi 1024 → ¬ diffL l r.key bef aft e := by
  unfold alike1 pointsL diffL
  rw [ptsN_eq (g := fun d => atL l r.key d bef) (h := fun d => atL l r.key d aft) (fun e => valO_zero _) (fun e => valO_zero _)]
  constructor
  · intro h e h1 h2 hn
    exact hn (h e h1 (by omega))
  · intro h e h1 h2
    exact Classical.byContradiction fun hn => h e h1 (by omega) hn

/-! ## The days that differ, as spans -/
structure SpansOf (D : Int → Prop) (j : Nat) (ds : List Pt) : Prop where
  ok : ∀ s ∈ ds, 0 ≤ s.1 ∧ s.1 < s.2 ∧ s.2 ≤ (j : Int)
  sep : ds.Pairwise fun s t => s.2 < t.1
  cov : ∀ d : Int, (0 ≤ d ∧ d < j ∧ D d) ↔ ∃ s ∈ ds, s.1 ≤ d ∧ d < s.2
theorem dayAdd_last (ds : List Pt) (s : Pt) (j : Nat) : dayAdd (ds ++ [s]) j = if s.2 = (j : Int) then ds ++ [(s.1, (j : Int) + 1)] else ds ++ [s] ++ [((j : Int), (j : Int) + 1)] := by
  have hl : (ds ++ [s])[(ds ++ [s]).length - 1]'(by simp) = s := by
    rw [List.getElem_append_right (by simp)]
    simp
  by_cases h : s.2 = (j : Int)
  · rw [if_pos h, dayAdd_join (by simp) (by rw [hl]; exact h), hl, List.set_append_right _ _ (by simp)]
    simp
  · rw [if_neg h, dayAdd_new (fun _ => by rw [hl]; exact h)]
theorem spans_of (l : List Fct) (k : Ky) (bef aft : Int) : ∀ j, SpansOf (diffL l k bef aft) j (daysTo l k bef aft j)
  | 0 => ⟨fun s h => (by cases h), .nil, fun d => ⟨fun h => (by omega), fun ⟨s, h, _⟩ => (by cases h)⟩⟩
  | j + 1 => by
    obtain ⟨ok, sep, cov⟩ := spans_of l k bef aft j
    unfold daysTo
    by_cases hd : diffL l k bef aft (j : Int)
    · rw [if_pos hd]
      rcases List.eq_nil_or_concat (daysTo l k bef aft j) with h0 | ⟨ds, s, h0⟩
      · rw [h0] at cov ⊢
        have : dayAdd [] j = [((j : Int), (j : Int) + 1)] := rfl
        rw [this]
        refine ⟨fun s hs => ?_, List.pairwise_singleton _ _, fun d => ?_⟩
        · rw [List.mem_singleton.1 hs]; refine ⟨?_, ?_, ?_⟩ <;> simp only <;> omega
        · have := cov d
          constructor
          · rintro ⟨h1, h2, h3⟩
            by_cases hdj : d = j
            · exact ⟨_, List.mem_singleton.2 rfl, by simp only; omega, by simp only; omega⟩
            · obtain ⟨s, hs, _⟩ := this.1 ⟨h1, by omega, h3⟩; cases hs
          · rintro ⟨s, hs, h1, h2⟩
            rw [List.mem_singleton.1 hs] at h1 h2
            simp only at h1 h2
            have : d = j := by omega
            subst this
            exact ⟨by omega, by omega, hd⟩
      · rw [h0] at ok sep cov ⊢
        rw [List.concat_eq_append] at ok sep cov ⊢
        rw [dayAdd_last]
        rw [List.pairwise_append] at sep
        obtain ⟨sp1, _, sp2⟩ := sep
        have oks := ok s (by simp)
        by_cases hs2 : s.2 = (j : Int)
        · rw [if_pos hs2]
          refine ⟨fun t ht => ?_, ?_, fun d => ?_⟩
          · rcases List.mem_append.1 ht with h | h
            · have := ok t (List.mem_append.2 (.inl h)); omega
            · rw [List.mem_singleton.1 h]; refine ⟨?_, ?_, ?_⟩ <;> simp only <;> omega
          · rw [List.pairwise_append]
            refine ⟨sp1, List.pairwise_singleton _ _, fun t ht u hu => ?_⟩
            rw [List.mem_singleton.1 hu]
            exact sp2 t ht s (List.mem_singleton.2 rfl)
          · have hcv := cov d
            constructor
            · rintro ⟨h1, h2, h3⟩
              by_cases hdj : d = j
              · exact ⟨(s.1, (j : Int) + 1), by simp, by simp only; omega, by simp only; omega⟩
              · obtain ⟨t, ht, ht1, ht2⟩ := hcv.1 ⟨h1, by omega, h3⟩
                rcases List.mem_append.1 ht with h | h
                · exact ⟨t, List.mem_append.2 (.inl h), ht1, ht2⟩
                · rw [List.mem_singleton.1 h] at ht1 ht2
                  exact ⟨(s.1, (j : Int) + 1), by simp, by simp only; omega, by simp only; omega⟩
            · rintro ⟨t, ht, ht1, ht2⟩
              by_cases hdj : d = j
              · subst hdj; exact ⟨by omega, by omega, hd⟩
              rcases List.mem_append.1 ht with h | h
              · have := hcv.2 ⟨t, List.mem_append.2 (.inl h), ht1, ht2⟩
                exact ⟨this.1, by omega, this.2.2⟩
              · rw [List.mem_singleton.1 h] at ht1 ht2
                simp only at ht1 ht2
                have := hcv.2 ⟨s, by simp, by omega, by omega⟩
                exact ⟨this.1, by omega, this.2.2⟩
        · rw [if_neg hs2]
          refine ⟨fun t ht => ?_, ?_, fun d => ?_⟩
          · rcases List.mem_append.1 ht with h | h
            · have := ok t h; omega
            · rw [List.mem_singleton.1 h]; refine ⟨?_, ?_, ?_⟩ <;> simp only <;> omega
          · rw [List.pairwise_append]
            refine ⟨List.pairwise_append.2 ⟨sp1, List.pairwise_singleton _ _, sp2⟩, List.pairwise_singleton _ _, fun t ht u hu => ?_⟩
            rw [List.mem_singleton.1 hu]
            simp only
            rcases List.mem_append.1 ht with h | h
            · have h1 := sp2 t h s (List.mem_singleton.2 rfl)
              omega
            · rw [List.mem_singleton.1 h]; omega
          · have hcv := cov d
            constructor
            · rintro ⟨h1, h2, h3⟩
              by_cases hdj : d = j
              · exact ⟨((j : Int), (j : Int) + 1), by simp, by simp only; omega, by simp only; omega⟩
              · obtain ⟨t, ht, ht1, ht2⟩ := hcv.1 ⟨h1, by omega, h3⟩
                exact ⟨t, List.mem_append.2 (.inl ht), ht1, ht2⟩
            · rintro ⟨t, ht, ht1, ht2⟩
              rcases List.mem_append.1 ht with h | h
              · have := hcv.2 ⟨t, h, ht1, ht2⟩
                exact ⟨this.1, by omega, this.2.2⟩
              · rw [List.mem_singleton.1 h] at ht1 ht2
                simp only at ht1 ht2
                have : d = j := by omega
                subst this
                exact ⟨by omega, by omega, hd⟩
    · rw [if_neg hd]
      refine ⟨fun s hs => ?_, sep, fun d => ?_⟩
      · have := ok s hs; omega
      · rw [← cov d]
        constructor
        · rintro ⟨h1, h2, h3⟩
          by_cases hdj : d = j
          · subst hdj; exact absurd h3 hd
          · exact ⟨h1, by omega, h3⟩
        · rintro ⟨h1, h2, h3⟩
          exact ⟨h1, by omega, h3⟩
theorem changedL_mem {l : List Fct} {bef aft : Int} {x : Dv} : x ∈ changedL l bef aft ↔ x.1 ∈ keysL l ∧ x.2 = daysTo l x.1 bef aft 1024 ∧ 0 < x.2.length := by
  unfold changedL
  rw [List.mem_flatMap]
  constructor
  · rintro ⟨k, hk, h⟩
    unfold entryL at h
    split at h
    · rw [List.mem_singleton.1 h]; exact ⟨hk, rfl, by assumption⟩
    · cases h
  · rintro ⟨h1, h2, h3⟩
    refine ⟨x.1, h1, ?_⟩
    unfold entryL
    rw [← h2, if_pos h3]
    exact List.mem_singleton.2 rfl
/-- A read meets a day that differs. -/
def Hit (r : Rd) (k : Ky) (s : Pt) : Prop := k = r.key ∧ max r.lo s.1 < min r.hi s.2
instance (r : Rd) (k : Ky) (s : Pt) : Decidable (Hit r k s) := by unfold Hit; infer_instance
theorem alike_hit (l : List Fct) (r : Rd) (bef aft : Int) : alike1 l r bef aft ↔ ¬ ∃ x ∈ changedL l bef aft, ∃ s ∈ x.2, Hit r x.1 s := by
  rw [alike_days]
  constructor
  · rintro h ⟨x, hx, s, hs, hk, hm⟩
    obtain ⟨h1, h2, h3⟩ := changedL_mem.1 hx
    obtain ⟨ok, _, cov⟩ := spans_of l x.1 bef aft 1024
    rw [← h2] at ok cov
    have hok := ok s hs
    obtain ⟨a, b, c⟩ := (cov (max r.lo s.1)).2 ⟨s, hs, by omega, by omega⟩
    rw [hk] at c
    exact h _ (by omega) (by omega) c
  · intro h e h1 h2 hd
    obtain ⟨ok, _, cov⟩ := spans_of l r.key bef aft 1024
    obtain ⟨s, hs, hs1, hs2⟩ := (cov e).1 ⟨by omega, by omega, hd⟩
    refine h ⟨(r.key, daysTo l r.key bef aft 1024), changedL_mem.2 ⟨diffL_key hd, rfl, List.length_pos_of_mem hs⟩, s, hs, rfl, by omega⟩

/-! ## Steps -/
theorem rp_neb_f {P : Program} {n : Nat} {E : Env} {o : Oper} {t t' : TypeId} {x y : Operand} {a : Bool} (ho : o.op = .binOp .neq t x y t') (ht : P.underlying t = some .bool) (hx : ev E x = some (.bool a)) (hy : ev E y = some (.bool a)) : RunP P n E o (.bool false) := by
  have := rp_neb (P := P) (n := n) ho ht hx hy
  rwa [beq_self_eq_true] at this
theorem and31 (a : Int) : ∃ m : Nat, m ≤ 31 ∧ binI .and .i64 a 31 = some (.int .i64 (m : Int)) := by
  have h : (BitVec.ofInt IntKind.i64.bits a &&& BitVec.ofInt IntKind.i64.bits 31).toNat ≤ 31 := by
    rw [BitVec.toNat_and]
    exact Nat.and_le_right
  exact ⟨_, h, congrArg (fun x => some (Value.int .i64 x)) (wrap64 (by omega))⟩
end Go.Proofs.Ytfnekbnlokigcaa
