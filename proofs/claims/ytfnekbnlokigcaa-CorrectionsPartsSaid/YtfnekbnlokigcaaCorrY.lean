/- Corrections: plain laws about what is computed, no program in sight. -/
import Derived.Test.YtfnekbnlokigcaaFactY
set_option linter.unusedVariables false
set_option maxRecDepth 100000
set_option linter.unusedSimpArgs false
namespace Go.Proofs.Ytfnekbnlokigcaa
open Go Go.Eng

structure Cr where
  key : Ky
  val : Int
  lo : Int
  hi : Int
theorem Cr.eq_iff {a b : Cr} : a = b ↔ a.key = b.key ∧ a.val = b.val ∧ a.lo = b.lo ∧ a.hi = b.hi := by cases a; cases b; simp
instance : DecidableEq Cr := fun a b => decidable_of_iff (a.key = b.key ∧ a.val = b.val ∧ a.lo = b.lo ∧ a.hi = b.hi) Cr.eq_iff.symm
abbrev cc (x : Cr) : List Value := [.int .i64 x.key.k, .int .i64 x.key.s, .int .i64 x.key.o, .int .i64 x.val, .int .i64 x.lo, .int .i64 x.hi]
theorem cc_len (x : Cr) : (cc x).length = 6 := rfl
theorem cc_one (x : Cr) : ∀ u ∈ cc x, u.oneCell' = true := by simp [cc, Value.oneCell']
def CrOk (c : Cr) : Prop := (0 ≤ c.key.k ∧ c.key.k ≤ 8) ∧ (0 ≤ c.key.s ∧ c.key.s ≤ 4095) ∧ (0 ≤ c.key.o ∧ c.key.o ≤ 1023) ∧ (-1 ≤ c.val ∧ c.val ≤ 1048576) ∧ 0 ≤ c.lo ∧ c.lo < c.hi ∧ c.hi ≤ 1024
instance (c : Cr) : Decidable (CrOk c) := by unfold CrOk; infer_instance
def nowL (l : List Fct) : Int := l.foldl (fun n f => max n f.known) 0
theorem nowL_take {l : List Fct} {i : Nat} (hi : i < l.length) : nowL (l.take (i + 1)) = max (nowL (l.take i)) l[i].known := by
  unfold nowL; rw [← List.take_append_getElem hi, List.foldl_append]; rfl
theorem nowL_append (a b : List Fct) : nowL (a ++ b) = b.foldl (fun n f => max n f.known) (nowL a) := List.foldl_append
theorem fold_same {known : Int} : ∀ {b : List Fct} {n : Int}, n ≤ known → (∀ f ∈ b, f.known = known) → b.foldl (fun n f => max n f.known) n ≤ known
  | [], n, h, _ => h
  | f :: b, n, h, hb => by
    rw [List.foldl_cons]
    have := hb f List.mem_cons_self
    exact fold_same (by omega) (fun g hg => hb g (List.mem_cons_of_mem _ hg))
theorem fold_ge : ∀ {b : List Fct} {n : Int}, n ≤ b.foldl (fun n f => max n f.known) n
  | [], n => Int.le_refl _
  | f :: b, n => by
    rw [List.foldl_cons]
    have := fold_ge (b := b) (n := max n f.known)
    omega
def crF (c : Cr) (known no : Int) : Fct := ⟨c.key, c.val, c.lo, c.hi, known, no⟩
def nextNo (l : List Fct) (known : Int) : Int := match l.getLast? with
  | some f => if f.known = known then f.no + 1 else 0
  | none => 0
def addAll (known : Int) : List Fct → List Cr → Int → List Fct × Int
  | l, [], _ => (l, 0)
  | l, c :: cs, no => if (addL l (crF c known no)).2 = 0 then addAll known (addL l (crF c known no)).1 cs (no + 1) else ([], (addL l (crF c known no)).2)
def refAll (known : Int) : List Fct → List Cr → List Fct × Int
  | l, [] => (l, 0)
  | l, c :: cs => if (addL l (crF c known (nextNo l known))).2 = 0 then refAll known (addL l (crF c known (nextNo l known))).1 cs else ([], (addL l (crF c known (nextNo l known))).2)
theorem addL_ok {l : List Fct} {f : Fct} (h : (addL l f).2 = 0) : (addL l f).1 = l ++ [f] ∧ checkL l = 0 ∧ Fits f ∧ lastBad l f = false := by
  unfold addL at h ⊢
  by_cases h1 : checkL l ≠ 0
  · rw [if_pos h1] at h; exact absurd h h1
  · rw [if_neg h1] at h ⊢
    by_cases h2 : ¬ Fits f
    · rw [if_pos h2] at h; exact absurd h (by decide)
    · rw [if_neg h2] at h ⊢
      cases h3 : lastBad l f with
      | true => rw [h3, if_pos rfl] at h; exact absurd h (by decide)
      | false => exact ⟨rfl, Classical.not_not.1 h1, Classical.not_not.1 h2, rfl⟩
theorem addL_len (l : List Fct) (f : Fct) : (addL l f).1.length ≤ l.length + 1 := by
  unfold addL
  split
  · simp
  · split
    · simp
    · split <;> simp
theorem addAll_length (known : Int) : ∀ (cs : List Cr) (l : List Fct) (no : Int), (addAll known l cs no).1.length ≤ l.length + cs.length
  | [], l, no => by simp [addAll]
  | c :: cs, l, no => by
    unfold addAll
    split
    · have h1 := addAll_length known cs (addL l (crF c known no)).1 (no + 1)
      have h2 := addL_len l (crF c known no)
      simp only [List.length_cons]; omega
    · simp
theorem nextNo_snoc (l : List Fct) (f : Fct) : nextNo (l ++ [f]) f.known = f.no + 1 := by
  unfold nextNo
  rw [List.getLast?_append]
  simp
theorem addAll_ref (known : Int) : ∀ (cs : List Cr) (l : List Fct) (no : Int), no = nextNo l known → addAll known l cs no = refAll known l cs
  | [], l, no, _ => rfl
  | c :: cs, l, no, h => by
    unfold addAll refAll
    rw [← h]
    split
    · rename_i h0
      rw [(addL_ok h0).1]
      exact addAll_ref known cs _ _ (nextNo_snoc l (crF c known no)).symm
    · rfl
def startL (l : List Fct) (cs : List Cr) (known : Int) : Int :=
  if checkL l ≠ 0 then checkL l else if 64 < cs.length ∨ ¬ (max 1 (nowL l) ≤ known ∧ known ≤ 16777216) ∨ ¬ ∀ c ∈ cs, CrOk c then 410 else 0
def applyL (l : List Fct) (cs : List Cr) (known : Int) : List Fct × Int := if startL l cs known ≠ 0 then ([], startL l cs known) else refAll known l cs
theorem applyL_length (l : List Fct) (cs : List Cr) (known : Int) : (applyL l cs known).1.length ≤ l.length + cs.length := by
  unfold applyL
  split
  · simp
  · rw [← addAll_ref known cs l _ rfl]; exact addAll_length known cs l _
theorem startL_zero {l : List Fct} {cs : List Cr} {known : Int} : startL l cs known = 0 ↔ checkL l = 0 ∧ cs.length ≤ 64 ∧ (max 1 (nowL l) ≤ known ∧ known ≤ 16777216) ∧ ∀ c ∈ cs, CrOk c := by
  unfold startL
  by_cases h1 : checkL l ≠ 0
  · rw [if_pos h1]; exact ⟨fun h => absurd h h1, fun h => h.1⟩
  · rw [if_neg h1]
    by_cases h2 : 64 < cs.length ∨ ¬ (max 1 (nowL l) ≤ known ∧ known ≤ 16777216) ∨ ¬ ∀ c ∈ cs, CrOk c
    · rw [if_pos h2]
      refine ⟨fun h => absurd h (by decide), fun ⟨_, a, b, c⟩ => ?_⟩
      rcases h2 with h | h | h
      · omega
      · exact absurd b h
      · exact absurd c h
    · rw [if_neg h2]
      have h3 := not_or.1 h2
      have h4 := not_or.1 h3.2
      exact ⟨fun _ => ⟨Classical.not_not.1 h1, by omega, Classical.not_not.1 h4.1, Classical.not_not.1 h4.2⟩, fun _ => rfl⟩
theorem checkL_zero {l : List Fct} : checkL l = 0 ↔ (∀ f ∈ l, Fits f) ∧ Risen l := by
  unfold checkL
  by_cases h1 : ∀ f ∈ l, Fits f
  · rw [if_pos h1]
    by_cases h2 : Risen l
    · rw [if_pos h2]; exact ⟨fun _ => ⟨h1, h2⟩, fun _ => rfl⟩
    · rw [if_neg h2]; exact ⟨fun h => absurd h (by decide), fun h => absurd h.2 h2⟩
  · rw [if_neg h1]; exact ⟨fun h => absurd h (by decide), fun h => absurd h.1 h1⟩
theorem lastBad_no {l : List Fct} {f : Fct} (h : lastBad l f = false) (hl : 0 < l.length) : before (l[l.length - 1]'(by omega)) f := by
  unfold lastBad at h
  rw [List.getLast?_eq_getElem?, List.getElem?_eq_getElem (by omega)] at h
  simpa using h
theorem before_all {l : List Fct} {f : Fct} (hr : Risen l) (h : lastBad l f = false) : ∀ n, ∀ j, (hj : j < l.length) → j + n + 1 = l.length → before l[j] f
  | 0, j, hj, e => by
    have := lastBad_no h (by omega)
    rwa [show l[l.length - 1]'(by omega) = l[j] from (by congr 1; omega)] at this
  | n + 1, j, hj, e => by
    have h1 := before_all hr h n (j + 1) (by omega) (by omega)
    have h2 := hr j (by omega)
    unfold before at *
    omega
theorem checkL_snoc {l : List Fct} {f : Fct} (hc : checkL l = 0) (hf : Fits f) (hb : lastBad l f = false) : checkL (l ++ [f]) = 0 := by
  obtain ⟨h1, h2⟩ := checkL_zero.1 hc
  refine checkL_zero.2 ⟨fun g hg => ?_, fun j hj => ?_⟩
  · rcases List.mem_append.1 hg with h | h
    · exact h1 g h
    · rw [List.mem_singleton.1 h]; exact hf
  · rw [List.length_append, List.length_singleton] at hj
    by_cases hj2 : j < l.length - 1
    · rw [List.getElem_append_left (by omega), List.getElem_append_left (by omega)]
      exact h2 j hj2
    · have e : j = l.length - 1 := by omega
      subst e
      rw [List.getElem_append_left (by omega), List.getElem_append_right (by omega)]
      have := lastBad_no hb (by omega)
      simpa using this
theorem refAll_ok {known : Int} : ∀ {cs : List Cr} {l : List Fct}, checkL l = 0 → (refAll known l cs).2 = 0 → checkL (refAll known l cs).1 = 0 ∧ ∃ fs : List Fct, (refAll known l cs).1 = l ++ fs ∧ fs.length = cs.length ∧ ∀ f ∈ fs, f.known = known
  | [], l, hc, h => ⟨hc, [], by simp [refAll], rfl, fun f hf => (by cases hf)⟩
  | c :: cs, l, hc, h => by
    unfold refAll at h ⊢
    by_cases h0 : (addL l (crF c known (nextNo l known))).2 = 0
    · rw [if_pos h0] at h ⊢
      obtain ⟨e, a, b, d⟩ := addL_ok h0
      rw [e] at h ⊢
      obtain ⟨h1, fs, h2, h3, h4⟩ := refAll_ok (checkL_snoc a b d) h
      exact ⟨h1, crF c known (nextNo l known) :: fs, by rw [h2]; simp, by simp [h3], fun f hf => (List.mem_cons.1 hf).elim (fun e => by rw [e]; rfl) (h4 f)⟩
    · rw [if_neg h0] at h; exact absurd h h0
theorem refAll_fail {known : Int} : ∀ {cs : List Cr} {l : List Fct}, (refAll known l cs).2 ≠ 0 → (refAll known l cs).1 = []
  | [], l, h => absurd rfl h
  | c :: cs, l, h => by
    unfold refAll at h ⊢
    by_cases h0 : (addL l (crF c known (nextNo l known))).2 = 0
    · rw [if_pos h0] at h ⊢; exact refAll_fail h
    · rw [if_neg h0]
theorem applyL_fail {l : List Fct} {cs : List Cr} {known : Int} (h : (applyL l cs known).2 ≠ 0) : (applyL l cs known).1 = [] := by
  unfold applyL at h ⊢
  by_cases h1 : startL l cs known ≠ 0
  · rw [if_pos h1]
  · rw [if_neg h1] at h ⊢; exact refAll_fail h
theorem applyL_ok {l : List Fct} {cs : List Cr} {known : Int} (h : (applyL l cs known).2 = 0) : startL l cs known = 0 ∧ applyL l cs known = refAll known l cs := by
  unfold applyL at h ⊢
  by_cases h1 : startL l cs known ≠ 0
  · rw [if_pos h1] at h; exact absurd h h1
  · rw [if_neg h1]; exact ⟨Classical.not_not.1 h1, rfl⟩

/-! ## What is known after corrections -/
def knownV (l : List Fct) (k : Ky) (d t : Int) : Int := if (atL l k d t).2 then (atL l k d t).1 else -1
theorem best_mem {l : List Fct} {k : Ky} {d t : Int} {g : Fct} (h : bestL l k d t = some g) : g ∈ l := by
  have := best_last l k d t l.length (Nat.le_refl _)
  rw [List.take_length] at this
  rcases this with ⟨hn, _⟩ | ⟨b, hb, hs, _⟩
  · rw [h] at hn; cases hn
  · rw [h] at hs; injection hs with e; rw [e]; exact List.getElem_mem hb
theorem ofL_snoc (l : List Fct) (f : Fct) (k : Ky) (t : Int) : ofL (l ++ [f]) k t = ofL l k t ++ (if f.key = k ∧ f.known ≤ t then [f] else []) := by
  unfold ofL
  rw [List.filter_append]
  by_cases h : f.key = k ∧ f.known ≤ t
  · rw [if_pos h, List.filter_cons_of_pos (by simpa using h)]; rfl
  · rw [if_neg h, List.filter_cons_of_neg (by simpa using h)]; rfl
theorem knownV_snoc {l : List Fct} {f : Fct} (hc : checkL l = 0) (hf : Fits f) (hb : lastBad l f = false) (k : Ky) (d : Int) : knownV (l ++ [f]) k d f.known = if f.key = k ∧ f.lo ≤ d ∧ d < f.hi then f.val else knownV l k d f.known := by
  have hbest : bestL (l ++ [f]) k d f.known = if f.key = k ∧ f.lo ≤ d ∧ d < f.hi then some f else bestL l k d f.known := by
    unfold bestL
    rw [ofL_snoc, List.foldl_append]
    by_cases h1 : f.key = k
    · rw [if_pos ⟨h1, Int.le_refl _⟩]
      show dayStep d (bestL l k d f.known) f = _
      unfold dayStep
      by_cases h2 : f.lo ≤ d ∧ d < f.hi
      · rw [if_pos h2, if_pos ⟨h1, h2⟩]
        cases hg : bestL l k d f.known with
        | none => rfl
        | some g =>
          obtain ⟨j, hj, rfl⟩ := List.getElem_of_mem (best_mem hg)
          have := before_all (checkL_zero.1 hc).2 hb (l.length - 1 - j) j hj (by omega)
          simp only
          rw [if_neg (fun h => by unfold before at *; omega)]
      · rw [if_neg h2, if_neg (fun h => h2 h.2)]; rfl
    · rw [if_neg (fun h => h1 h.1), if_neg (fun h => h1 h.1)]; rfl
  unfold knownV atL
  rw [hbest]
  by_cases h : f.key = k ∧ f.lo ≤ d ∧ d < f.hi
  · rw [if_pos h, if_pos h]
    have hv := hf.2.2.2.1.1
    by_cases hn : f.val < 0
    · simp only [valO, if_pos hn]; rw [if_neg (by decide)]; omega
    · simp only [valO, if_neg hn]; rfl
  · rw [if_neg h, if_neg h]
def wantL (k : Ky) (d : Int) (w : Int) (c : Cr) : Int := if c.key = k ∧ c.lo ≤ d ∧ d < c.hi then c.val else w
theorem known_all {known : Int} {k : Ky} {d : Int} : ∀ {cs : List Cr} {l : List Fct}, (refAll known l cs).2 = 0 → knownV (refAll known l cs).1 k d known = cs.foldl (wantL k d) (knownV l k d known)
  | [], l, h => rfl
  | c :: cs, l, h => by
    unfold refAll at h ⊢
    by_cases h0 : (addL l (crF c known (nextNo l known))).2 = 0
    · rw [if_pos h0] at h ⊢
      obtain ⟨e, a, b, x⟩ := addL_ok h0
      rw [e] at h ⊢
      rw [known_all h, List.foldl_cons]
      have := knownV_snoc a b x k d
      exact congrArg (fun w => cs.foldl (wantL k d) w) this
    · rw [if_neg h0] at h; exact absurd h h0
theorem apply_known {l : List Fct} {cs : List Cr} {known : Int} (h : (applyL l cs known).2 = 0) (k : Ky) (d : Int) : knownV (applyL l cs known).1 k d known = cs.foldl (wantL k d) (knownV l k d known) := by
  obtain ⟨_, e⟩ := applyL_ok h
  rw [e] at h ⊢
  exact known_all h
theorem apply_earlier {l : List Fct} {cs : List Cr} {known t : Int} (h : (applyL l cs known).2 = 0) (ht : t < known) (k : Ky) (d : Int) : knownV (applyL l cs known).1 k d t = knownV l k d t := by
  obtain ⟨h0, e⟩ := applyL_ok h
  rw [e] at h ⊢
  obtain ⟨_, fs, e2, _, hk⟩ := refAll_ok (startL_zero.1 h0).1 h
  rw [e2]
  unfold knownV
  rw [atL_more (known := t) (fun f hf => by rw [hk f hf]; exact ht) k d (Int.le_refl _)]
theorem apply_length {l : List Fct} {cs : List Cr} {known : Int} (h : (applyL l cs known).2 = 0) : (applyL l cs known).1.length = l.length + cs.length := by
  obtain ⟨h0, e⟩ := applyL_ok h
  rw [e] at h ⊢
  obtain ⟨_, fs, e2, e3, _⟩ := refAll_ok (startL_zero.1 h0).1 h
  rw [e2, List.length_append, e3]

/-! ## In two parts -/
theorem refAll_cons (known : Int) (l : List Fct) (c : Cr) (cs : List Cr) : refAll known l (c :: cs) = if (addL l (crF c known (nextNo l known))).2 = 0 then refAll known (addL l (crF c known (nextNo l known))).1 cs else ([], (addL l (crF c known (nextNo l known))).2) := rfl
theorem refAll_append (known : Int) (b : List Cr) : ∀ (a : List Cr) (l : List Fct), refAll known l (a ++ b) = if (refAll known l a).2 = 0 then refAll known (refAll known l a).1 b else refAll known l a
  | [], l => rfl
  | c :: a, l => by
    rw [List.cons_append, refAll_cons, refAll_cons]
    by_cases h0 : (addL l (crF c known (nextNo l known))).2 = 0
    · rw [if_pos h0, if_pos h0]; exact refAll_append known b a _
    · rw [if_neg h0, if_neg h0, if_neg h0]
theorem parts_fail {l : List Fct} {a b : List Cr} {known : Int} (hl : (a ++ b).length ≤ 64) (h : (applyL l a known).2 ≠ 0) : (applyL l (a ++ b) known).2 ≠ 0 := fun h2 => by
  obtain ⟨h3, e⟩ := applyL_ok h2
  obtain ⟨s1, s2, s3, s4⟩ := startL_zero.1 h3
  have s0 : startL l a known = 0 := startL_zero.2 ⟨s1, by rw [List.length_append] at hl; omega, s3, fun c hc => s4 c (List.mem_append.2 (.inl hc))⟩
  have e1 : applyL l a known = refAll known l a := by unfold applyL; rw [if_neg (fun h => h s0)]
  rw [e1] at h
  rw [e, refAll_append, if_neg h] at h2
  exact h h2
theorem parts_ok {l : List Fct} {a b : List Cr} {known : Int} (hl : (a ++ b).length ≤ 64) (h : (applyL l a known).2 = 0) :
    ((applyL l (a ++ b) known).2 = 0 ↔ (applyL (applyL l a known).1 b known).2 = 0) ∧ (applyL l (a ++ b) known).1 = (applyL (applyL l a known).1 b known).1 := by
  obtain ⟨h3, e⟩ := applyL_ok h
  obtain ⟨s1, s2, s3, s4⟩ := startL_zero.1 h3
  rw [e] at h ⊢
  obtain ⟨c1, fs, c2, c3, c4⟩ := refAll_ok s1 h
  have hnow : max 1 (nowL (refAll known l a).1) ≤ known := by
    rw [c2, nowL_append]
    have := fold_same (b := fs) (n := nowL l) (known := known) (by omega) c4
    omega
  have hlb : b.length ≤ 64 := by rw [List.length_append] at hl; omega
  have hst : startL l (a ++ b) known = 0 ↔ startL (refAll known l a).1 b known = 0 := by
    rw [startL_zero, startL_zero]
    constructor
    · rintro ⟨_, _, _, x⟩
      exact ⟨c1, hlb, ⟨hnow, s3.2⟩, fun c hc => x c (List.mem_append.2 (.inr hc))⟩
    · rintro ⟨_, _, _, x⟩
      exact ⟨s1, hl, s3, fun c hc => (List.mem_append.1 hc).elim (s4 c) (x c)⟩
  by_cases h5 : startL l (a ++ b) known = 0
  · have h6 := hst.1 h5
    have e1 : applyL l (a ++ b) known = refAll known l (a ++ b) := by unfold applyL; rw [if_neg (fun h => h h5)]
    have e2 : applyL (refAll known l a).1 b known = refAll known (refAll known l a).1 b := by unfold applyL; rw [if_neg (fun h => h h6)]
    rw [e1, e2, refAll_append, if_pos h]
    exact ⟨Iff.rfl, rfl⟩
  · have h6 := fun h => h5 (hst.2 h)
    have e1 : applyL l (a ++ b) known = ([], startL l (a ++ b) known) := by unfold applyL; rw [if_pos h5]
    have e2 : applyL (refAll known l a).1 b known = ([], startL (refAll known l a).1 b known) := by unfold applyL; rw [if_pos h6]
    rw [e1, e2]
    exact ⟨⟨fun h => absurd h h5, fun h => absurd h h6⟩, rfl⟩

/-! ## What undoes corrections -/
def endN (g : Int → Int) (x : Int) : Nat → Int → Int
  | 0, e => e
  | n + 1, e => if g e = x then endN g x n (e + 1) else e
def runsN (g : Int → Int) (to : Int) : Nat → Int → List (Int × Int × Int)
  | 0, _ => []
  | n + 1, d => if d < to then (d, endN g (g d) (to - (d + 1)).toNat (d + 1), g d) :: runsN g to n (endN g (g d) (to - (d + 1)).toNat (d + 1)) else []
theorem endN_step (g : Int → Int) (x : Int) {e to : Int} (h : e < to) : endN g x (to - e).toNat e = if g e = x then endN g x (to - (e + 1)).toNat (e + 1) else e := by
  rw [show (to - e).toNat = (to - (e + 1)).toNat + 1 by omega, endN]
theorem endN_end (g : Int → Int) (x : Int) {e to : Int} (h : ¬ e < to) : endN g x (to - e).toNat e = e := by
  rw [show (to - e).toNat = 0 by omega, endN]
theorem endN_in (g : Int → Int) (x : Int) : ∀ (n : Nat) (e : Int), e ≤ endN g x n e ∧ endN g x n e ≤ e + n
  | 0, e => by simp [endN]
  | n + 1, e => by
    unfold endN
    split
    · have := endN_in g x n (e + 1); omega
    · omega
def runsL (g : Int → Int) (a b : Int) : List (Int × Int × Int) := runsN g b (b - a).toNat a
def backC (l : List Fct) (c : Cr) : List Cr := (runsL (fun d => knownV l c.key d (nowL l)) (max c.lo 0) (min c.hi 1024)).map fun r => ⟨c.key, r.2.2, r.1, r.2.1⟩
def backL (l : List Fct) (cs : List Cr) : List Cr := cs.flatMap (backC l)
def Phys (k : Ky) : Prop := (k.k = 1 ∧ k.o = 2) ∨ (k.k = 1 ∧ k.o = 4) ∨ k.k = 8
end Go.Proofs.Ytfnekbnlokigcaa
