/- Plain: facts and keys, and their order. No program in sight. -/
import Derived.Test.YtfnekbnlokigcaaEngS
namespace Go.Proofs.Ytfnekbnlokigcaa
open Go Go.Eng

structure Ky where
  k : Int
  s : Int
  o : Int
structure Fct where
  key : Ky
  val : Int
  lo : Int
  hi : Int
  known : Int
  no : Int

theorem Ky.eq_iff {a b : Ky} : a = b ↔ a.k = b.k ∧ a.s = b.s ∧ a.o = b.o := by cases a; cases b; simp
instance : DecidableEq Ky := fun a b => decidable_of_iff (a.k = b.k ∧ a.s = b.s ∧ a.o = b.o) Ky.eq_iff.symm
theorem Fct.eq_iff {a b : Fct} : a = b ↔ a.key = b.key ∧ a.val = b.val ∧ a.lo = b.lo ∧ a.hi = b.hi ∧ a.known = b.known ∧ a.no = b.no := by cases a; cases b; simp
instance : DecidableEq Fct := fun a b => decidable_of_iff (a.key = b.key ∧ a.val = b.val ∧ a.lo = b.lo ∧ a.hi = b.hi ∧ a.known = b.known ∧ a.no = b.no) Fct.eq_iff.symm

abbrev kc (k : Ky) : List Value := [.int .i64 k.k, .int .i64 k.s, .int .i64 k.o]
abbrev fc (f : Fct) : List Value := [.int .i64 f.key.k, .int .i64 f.key.s, .int .i64 f.key.o, .int .i64 f.val, .int .i64 f.lo, .int .i64 f.hi, .int .i64 f.known, .int .i64 f.no]
theorem fc_len (f : Fct) : (fc f).length = 8 := rfl
theorem kc_len (k : Ky) : (kc k).length = 3 := rfl
theorem fc_one (f : Fct) : ∀ u ∈ fc f, u.oneCell' = true := by simp [fc, Value.oneCell']
theorem kc_one (k : Ky) : ∀ u ∈ kc k, u.oneCell' = true := by simp [kc, Value.oneCell']

/-! ## Order -/
def cmpI (a b : Int) : Int := if a < b then -1 else if b < a then 1 else 0
def cmpF (a b : Fct) : Int := if cmpI a.known b.known = 0 then cmpI a.no b.no else cmpI a.known b.known
def before (a b : Fct) : Prop := a.known < b.known ∨ a.known = b.known ∧ a.no < b.no
instance (a b : Fct) : Decidable (before a b) := inferInstanceAs (Decidable (_ ∨ _))
theorem cmpI_cases (a b : Int) : (cmpI a b = -1 ∧ a < b) ∨ (cmpI a b = 0 ∧ a = b) ∨ (cmpI a b = 1 ∧ b < a) := by
  unfold cmpI
  by_cases h1 : a < b
  · simp [h1]
  · by_cases h2 : b < a
    · simp [h1, h2]
    · obtain rfl : a = b := by omega
      simp
theorem cmpF_lt (a b : Fct) : cmpF a b < 0 ↔ before a b := by
  unfold cmpF before
  have h1 := cmpI_cases a.known b.known
  have h2 := cmpI_cases a.no b.no
  split <;> omega
theorem cmpF_ge (a b : Fct) : 0 ≤ cmpF a b ↔ ¬ before a b := by
  have := cmpF_lt a b
  constructor
  · intro h hb; have := this.2 hb; omega
  · intro h
    by_cases h1 : cmpF a b < 0
    · exact absurd (this.1 h1) h
    · omega
theorem cmpF_in (a b : Fct) : -1 ≤ cmpF a b ∧ cmpF a b ≤ 1 := by
  have h1 := cmpI_cases a.known b.known
  have h2 := cmpI_cases a.no b.no
  unfold cmpF
  split <;> omega

/-! ## Validity -/
def Fits (f : Fct) : Prop := (0 ≤ f.key.k ∧ f.key.k ≤ 15) ∧ (0 ≤ f.key.s ∧ f.key.s ≤ 4095) ∧ (0 ≤ f.key.o ∧ f.key.o ≤ 1023) ∧ (-1 ≤ f.val ∧ f.val ≤ 1048576) ∧ 0 ≤ f.lo ∧ f.lo < f.hi ∧ f.hi ≤ 1024 ∧ (1 ≤ f.known ∧ f.known ≤ 16777216) ∧ (0 ≤ f.no ∧ f.no ≤ 65535)
instance (f : Fct) : Decidable (Fits f) := by unfold Fits; infer_instance
/-- Each comes before the next. -/
def Risen (l : List Fct) : Prop := ∀ j, (h : j < l.length - 1) → before (l[j]'(by omega)) (l[j + 1]'(by omega))
instance (l : List Fct) : Decidable (Risen l) := by unfold Risen; infer_instance
def checkL (l : List Fct) : Int := if ∀ f ∈ l, Fits f then (if Risen l then 0 else 41) else 40
theorem checkL_in (l : List Fct) : checkL l = 0 ∨ checkL l = 40 ∨ checkL l = 41 := by
  unfold checkL; split
  · split <;> simp
  · simp
def lastBad (l : List Fct) (f : Fct) : Bool := match l.getLast? with
  | some g => !decide (before g f)
  | none => false
def addL (l : List Fct) (f : Fct) : List Fct × Int :=
  if checkL l ≠ 0 then ([], checkL l) else if ¬ Fits f then ([], 40) else if lastBad l f then ([], 41) else (l ++ [f], 0)

/-! ## What is known -/
def ofL (l : List Fct) (k : Ky) (known : Int) : List Fct := l.filter fun f => decide (f.key = k ∧ f.known ≤ known)
theorem ofL_take {l : List Fct} {k : Ky} {known : Int} {i : Nat} (hi : i < l.length) : ofL (l.take (i + 1)) k known = ofL (l.take i) k known ++ (if l[i].key = k ∧ l[i].known ≤ known then [l[i]] else []) := by
  unfold ofL
  rw [← List.take_append_getElem hi, List.filter_append]
  congr 1
  by_cases h : l[i].key = k ∧ l[i].known ≤ known
  · rw [if_pos h, List.filter_cons_of_pos (by simpa using h)]; rfl
  · rw [if_neg h, List.filter_cons_of_neg (by simpa using h)]; rfl
theorem ofL_prefix (l : List Fct) (k : Ky) (known : Int) (i : Nat) : ofL (l.take i) k known <+: ofL l k known := by
  conv => rhs; rw [← List.take_append_drop i l]
  unfold ofL
  rw [List.filter_append]
  exact List.prefix_append _ _
/-- The one that counts on a day, after one more. -/
def dayStep (day : Int) (b : Option Fct) (f : Fct) : Option Fct :=
  if f.lo ≤ day ∧ day < f.hi then (match b with | none => some f | some g => if before f g then some g else some f) else b
def bestL (l : List Fct) (k : Ky) (day known : Int) : Option Fct := (ofL l k known).foldl (dayStep day) none
def valO : Option Fct → Int × Bool
  | none => (0, false)
  | some f => if f.val < 0 then (0, false) else (f.val, true)
def atL (l : List Fct) (k : Ky) (day known : Int) : Int × Bool := valO (bestL l k day known)
/-- The value, or what is less than 0. -/
def rowO : Option Fct → Int
  | none => -1
  | some f => max f.val (-1)
theorem rowO_val (b : Option Fct) : (0 ≤ rowO b ↔ (valO b).2 = true) ∧ (0 ≤ rowO b → (valO b).1 = rowO b) ∧ (¬ 0 ≤ rowO b → rowO b = -1 ∧ valO b = (0, false)) := by
  cases b with
  | none => simp [rowO, valO]
  | some f =>
    by_cases h : f.val < 0
    · have hm : rowO (some f) = -1 := by simp only [rowO]; omega
      have hv : valO (some f) = (0, false) := by simp [valO, h]
      rw [hm, hv]; simp
    · have hm : rowO (some f) = f.val := by simp only [rowO]; omega
      have hv : valO (some f) = (f.val, true) := by simp [valO, h]
      rw [hm, hv]; simp; omega

end Go.Proofs.Ytfnekbnlokigcaa
