/- Texts of one proof, put together: FactD, FactA, FactB. -/
import Derived.Test.YtfgckcochilpkaaRows
import Derived.Test.YtfgckcochilpkaaW1P1
/- Plain: facts and keys, and their order. No program in sight. -/
namespace Go.Proofs.Ytfgckcochilpkaa
open Go Go.Eng

structure Ky where
  k : Int
  s : Int
  o : Int
structure Fct where
  key : Ky
  val : Int
  lo : Int
  hi : Int
  known : Int
  no : Int

theorem Ky.eq_iff {a b : Ky} : a = b ↔ a.k = b.k ∧ a.s = b.s ∧ a.o = b.o := by cases a; cases b; simp
instance : DecidableEq Ky := fun a b => decidable_of_iff (a.k = b.k ∧ a.s = b.s ∧ a.o = b.o) Ky.eq_iff.symm
theorem Fct.eq_iff {a b : Fct} : a = b ↔ a.key = b.key ∧ a.val = b.val ∧ a.lo = b.lo ∧ a.hi = b.hi ∧ a.known = b.known ∧ a.no = b.no := by cases a; cases b; simp
instance : DecidableEq Fct := fun a b => decidable_of_iff (a.key = b.key ∧ a.val = b.val ∧ a.lo = b.lo ∧ a.hi = b.hi ∧ a.known = b.known ∧ a.no = b.no) Fct.eq_iff.symm

abbrev kc (k : Ky) : List Value := [.int .i64 k.k, .int .i64 k.s, .int .i64 k.o]
abbrev fc (f : Fct) : List Value := [.int .i64 f.key.k, .int .i64 f.key.s, .int .i64 f.key.o, .int .i64 f.val, .int .i64 f.lo, .int .i64 f.hi, .int .i64 f.known, .int .i64 f.no]
theorem fc_len (f : Fct) : (fc f).length = 8 := rfl
theorem kc_len (k : Ky) : (kc k).length = 3 := rfl
theorem fc_one (f : Fct) : ∀ u ∈ fc f, u.oneCell' = true := by simp [fc, Value.oneCell']
theorem kc_one (k : Ky) : ∀ u ∈ kc k, u.oneCell' = true := by simp [kc, Value.oneCell']

/-! ## Order -/
def cmpI (a b : Int) : Int := if a < b then -1 else if b < a then 1 else 0
def cmpF (a b : Fct) : Int := if cmpI a.known b.known = 0 then cmpI a.no b.no else cmpI a.known b.known
def before (a b : Fct) : Prop := a.known < b.known ∨ a.known = b.known ∧ a.no < b.no
instance (a b : Fct) : Decidable (before a b) := inferInstanceAs (Decidable (_ ∨ _))
theorem cmpI_cases (a b : Int) : (cmpI a b = -1 ∧ a < b) ∨ (cmpI a b = 0 ∧ a = b) ∨ (cmpI a b = 1 ∧ b < a) := by
  unfold cmpI
  by_cases h1 : a < b
  · simp [h1]
  · by_cases h2 : b < a
    · simp [h1, h2]
    · obtain rfl : a = b := by omega
      simp
theorem cmpF_lt (a b : Fct) : cmpF a b < 0 ↔ before a b := by
  unfold cmpF before
  have h1 := cmpI_cases a.known b.known
  have h2 := cmpI_cases a.no b.no
  split <;> omega
theorem cmpF_ge (a b : Fct) : 0 ≤ cmpF a b ↔ ¬ before a b := by
  have := cmpF_lt a b
  constructor
  · intro h hb; have := this.2 hb; omega
  · intro h
    by_cases h1 : cmpF a b < 0
    · exact absurd (this.1 h1) h
    · omega
theorem cmpF_in (a b : Fct) : -1 ≤ cmpF a b ∧ cmpF a b ≤ 1 := by
  have h1 := cmpI_cases a.known b.known
  have h2 := cmpI_cases a.no b.no
  unfold cmpF
  split <;> omega

/-! ## Validity -/
def Fits (f : Fct) : Prop := (0 ≤ f.key.k ∧ f.key.k ≤ 15) ∧ (0 ≤ f.key.s ∧ f.key.s ≤ 4095) ∧ (0 ≤ f.key.o ∧ f.key.o ≤ 1023) ∧ (-1 ≤ f.val ∧ f.val ≤ 1048576) ∧ 0 ≤ f.lo ∧ f.lo < f.hi ∧ f.hi ≤ 1024 ∧ (1 ≤ f.known ∧ f.known ≤ 16777216) ∧ (0 ≤ f.no ∧ f.no ≤ 65535)
instance (f : Fct) : Decidable (Fits f) := by unfold Fits; infer_instance
/-- Each comes before the next. -/
def Risen (l : List Fct) : Prop := ∀ j, (h : j < l.length - 1) → before (l[j]'(by omega)) (l[j + 1]'(by omega))
instance (l : List Fct) : Decidable (Risen l) := by unfold Risen; infer_instance
def checkL (l : List Fct) : Int := if ∀ f ∈ l, Fits f then (if Risen l then 0 else 41) else 40
theorem checkL_in (l : List Fct) : checkL l = 0 ∨ checkL l = 40 ∨ checkL l = 41 := by
  unfold checkL; split
  · split <;> simp
  · simp
def lastBad (l : List Fct) (f : Fct) : Bool := match l.getLast? with
  | some g => !decide (before g f)
  | none => false
def addL (l : List Fct) (f : Fct) : List Fct × Int :=
  if checkL l ≠ 0 then ([], checkL l) else if ¬ Fits f then ([], 40) else if lastBad l f then ([], 41) else (l ++ [f], 0)

/-! ## What is known -/
def ofL (l : List Fct) (k : Ky) (known : Int) : List Fct := l.filter fun f => decide (f.key = k ∧ f.known ≤ known)
theorem ofL_take {l : List Fct} {k : Ky} {known : Int} {i : Nat} (hi : i < l.length) : ofL (l.take (i + 1)) k known = ofL (l.take i) k known ++ (if l[i].key = k ∧ l[i].known ≤ known then [l[i]] else []) := by
  unfold ofL
  rw [← List.take_append_getElem hi, List.filter_append]
  congr 1
  by_cases h : l[i].key = k ∧ l[i].known ≤ known
  · rw [if_pos h, List.filter_cons_of_pos (by simpa using h)]; rfl
  · rw [if_neg h, List.filter_cons_of_neg (by simpa using h)]; rfl
theorem ofL_prefix (l : List Fct) (k : Ky) (known : Int) (i : Nat) : ofL (l.take i) k known <+: ofL l k known := by
  conv => rhs; rw [← List.take_append_drop i l]
  unfold ofL
  rw [List.filter_append]
  exact List.prefix_append _ _
/-- The one that counts on a day, after one more. -/
def dayStep (day : Int) (b : Option Fct) (f : Fct) : Option Fct :=
  if f.lo ≤ day ∧ day < f.hi then (match b with | none => some f | some g => if before f g then some g else some f) else b
def bestL (l : List Fct) (k : Ky) (day known : Int) : Option Fct := (ofL l k known).foldl (dayStep day) none
def valO : Option Fct → Int × Bool
  | none => (0, false)
  | some f => if f.val < 0 then (0, false) else (f.val, true)
def atL (l : List Fct) (k : Ky) (day known : Int) : Int × Bool := valO (bestL l k day known)
/-- The value, or what is less than 0. -/
def rowO : Option Fct → Int
  | none => -1
  | some f => max f.val (-1)
theorem rowO_val (b : Option Fct) : (0 ≤ rowO b ↔ (valO b).2 = true) ∧ (0 ≤ rowO b → (valO b).1 = rowO b) ∧ (¬ 0 ≤ rowO b → rowO b = -1 ∧ valO b = (0, false)) := by
  cases b with
  | none => simp [rowO, valO]
  | some f =>
    by_cases h : f.val < 0
    · have hm : rowO (some f) = -1 := by simp only [rowO]; omega
      have hv : valO (some f) = (0, false) := by simp [valO, h]
      rw [hm, hv]; simp
    · have hm : rowO (some f) = f.val := by simp only [rowO]; omega
      have hv : valO (some f) = (f.val, true) := by simp [valO, h]
      rw [hm, hv]; simp; omega

end Go.Proofs.Ytfgckcochilpkaa

/- The facts' walks: order, validity. -/
set_option linter.unusedVariables false
set_option maxRecDepth 100000
set_option linter.unusedSimpArgs false
namespace Go.Proofs.Ytfgckcochilpkaa
open Go Go.Eng

theorem within_t (n lo hi : Int) (w : World) (h : lo ≤ n ∧ n ≤ hi) : Calls Try.prog 75 #[.int .i64 n, .int .i64 lo, .int .i64 hi] w (Ret fun r w' => Ext [] w w' ∧ r = .bool true) := by
  obtain ⟨h1, h2⟩ := h
  refine calls_of_Sx (args := [.int .i64 n, .int .i64 lo, .int .i64 hi]) Try.func75 rfl rfl ?_
  refine ztx ?_
  refine Ox.pure rfl rfl zas ?_
  refine Ox.fin ?_
  refine ztx ?_
  refine Ox.pure rfl rfl zmv ?_
  refine Ox.pure rfl rfl zmv ?_
  refine Ox.pure rfl rfl zbc ?_
  refine Ox.pure rfl rfl zmv ?_
  first | (refine Ox.skip rfl rfl ?_) | (refine Ox.pure rfl rfl zmv ?_)
  first | (refine Ox.skip rfl rfl ?_) | (refine Ox.pure rfl rfl zmv ?_)
  first | (refine Ox.skip rfl rfl ?_) | (refine Ox.pure rfl rfl zbc ?_)
  refine Ox.pure rfl rfl zpk ?_
  refine Ox.pure rfl rfl zas ?_
  refine Ox.fin ?_
  refine zrt ?_
  exact endE_ret [_] ⟨rfl, trivial⟩ ⟨zxc, rfl⟩
theorem within_f (n lo hi : Int) (w : World) (h : ¬ (lo ≤ n ∧ n ≤ hi)) : Calls Try.prog 75 #[.int .i64 n, .int .i64 lo, .int .i64 hi] w (Ret fun r w' => Ext [] w w' ∧ r = .bool false) := by
  refine calls_of_Sx (args := [.int .i64 n, .int .i64 lo, .int .i64 hi]) Try.func75 rfl rfl ?_
  by_cases h1 : lo ≤ n
  · refine ztx ?_
    refine Ox.pure rfl rfl zas ?_
    refine Ox.fin ?_
    refine ztx ?_
    refine Ox.pure rfl rfl zmv ?_
    refine Ox.pure rfl rfl zmv ?_
    refine Ox.pure rfl rfl zbc ?_
    refine Ox.pure rfl rfl zmv ?_
    first | (refine Ox.skip rfl rfl ?_) | (refine Ox.pure rfl rfl zmv ?_)
    first | (refine Ox.skip rfl rfl ?_) | (refine Ox.pure rfl rfl zmv ?_)
    first | (refine Ox.skip rfl rfl ?_) | (refine Ox.pure rfl rfl zbc ?_)
    refine Ox.pure rfl rfl zpk ?_
    refine Ox.pure rfl rfl zas ?_
    refine Ox.fin ?_
    refine zrt ?_
    exact endE_ret [_] ⟨rfl, trivial⟩ ⟨zxc, rfl⟩
  · refine ztx ?_
    refine Ox.pure rfl rfl zas ?_
    refine Ox.fin ?_
    refine ztx ?_
    refine Ox.pure rfl rfl zmv ?_
    refine Ox.pure rfl rfl zmv ?_
    refine Ox.pure rfl rfl zbc ?_
    refine Ox.pure rfl rfl zmv ?_
    first | (refine Ox.skip rfl rfl ?_) | (refine Ox.pure rfl rfl zmv ?_)
    first | (refine Ox.skip rfl rfl ?_) | (refine Ox.pure rfl rfl zmv ?_)
    first | (refine Ox.skip rfl rfl ?_) | (refine Ox.pure rfl rfl zbc ?_)
    refine Ox.pure rfl rfl zpk ?_
    refine Ox.pure rfl rfl zas ?_
    refine Ox.fin ?_
    refine zrt ?_
    exact endE_ret [_] ⟨rfl, trivial⟩ ⟨zxc, rfl⟩

theorem isNaN_at (a : Int) (w : World) : Calls Try.prog 81 #[.int .i64 a] w (Ret fun r w' => Ext [] w w' ∧ r = .bool false) := by
  refine calls_of_Sx (args := [.int .i64 a]) Try.func81 rfl rfl ?_
  refine ztx ?_
  refine Ox.pure rfl rfl zas ?_
  refine Ox.fin ?_
  refine ztx ?_
  refine Ox.pure rfl rfl zmv ?_
  refine Ox.pure rfl rfl zmv ?_
  refine Ox.pure rfl rfl zbc ?_
  refine Ox.pure rfl rfl zas ?_
  refine Ox.fin ?_
  refine zrt ?_
  exact endE_ret [_] ⟨rfl, trivial⟩ ⟨zxc, rfl⟩

theorem compareI_at (a b : Int) (w : World) : Calls Try.prog 72 #[.int .i64 a, .int .i64 b] w (Ret fun r w' => Ext [] w w' ∧ r = .int .i64 (cmpI a b)) := by
  refine calls_of_Sx (args := [.int .i64 a, .int .i64 b]) Try.func72 rfl rfl ?_
  by_cases h1 : a < b
  · refine ztx ?_
    refine Ox.pure rfl rfl zas ?_
    refine Ox.fin ?_
    refine ztx ?_
    refine Ox.pure rfl rfl zmv ?_
    refine Ox.act rfl rfl (acts_call rfl rfl rfl (isNaN_at a _)) ?_
    rintro v1 w1 ⟨e1, rfl⟩
    have hz1 := e1.size
    refine Ox.pure rfl rfl zas ?_
    refine Ox.fin ?_
    refine ztx ?_
    refine Ox.pure rfl rfl zmv ?_
    refine Ox.act rfl rfl (acts_call rfl rfl rfl (isNaN_at b _)) ?_
    rintro v2 w2 ⟨e2, rfl⟩
    have hz2 := e2.size
    refine Ox.pure rfl rfl zas ?_
    refine Ox.fin ?_
    refine ztx ?_
    refine Ox.pure rfl rfl zmv ?_
    refine Ox.fin ?_
    refine zcf ?_
    refine zsk ?_
    refine ztx ?_
    refine Ox.pure rfl rfl zmv ?_
    refine Ox.fin ?_
    refine zcf ?_
    refine zsk ?_
    refine ztx ?_
    refine Ox.pure rfl rfl zmv ?_
    refine Ox.pure rfl rfl zmv ?_
    refine Ox.pure rfl rfl zbc ?_
    refine Ox.fin ?_
    refine zct ?_
    refine ztx ?_
    refine Ox.pure rfl rfl zas ?_
    refine Ox.fin ?_
    refine zrt ?_
    exact endE_ret [_] ⟨rfl, trivial⟩ ⟨zxc, by rw [cmpI, if_pos h1]; rfl⟩
  · by_cases h2 : b < a
    · refine ztx ?_
      refine Ox.pure rfl rfl zas ?_
      refine Ox.fin ?_
      refine ztx ?_
      refine Ox.pure rfl rfl zmv ?_
      refine Ox.act rfl rfl (acts_call rfl rfl rfl (isNaN_at a _)) ?_
      rintro v3 w3 ⟨e3, rfl⟩
      have hz3 := e3.size
      refine Ox.pure rfl rfl zas ?_
      refine Ox.fin ?_
      refine ztx ?_
      refine Ox.pure rfl rfl zmv ?_
      refine Ox.act rfl rfl (acts_call rfl rfl rfl (isNaN_at b _)) ?_
      rintro v4 w4 ⟨e4, rfl⟩
      have hz4 := e4.size
      refine Ox.pure rfl rfl zas ?_
      refine Ox.fin ?_
      refine ztx ?_
      refine Ox.pure rfl rfl zmv ?_
      refine Ox.fin ?_
      refine zcf ?_
      refine zsk ?_
      refine ztx ?_
      refine Ox.pure rfl rfl zmv ?_
      refine Ox.fin ?_
      refine zcf ?_
      refine zsk ?_
      refine ztx ?_
      refine Ox.pure rfl rfl zmv ?_
      refine Ox.pure rfl rfl zmv ?_
      refine Ox.pure rfl rfl zbc ?_
      refine Ox.fin ?_
      refine zcf ?_
      refine zsk ?_
      refine ztx ?_
      refine Ox.pure rfl rfl zmv ?_
      refine Ox.pure rfl rfl zmv ?_
      refine Ox.pure rfl rfl zbc ?_
      refine Ox.fin ?_
      refine zct ?_
      refine ztx ?_
      refine Ox.pure rfl rfl zas ?_
      refine Ox.fin ?_
      refine zrt ?_
      exact endE_ret [_] ⟨rfl, trivial⟩ ⟨zxc, by rw [cmpI, if_neg h1, if_pos h2]; rfl⟩
    · refine ztx ?_
      refine Ox.pure rfl rfl zas ?_
      refine Ox.fin ?_
      refine ztx ?_
      refine Ox.pure rfl rfl zmv ?_
      refine Ox.act rfl rfl (acts_call rfl rfl rfl (isNaN_at a _)) ?_
      rintro v5 w5 ⟨e5, rfl⟩
      have hz5 := e5.size
      refine Ox.pure rfl rfl zas ?_
      refine Ox.fin ?_
      refine ztx ?_
      refine Ox.pure rfl rfl zmv ?_
      refine Ox.act rfl rfl (acts_call rfl rfl rfl (isNaN_at b _)) ?_
      rintro v6 w6 ⟨e6, rfl⟩
      have hz6 := e6.size
      refine Ox.pure rfl rfl zas ?_
      refine Ox.fin ?_
      refine ztx ?_
      refine Ox.pure rfl rfl zmv ?_
      refine Ox.fin ?_
      refine zcf ?_
      refine zsk ?_
      refine ztx ?_
      refine Ox.pure rfl rfl zmv ?_
      refine Ox.fin ?_
      refine zcf ?_
      refine zsk ?_
      refine ztx ?_
      refine Ox.pure rfl rfl zmv ?_
      refine Ox.pure rfl rfl zmv ?_
      refine Ox.pure rfl rfl zbc ?_
      refine Ox.fin ?_
      refine zcf ?_
      refine zsk ?_
      refine ztx ?_
      refine Ox.pure rfl rfl zmv ?_
      refine Ox.pure rfl rfl zmv ?_
      refine Ox.pure rfl rfl zbc ?_
      refine Ox.fin ?_
      refine zcf ?_
      refine zsk ?_
      refine ztx ?_
      refine Ox.pure rfl rfl zas ?_
      refine Ox.fin ?_
      refine zrt ?_
      exact endE_ret [_] ⟨rfl, trivial⟩ ⟨zxc, by rw [cmpI, if_neg h1, if_neg h2]; rfl⟩

/-- The first that is not zero. -/
def orL : List Int → Int
  | [] => 0
  | a :: l => if a = 0 then orL l else a
abbrev ic (a : Int) : List Value := [.int .i64 a]

theorem or_at (l : List Int) (p : Option Addr) (A : Addr) (cap : Nat) (w : World) (hs : SlV ic w p A l cap) : Calls Try.prog 71 #[.slice p l.length cap] w (Ret fun r w' => Ext [] w w' ∧ r = .int .i64 (orL l)) := by
  have hfew := hs.few
  have hp := hs.ptr
  refine calls_of_Sx (args := [.slice p l.length cap]) Try.func71 rfl rfl ?_
  refine ztx ?_
  refine Ox.pure rfl rfl zas ?_
  refine Ox.fin ?_
  refine ztx ?_
  refine Ox.pure rfl rfl zas ?_
  refine Ox.fin ?_
  refine ztx ?_
  refine Ox.pure rfl rfl zmv ?_
  refine Ox.pure rfl rfl (rp_lenS rfl rfl rfl) ?_
  refine Ox.pure rfl rfl zmv ?_
  refine Ox.fin ?_
  refine zbl ?_
  refine Sx.loop (ι := Nat) (fun i E wr => E = [(3, .int .i64 0), (6, .slice p l.length cap), (7, .int .i64 (l.length : Int)), (8, .int .i64 (i : Int))] ∧ i ≤ l.length ∧ orL l = orL (l.drop i) ∧ Ext [] w wr) (fun i => l.length - i) 0
    (sub_cons rfl (sub_cons rfl (sub_cons rfl (sub_cons rfl sub_nil)))) ⟨rfl, Nat.zero_le _, rfl, zxc⟩ ?_
  rintro i E wr ⟨rfl, hi, hf, er⟩
  by_cases hlt : i < l.length
  · rw [List.drop_eq_getElem_cons hlt, orL] at hf
    have hcell : (rowsV ic l)[i * 1]? = some (.int .i64 l[i]) := by
      have := rowsV_at (enc := ic) (m := 1) (fun _ => rfl) hlt
      have h2 := congrArg (fun c => c[0]?) this
      simpa using h2
    by_cases h0 : l[i] = 0
    · rw [if_pos h0] at hf
      refine ztx ?_
      refine Ox.pure rfl rfl zbc ?_
      refine Ox.fin ?_
      refine zct ?_
      refine zsk ?_
      refine zbl ?_
      refine ztx ?_
      refine Ox.pure rfl rfl zix ?_
      refine Ox.val rfl rfl (rv_load rfl rfl (fun u hu => ((hs.row.ext0 zxc).ext0 hu).ld _ rfl hcell)) ?_
      refine Ox.pure rfl rfl zas ?_
      refine Ox.fin ?_
      refine ztx ?_
      refine Ox.pure rfl rfl zmv ?_
      refine Ox.pure rfl rfl zmv ?_
      refine Ox.pure rfl rfl zbc ?_
      refine Ox.fin ?_
      refine zcf ?_
      refine zsk ?_
      refine ztx ?_
      refine Ox.pure rfl rfl zba ?_
      refine Ox.pure rfl rfl zmv ?_
      refine Ox.fin ?_
      exact ⟨i + 1, _, sub_cons rfl (sub_cons rfl (sub_cons rfl (sub_cons rfl sub_nil))), ⟨rfl, hlt, hf, zxc⟩, by omega⟩
    · rw [if_neg h0] at hf
      refine ztx ?_
      refine Ox.pure rfl rfl zbc ?_
      refine Ox.fin ?_
      refine zct ?_
      refine zsk ?_
      refine zbl ?_
      refine ztx ?_
      refine Ox.pure rfl rfl zix ?_
      refine Ox.val rfl rfl (rv_load rfl rfl (fun u hu => ((hs.row.ext0 zxc).ext0 hu).ld _ rfl hcell)) ?_
      refine Ox.pure rfl rfl zas ?_
      refine Ox.fin ?_
      refine ztx ?_
      refine Ox.pure rfl rfl zmv ?_
      refine Ox.pure rfl rfl zmv ?_
      refine Ox.pure rfl rfl zbc ?_
      refine Ox.fin ?_
      refine zct ?_
      refine ztx ?_
      refine Ox.pure rfl rfl zmv ?_
      refine Ox.pure rfl rfl zas ?_
      refine Ox.fin ?_
      refine zrt ?_
      exact endE_ret [_] ⟨rfl, trivial⟩ ⟨zxc, by rw [hf]; rfl⟩
  · rw [List.drop_of_length_le (by omega), orL] at hf
    rw [hf]
    refine ztx ?_
    refine Ox.pure rfl rfl zbc ?_
    refine Ox.fin ?_
    refine zcf ?_
    refine zex ?_
    refine ztx ?_
    refine Ox.pure rfl rfl zmv ?_
    refine Ox.pure rfl rfl zas ?_
    refine Ox.fin ?_
    refine zrt ?_
    exact endE_ret [_] ⟨rfl, trivial⟩ ⟨zxc, rfl⟩

theorem compare_at (a b : Fct) (w : World) : Calls Try.prog 55 #[.agg (fc a).toArray, .agg (fc b).toArray] w (Ret fun r w' => Ext [] w w' ∧ r = .int .i64 (cmpF a b)) := by
  refine calls_of_Sx (args := [.agg (fc a).toArray, .agg (fc b).toArray]) Try.func55 rfl rfl ?_
  refine ztx ?_
  refine Ox.act rfl rfl (acts_box rfl rfl) ?_
  rintro vbx wbx ⟨ebx, bbx, rfl, hbbx, hBbx⟩
  first | (have hCbx : Cells wbx ⟨bbx, 0, none⟩ [_, _, _, _, _, _, _, _] := hBbx.cells) | have hCbx := Blk.cellsL hBbx
  have hlbx := hBbx.lt
  have hzbx := ebx.size
  refine Ox.act rfl rfl (acts_box rfl rfl) ?_
  rintro vby wby ⟨eby, bby, rfl, hbby, hBby⟩
  first | (have hCby : Cells wby ⟨bby, 0, none⟩ [_, _, _, _, _, _, _, _] := hBby.cells) | have hCby := Blk.cellsL hBby
  have hlby := hBby.lt
  have hzby := eby.size
  refine Ox.pure rfl rfl zas ?_
  refine Ox.fin ?_
  (repeat refine Sx.seq ?_)
  refine Sx.walkR rfl (fun _ _ _ _ h => h) [0, 1, 2, 3, 5, 6, 7, 8, 4, 9, 10, 11, 12] [0, 1, 2, 3, 5, 6, 7, 8, 12] (0) (by kernel_rfl) ?_
  intro hq w7 e7; have hz7 := e7.size
  refine Wx.pure hq rfl rfl rfl rfl zfa ?_
  refine Wx.val hq rfl rfl rfl rfl ([]) zrs ?_
  refine Wx.pure hq rfl rfl rfl rfl zfa ?_
  refine Wx.val hq rfl rfl rfl rfl ([]) zrs ?_
  refine Wx.pure hq rfl rfl rfl rfl zfa ?_
  refine Wx.val hq rfl rfl rfl rfl ([]) zrs ?_
  refine Wx.pure hq rfl rfl rfl rfl zfa ?_
  refine Wx.val hq rfl rfl rfl rfl ([]) zrs ?_
  refine Wx.actNew rfl rfl rfl rfl (acts_call rfl rfl rfl (compareI_at a.known b.known _)) ?_
  rintro v8 w8 e8 rfl
  have hz8 := e8.size
  refine Wx.actNew rfl rfl rfl rfl (acts_call rfl rfl rfl (compareI_at a.no b.no _)) ?_
  rintro v9 w9 e9 rfl
  have hz9 := e9.size
  refine Wx.actNew rfl rfl rfl rfl (acts_buildSlice (ps := [(0, .tmp 9), (1, .tmp 14)]) rfl rfl rfl rfl rfl rfl rfl rfl) ?_
  rintro vbs wbs ebs ⟨bbs, rfl, hbbs, hBbs⟩
  first | (have hCbs : Cells wbs ⟨bbs, 0, none⟩ [_, _] := hBbs.cells) | have hCbs := Blk.cellsL hBbs
  have hlbs := hBbs.lt
  have hzbs := ebs.size
  refine Wx.actNew rfl rfl rfl rfl (acts_call rfl rfl rfl (or_at [cmpI a.known b.known, cmpI a.no b.no] (some ⟨bbs, 0, none⟩) ⟨bbs, 0, none⟩ 2 _ ⟨fun _ => rfl, hCbs, by simp, by simp, by simp⟩)) ?_
  rintro v10 w10 e10 rfl
  have hz10 := e10.size
  refine Wx.pure hq rfl rfl rfl rfl zas ?_
  refine Wx.fin ?_
  refine zrt ?_
  refine endE_ret [_] ⟨rfl, trivial⟩ ⟨zxc, ?_⟩
  simp only [resV, orL, cmpF]
  by_cases h1 : cmpI a.known b.known = 0
  · by_cases h2 : cmpI a.no b.no = 0 <;> simp [h1, h2]
  · simp [h1]

theorem fits_at (f : Fct) (w : World) : Calls Try.prog 54 #[.agg (fc f).toArray] w (Ret fun r w' => Ext [] w w' ∧ r = .bool (decide (Fits f))) := by
  refine calls_of_Sx (args := [.agg (fc f).toArray]) Try.func54 rfl rfl ?_
  refine ztx ?_
  refine Ox.act rfl rfl (acts_box rfl rfl) ?_
  rintro vbx wbx ⟨ebx, bbx, rfl, hbbx, hBbx⟩
  first | (have hCbx : Cells wbx ⟨bbx, 0, none⟩ [_, _, _, _, _, _, _, _] := hBbx.cells) | have hCbx := Blk.cellsL hBbx
  have hlbx := hBbx.lt
  have hzbx := ebx.size
  refine Ox.pure rfl rfl zas ?_
  refine Ox.fin ?_
  refine ztx ?_
  refine Ox.pure rfl rfl zfa ?_
  refine Ox.pure rfl rfl zfa ?_
  refine Ox.val rfl rfl zrs ?_
  by_cases hs11 : (0 ≤ f.key.k ∧ f.key.k ≤ 15); rotate_left
  · refine Ox.act rfl rfl (acts_call rfl rfl rfl (by first | exact within_t _ _ _ _ (by omega) | exact within_f _ _ _ _ (by omega))) ?_
    rintro v12 w12 ⟨e12, rfl⟩
    have hz12 := e12.size
    refine Ox.pure rfl rfl zmv ?_
    refine Ox.skip rfl rfl ?_
    refine Ox.skip rfl rfl ?_
    refine Ox.skip rfl rfl ?_
    refine Ox.skip rfl rfl ?_
    refine Ox.pure rfl rfl zpk ?_
    refine Ox.pure rfl rfl zmv ?_
    refine Ox.skip rfl rfl ?_
    refine Ox.skip rfl rfl ?_
    refine Ox.skip rfl rfl ?_
    refine Ox.skip rfl rfl ?_
    refine Ox.pure rfl rfl zpk ?_
    refine Ox.pure rfl rfl zmv ?_
    refine Ox.skip rfl rfl ?_
    refine Ox.skip rfl rfl ?_
    refine Ox.skip rfl rfl ?_
    refine Ox.pure rfl rfl zpk ?_
    refine Ox.pure rfl rfl zmv ?_
    refine Ox.skip rfl rfl ?_
    refine Ox.skip rfl rfl ?_
    refine Ox.skip rfl rfl ?_
    refine Ox.skip rfl rfl ?_
    refine Ox.pure rfl rfl zpk ?_
    refine Ox.pure rfl rfl zmv ?_
    refine Ox.skip rfl rfl ?_
    refine Ox.skip rfl rfl ?_
    refine Ox.skip rfl rfl ?_
    refine Ox.skip rfl rfl ?_
    refine Ox.skip rfl rfl ?_
    refine Ox.skip rfl rfl ?_
    refine Ox.skip rfl rfl ?_
    refine Ox.pure rfl rfl zpk ?_
    refine Ox.pure rfl rfl zmv ?_
    refine Ox.skip rfl rfl ?_
    refine Ox.skip rfl rfl ?_
    refine Ox.skip rfl rfl ?_
    refine Ox.skip rfl rfl ?_
    refine Ox.pure rfl rfl zpk ?_
    refine Ox.pure rfl rfl zmv ?_
    refine Ox.skip rfl rfl ?_
    refine Ox.skip rfl rfl ?_
    refine Ox.skip rfl rfl ?_
    refine Ox.pure rfl rfl zpk ?_
    refine Ox.pure rfl rfl zmv ?_
    refine Ox.skip rfl rfl ?_
    refine Ox.skip rfl rfl ?_
    refine Ox.skip rfl rfl ?_
    refine Ox.pure rfl rfl zpk ?_
    refine Ox.pure rfl rfl zas ?_
    refine Ox.fin ?_
    refine zrt ?_
    exact endE_ret [_] ⟨rfl, trivial⟩ ⟨zxc, congrArg Value.bool (decide_eq_false (fun h => by unfold Fits at h; omega)).symm⟩
  refine Ox.act rfl rfl (acts_call rfl rfl rfl (by first | exact within_t _ _ _ _ (by omega) | exact within_f _ _ _ _ (by omega))) ?_
  rintro v13 w13 ⟨e13, rfl⟩
  have hz13 := e13.size
  refine Ox.pure rfl rfl zmv ?_
  refine Ox.pure rfl rfl zfa ?_
  refine Ox.pure rfl rfl zfa ?_
  refine Ox.val rfl rfl zrs ?_
  by_cases hs14 : (0 ≤ f.key.s ∧ f.key.s ≤ 4095); rotate_left
  · refine Ox.act rfl rfl (acts_call rfl rfl rfl (by first | exact within_t _ _ _ _ (by omega) | exact within_f _ _ _ _ (by omega))) ?_
    rintro v15 w15 ⟨e15, rfl⟩
    have hz15 := e15.size
    refine Ox.pure rfl rfl zpk ?_
    refine Ox.pure rfl rfl zmv ?_
    refine Ox.skip rfl rfl ?_
    refine Ox.skip rfl rfl ?_
    refine Ox.skip rfl rfl ?_
    refine Ox.skip rfl rfl ?_
    refine Ox.pure rfl rfl zpk ?_
    refine Ox.pure rfl rfl zmv ?_
    refine Ox.skip rfl rfl ?_
    refine Ox.skip rfl rfl ?_
    refine Ox.skip rfl rfl ?_
    refine Ox.pure rfl rfl zpk ?_
    refine Ox.pure rfl rfl zmv ?_
    refine Ox.skip rfl rfl ?_
    refine Ox.skip rfl rfl ?_
    refine Ox.skip rfl rfl ?_
    refine Ox.skip rfl rfl ?_
    refine Ox.pure rfl rfl zpk ?_
    refine Ox.pure rfl rfl zmv ?_
    refine Ox.skip rfl rfl ?_
    refine Ox.skip rfl rfl ?_
    refine Ox.skip rfl rfl ?_
    refine Ox.skip rfl rfl ?_
    refine Ox.skip rfl rfl ?_
    refine Ox.skip rfl rfl ?_
    refine Ox.skip rfl rfl ?_
    refine Ox.pure rfl rfl zpk ?_
    refine Ox.pure rfl rfl zmv ?_
    refine Ox.skip rfl rfl ?_
    refine Ox.skip rfl rfl ?_
    refine Ox.skip rfl rfl ?_
    refine Ox.skip rfl rfl ?_
    refine Ox.pure rfl rfl zpk ?_
    refine Ox.pure rfl rfl zmv ?_
    refine Ox.skip rfl rfl ?_
    refine Ox.skip rfl rfl ?_
    refine Ox.skip rfl rfl ?_
    refine Ox.pure rfl rfl zpk ?_
    refine Ox.pure rfl rfl zmv ?_
    refine Ox.skip rfl rfl ?_
    refine Ox.skip rfl rfl ?_
    refine Ox.skip rfl rfl ?_
    refine Ox.pure rfl rfl zpk ?_
    refine Ox.pure rfl rfl zas ?_
    refine Ox.fin ?_
    refine zrt ?_
    exact endE_ret [_] ⟨rfl, trivial⟩ ⟨zxc, congrArg Value.bool (decide_eq_false (fun h => by unfold Fits at h; omega)).symm⟩
  refine Ox.act rfl rfl (acts_call rfl rfl rfl (by first | exact within_t _ _ _ _ (by omega) | exact within_f _ _ _ _ (by omega))) ?_
  rintro v16 w16 ⟨e16, rfl⟩
  have hz16 := e16.size
  refine Ox.pure rfl rfl zpk ?_
  refine Ox.pure rfl rfl zmv ?_
  refine Ox.pure rfl rfl zfa ?_
  refine Ox.pure rfl rfl zfa ?_
  refine Ox.val rfl rfl zrs ?_
  by_cases hs17 : (0 ≤ f.key.o ∧ f.key.o ≤ 1023); rotate_left
  · refine Ox.act rfl rfl (acts_call rfl rfl rfl (by first | exact within_t _ _ _ _ (by omega) | exact within_f _ _ _ _ (by omega))) ?_
    rintro v18 w18 ⟨e18, rfl⟩
    have hz18 := e18.size
    refine Ox.pure rfl rfl zpk ?_
    refine Ox.pure rfl rfl zmv ?_
    refine Ox.skip rfl rfl ?_
    refine Ox.skip rfl rfl ?_
    refine Ox.skip rfl rfl ?_
    refine Ox.pure rfl rfl zpk ?_
    refine Ox.pure rfl rfl zmv ?_
    refine Ox.skip rfl rfl ?_
    refine Ox.skip rfl rfl ?_
    refine Ox.skip rfl rfl ?_
    refine Ox.skip rfl rfl ?_
    refine Ox.pure rfl rfl zpk ?_
    refine Ox.pure rfl rfl zmv ?_
    refine Ox.skip rfl rfl ?_
    refine Ox.skip rfl rfl ?_
    refine Ox.skip rfl rfl ?_
    refine Ox.skip rfl rfl ?_
    refine Ox.skip rfl rfl ?_
    refine Ox.skip rfl rfl ?_
    refine Ox.skip rfl rfl ?_
    refine Ox.pure rfl rfl zpk ?_
    refine Ox.pure rfl rfl zmv ?_
    refine Ox.skip rfl rfl ?_
    refine Ox.skip rfl rfl ?_
    refine Ox.skip rfl rfl ?_
    refine Ox.skip rfl rfl ?_
    refine Ox.pure rfl rfl zpk ?_
    refine Ox.pure rfl rfl zmv ?_
    refine Ox.skip rfl rfl ?_
    refine Ox.skip rfl rfl ?_
    refine Ox.skip rfl rfl ?_
    refine Ox.pure rfl rfl zpk ?_
    refine Ox.pure rfl rfl zmv ?_
    refine Ox.skip rfl rfl ?_
    refine Ox.skip rfl rfl ?_
    refine Ox.skip rfl rfl ?_
    refine Ox.pure rfl rfl zpk ?_
    refine Ox.pure rfl rfl zas ?_
    refine Ox.fin ?_
    refine zrt ?_
    exact endE_ret [_] ⟨rfl, trivial⟩ ⟨zxc, congrArg Value.bool (decide_eq_false (fun h => by unfold Fits at h; omega)).symm⟩
  refine Ox.act rfl rfl (acts_call rfl rfl rfl (by first | exact within_t _ _ _ _ (by omega) | exact within_f _ _ _ _ (by omega))) ?_
  rintro v19 w19 ⟨e19, rfl⟩
  have hz19 := e19.size
  refine Ox.pure rfl rfl zpk ?_
  refine Ox.pure rfl rfl zmv ?_
  refine Ox.pure rfl rfl zfa ?_
  refine Ox.val rfl rfl zrs ?_
  by_cases hs20 : (-1 ≤ f.val ∧ f.val ≤ 1048576); rotate_left
  · refine Ox.act rfl rfl (acts_call rfl rfl rfl (by first | exact within_t _ _ _ _ (by omega) | exact within_f _ _ _ _ (by omega))) ?_
    rintro v21 w21 ⟨e21, rfl⟩
    have hz21 := e21.size
    refine Ox.pure rfl rfl zpk ?_
    refine Ox.pure rfl rfl zmv ?_
    refine Ox.skip rfl rfl ?_
    refine Ox.skip rfl rfl ?_
    refine Ox.skip rfl rfl ?_
    refine Ox.skip rfl rfl ?_
    refine Ox.pure rfl rfl zpk ?_
    refine Ox.pure rfl rfl zmv ?_
    refine Ox.skip rfl rfl ?_
    refine Ox.skip rfl rfl ?_
    refine Ox.skip rfl rfl ?_
    refine Ox.skip rfl rfl ?_
    refine Ox.skip rfl rfl ?_
    refine Ox.skip rfl rfl ?_
    refine Ox.skip rfl rfl ?_
    refine Ox.pure rfl rfl zpk ?_
    refine Ox.pure rfl rfl zmv ?_
    refine Ox.skip rfl rfl ?_
    refine Ox.skip rfl rfl ?_
    refine Ox.skip rfl rfl ?_
    refine Ox.skip rfl rfl ?_
    refine Ox.pure rfl rfl zpk ?_
    refine Ox.pure rfl rfl zmv ?_
    refine Ox.skip rfl rfl ?_
    refine Ox.skip rfl rfl ?_
    refine Ox.skip rfl rfl ?_
    refine Ox.pure rfl rfl zpk ?_
    refine Ox.pure rfl rfl zmv ?_
    refine Ox.skip rfl rfl ?_
    refine Ox.skip rfl rfl ?_
    refine Ox.skip rfl rfl ?_
    refine Ox.pure rfl rfl zpk ?_
    refine Ox.pure rfl rfl zas ?_
    refine Ox.fin ?_
    refine zrt ?_
    exact endE_ret [_] ⟨rfl, trivial⟩ ⟨zxc, congrArg Value.bool (decide_eq_false (fun h => by unfold Fits at h; omega)).symm⟩
  refine Ox.act rfl rfl (acts_call rfl rfl rfl (by first | exact within_t _ _ _ _ (by omega) | exact within_f _ _ _ _ (by omega))) ?_
  rintro v22 w22 ⟨e22, rfl⟩
  have hz22 := e22.size
  refine Ox.pure rfl rfl zpk ?_
  refine Ox.pure rfl rfl zmv ?_
  refine Ox.pure rfl rfl zfa ?_
  refine Ox.pure rfl rfl zfa ?_
  refine Ox.val rfl rfl zrs ?_
  by_cases hs23 : 0 ≤ f.lo; rotate_left
  · refine Ox.pure rfl rfl zbc ?_
    refine Ox.pure rfl rfl zpk ?_
    refine Ox.pure rfl rfl zmv ?_
    refine Ox.skip rfl rfl ?_
    refine Ox.skip rfl rfl ?_
    refine Ox.skip rfl rfl ?_
    refine Ox.skip rfl rfl ?_
    refine Ox.skip rfl rfl ?_
    refine Ox.skip rfl rfl ?_
    refine Ox.skip rfl rfl ?_
    refine Ox.pure rfl rfl zpk ?_
    refine Ox.pure rfl rfl zmv ?_
    refine Ox.skip rfl rfl ?_
    refine Ox.skip rfl rfl ?_
    refine Ox.skip rfl rfl ?_
    refine Ox.skip rfl rfl ?_
    refine Ox.pure rfl rfl zpk ?_
    refine Ox.pure rfl rfl zmv ?_
    refine Ox.skip rfl rfl ?_
    refine Ox.skip rfl rfl ?_
    refine Ox.skip rfl rfl ?_
    refine Ox.pure rfl rfl zpk ?_
    refine Ox.pure rfl rfl zmv ?_
    refine Ox.skip rfl rfl ?_
    refine Ox.skip rfl rfl ?_
    refine Ox.skip rfl rfl ?_
    refine Ox.pure rfl rfl zpk ?_
    refine Ox.pure rfl rfl zas ?_
    refine Ox.fin ?_
    refine zrt ?_
    exact endE_ret [_] ⟨rfl, trivial⟩ ⟨zxc, congrArg Value.bool (decide_eq_false (fun h => by unfold Fits at h; omega)).symm⟩
  refine Ox.pure rfl rfl zbc ?_
  refine Ox.pure rfl rfl zpk ?_
  refine Ox.pure rfl rfl zmv ?_
  refine Ox.pure rfl rfl zfa ?_
  refine Ox.pure rfl rfl zfa ?_
  refine Ox.val rfl rfl zrs ?_
  refine Ox.pure rfl rfl zfa ?_
  refine Ox.pure rfl rfl zfa ?_
  refine Ox.val rfl rfl zrs ?_
  by_cases hs24 : f.lo < f.hi; rotate_left
  · refine Ox.pure rfl rfl zbc ?_
    refine Ox.pure rfl rfl zpk ?_
    refine Ox.pure rfl rfl zmv ?_
    refine Ox.skip rfl rfl ?_
    refine Ox.skip rfl rfl ?_
    refine Ox.skip rfl rfl ?_
    refine Ox.skip rfl rfl ?_
    refine Ox.pure rfl rfl zpk ?_
    refine Ox.pure rfl rfl zmv ?_
    refine Ox.skip rfl rfl ?_
    refine Ox.skip rfl rfl ?_
    refine Ox.skip rfl rfl ?_
    refine Ox.pure rfl rfl zpk ?_
    refine Ox.pure rfl rfl zmv ?_
    refine Ox.skip rfl rfl ?_
    refine Ox.skip rfl rfl ?_
    refine Ox.skip rfl rfl ?_
    refine Ox.pure rfl rfl zpk ?_
    refine Ox.pure rfl rfl zas ?_
    refine Ox.fin ?_
    refine zrt ?_
    exact endE_ret [_] ⟨rfl, trivial⟩ ⟨zxc, congrArg Value.bool (decide_eq_false (fun h => by unfold Fits at h; omega)).symm⟩
  refine Ox.pure rfl rfl zbc ?_
  refine Ox.pure rfl rfl zpk ?_
  refine Ox.pure rfl rfl zmv ?_
  refine Ox.pure rfl rfl zfa ?_
  refine Ox.pure rfl rfl zfa ?_
  refine Ox.val rfl rfl zrs ?_
  by_cases hs25 : f.hi ≤ 1024; rotate_left
  · refine Ox.pure rfl rfl zbc ?_
    refine Ox.pure rfl rfl zpk ?_
    refine Ox.pure rfl rfl zmv ?_
    refine Ox.skip rfl rfl ?_
    refine Ox.skip rfl rfl ?_
    refine Ox.skip rfl rfl ?_
    refine Ox.pure rfl rfl zpk ?_
    refine Ox.pure rfl rfl zmv ?_
    refine Ox.skip rfl rfl ?_
    refine Ox.skip rfl rfl ?_
    refine Ox.skip rfl rfl ?_
    refine Ox.pure rfl rfl zpk ?_
    refine Ox.pure rfl rfl zas ?_
    refine Ox.fin ?_
    refine zrt ?_
    exact endE_ret [_] ⟨rfl, trivial⟩ ⟨zxc, congrArg Value.bool (decide_eq_false (fun h => by unfold Fits at h; omega)).symm⟩
  refine Ox.pure rfl rfl zbc ?_
  refine Ox.pure rfl rfl zpk ?_
  refine Ox.pure rfl rfl zmv ?_
  refine Ox.pure rfl rfl zfa ?_
  refine Ox.val rfl rfl zrs ?_
  by_cases hs26 : (1 ≤ f.known ∧ f.known ≤ 16777216); rotate_left
  · refine Ox.act rfl rfl (acts_call rfl rfl rfl (by first | exact within_t _ _ _ _ (by omega) | exact within_f _ _ _ _ (by omega))) ?_
    rintro v27 w27 ⟨e27, rfl⟩
    have hz27 := e27.size
    refine Ox.pure rfl rfl zpk ?_
    refine Ox.pure rfl rfl zmv ?_
    refine Ox.skip rfl rfl ?_
    refine Ox.skip rfl rfl ?_
    refine Ox.skip rfl rfl ?_
    refine Ox.pure rfl rfl zpk ?_
    refine Ox.pure rfl rfl zas ?_
    refine Ox.fin ?_
    refine zrt ?_
    exact endE_ret [_] ⟨rfl, trivial⟩ ⟨zxc, congrArg Value.bool (decide_eq_false (fun h => by unfold Fits at h; omega)).symm⟩
  refine Ox.act rfl rfl (acts_call rfl rfl rfl (by first | exact within_t _ _ _ _ (by omega) | exact within_f _ _ _ _ (by omega))) ?_
  rintro v28 w28 ⟨e28, rfl⟩
  have hz28 := e28.size
  refine Ox.pure rfl rfl zpk ?_
  refine Ox.pure rfl rfl zmv ?_
  refine Ox.pure rfl rfl zfa ?_
  refine Ox.val rfl rfl zrs ?_
  by_cases hs29 : (0 ≤ f.no ∧ f.no ≤ 65535); rotate_left
  · refine Ox.act rfl rfl (acts_call rfl rfl rfl (by first | exact within_t _ _ _ _ (by omega) | exact within_f _ _ _ _ (by omega))) ?_
    rintro v30 w30 ⟨e30, rfl⟩
    have hz30 := e30.size
    refine Ox.pure rfl rfl zpk ?_
    refine Ox.pure rfl rfl zas ?_
    refine Ox.fin ?_
    refine zrt ?_
    exact endE_ret [_] ⟨rfl, trivial⟩ ⟨zxc, congrArg Value.bool (decide_eq_false (fun h => by unfold Fits at h; omega)).symm⟩
  refine Ox.act rfl rfl (acts_call rfl rfl rfl (by first | exact within_t _ _ _ _ (by omega) | exact within_f _ _ _ _ (by omega))) ?_
  rintro v31 w31 ⟨e31, rfl⟩
  have hz31 := e31.size
  refine Ox.pure rfl rfl zpk ?_
  refine Ox.pure rfl rfl zas ?_
  refine Ox.fin ?_
  refine zrt ?_
  exact endE_ret [_] ⟨rfl, trivial⟩ ⟨zxc, congrArg Value.bool (decide_eq_true (by unfold Fits; omega)).symm⟩

end Go.Proofs.Ytfgckcochilpkaa

/- The facts' walks: lists that are checked, facts that are added. -/
set_option linter.unusedVariables false
set_option maxRecDepth 100000
set_option linter.unusedSimpArgs false
namespace Go.Proofs.Ytfgckcochilpkaa
open Go Go.Eng

theorem ref_Before (a b : Fct) (w : World) : Calls Try.prog 60 #[.agg (fc a).toArray, .agg (fc b).toArray] w (Ret fun r w' => Ext [] w w' ∧ r = .bool (decide (before a b))) := by
  refine calls_of_Sx (args := [.agg (fc a).toArray, .agg (fc b).toArray]) Try.func60 rfl rfl ?_
  refine ztx ?_
  refine Ox.act rfl rfl (acts_box rfl rfl) ?_
  rintro vbx wbx ⟨ebx, bbx, rfl, hbbx, hBbx⟩
  first | (have hCbx : Cells wbx ⟨bbx, 0, none⟩ [_, _, _, _, _, _, _, _] := hBbx.cells) | have hCbx := Blk.cellsL hBbx
  have hlbx := hBbx.lt
  have hzbx := ebx.size
  refine Ox.act rfl rfl (acts_box rfl rfl) ?_
  rintro vby wby ⟨eby, bby, rfl, hbby, hBby⟩
  first | (have hCby : Cells wby ⟨bby, 0, none⟩ [_, _, _, _, _, _, _, _] := hBby.cells) | have hCby := Blk.cellsL hBby
  have hlby := hBby.lt
  have hzby := eby.size
  refine Ox.pure rfl rfl zas ?_
  refine Ox.fin ?_
  by_cases h1 : a.known < b.known
  · refine ztx ?_
    refine Ox.pure rfl rfl zfa ?_
    refine Ox.val rfl rfl zrs ?_
    refine Ox.pure rfl rfl zfa ?_
    refine Ox.val rfl rfl zrs ?_
    refine Ox.pure rfl rfl zbc ?_
    refine Ox.pure rfl rfl zmv ?_
    first | (refine Ox.skip rfl rfl ?_) | (refine Ox.pure rfl rfl zfa ?_)
    first | (refine Ox.skip rfl rfl ?_) | (refine Ox.val rfl rfl zrs ?_)
    first | (refine Ox.skip rfl rfl ?_) | (refine Ox.pure rfl rfl zfa ?_)
    first | (refine Ox.skip rfl rfl ?_) | (refine Ox.val rfl rfl zrs ?_)
    first | (refine Ox.skip rfl rfl ?_) | (refine Ox.pure rfl rfl zbc ?_)
    first | (refine Ox.skip rfl rfl ?_) | (refine Ox.pure rfl rfl zmv ?_)
    first | (refine Ox.skip rfl rfl ?_) | (refine Ox.pure rfl rfl zfa ?_)
    first | (refine Ox.skip rfl rfl ?_) | (refine Ox.val rfl rfl zrs ?_)
    first | (refine Ox.skip rfl rfl ?_) | (refine Ox.pure rfl rfl zfa ?_)
    first | (refine Ox.skip rfl rfl ?_) | (refine Ox.val rfl rfl zrs ?_)
    first | (refine Ox.skip rfl rfl ?_) | (refine Ox.pure rfl rfl zbc ?_)
    first | (refine Ox.skip rfl rfl ?_) | (refine Ox.pure rfl rfl zpk ?_)
    refine Ox.pure rfl rfl zpk ?_
    refine Ox.pure rfl rfl zas ?_
    refine Ox.fin ?_
    refine zrt ?_
    exact endE_ret [_] ⟨rfl, trivial⟩ ⟨zxc, congrArg Value.bool (decide_eq_true (by unfold before; omega)).symm⟩
  · by_cases h2 : a.known = b.known
    · by_cases h3 : a.no < b.no
      · refine ztx ?_
        refine Ox.pure rfl rfl zfa ?_
        refine Ox.val rfl rfl zrs ?_
        refine Ox.pure rfl rfl zfa ?_
        refine Ox.val rfl rfl zrs ?_
        refine Ox.pure rfl rfl zbc ?_
        refine Ox.pure rfl rfl zmv ?_
        first | (refine Ox.skip rfl rfl ?_) | (refine Ox.pure rfl rfl zfa ?_)
        first | (refine Ox.skip rfl rfl ?_) | (refine Ox.val rfl rfl zrs ?_)
        first | (refine Ox.skip rfl rfl ?_) | (refine Ox.pure rfl rfl zfa ?_)
        first | (refine Ox.skip rfl rfl ?_) | (refine Ox.val rfl rfl zrs ?_)
        first | (refine Ox.skip rfl rfl ?_) | (refine Ox.pure rfl rfl zbc ?_)
        first | (refine Ox.skip rfl rfl ?_) | (refine Ox.pure rfl rfl zmv ?_)
        first | (refine Ox.skip rfl rfl ?_) | (refine Ox.pure rfl rfl zfa ?_)
        first | (refine Ox.skip rfl rfl ?_) | (refine Ox.val rfl rfl zrs ?_)
        first | (refine Ox.skip rfl rfl ?_) | (refine Ox.pure rfl rfl zfa ?_)
        first | (refine Ox.skip rfl rfl ?_) | (refine Ox.val rfl rfl zrs ?_)
        first | (refine Ox.skip rfl rfl ?_) | (refine Ox.pure rfl rfl zbc ?_)
        first | (refine Ox.skip rfl rfl ?_) | (refine Ox.pure rfl rfl zpk ?_)
        refine Ox.pure rfl rfl zpk ?_
        refine Ox.pure rfl rfl zas ?_
        refine Ox.fin ?_
        refine zrt ?_
        exact endE_ret [_] ⟨rfl, trivial⟩ ⟨zxc, congrArg Value.bool (decide_eq_true (by unfold before; omega)).symm⟩
      · refine ztx ?_
        refine Ox.pure rfl rfl zfa ?_
        refine Ox.val rfl rfl zrs ?_
        refine Ox.pure rfl rfl zfa ?_
        refine Ox.val rfl rfl zrs ?_
        refine Ox.pure rfl rfl zbc ?_
        refine Ox.pure rfl rfl zmv ?_
        first | (refine Ox.skip rfl rfl ?_) | (refine Ox.pure rfl rfl zfa ?_)
        first | (refine Ox.skip rfl rfl ?_) | (refine Ox.val rfl rfl zrs ?_)
        first | (refine Ox.skip rfl rfl ?_) | (refine Ox.pure rfl rfl zfa ?_)
        first | (refine Ox.skip rfl rfl ?_) | (refine Ox.val rfl rfl zrs ?_)
        first | (refine Ox.skip rfl rfl ?_) | (refine Ox.pure rfl rfl zbc ?_)
        first | (refine Ox.skip rfl rfl ?_) | (refine Ox.pure rfl rfl zmv ?_)
        first | (refine Ox.skip rfl rfl ?_) | (refine Ox.pure rfl rfl zfa ?_)
        first | (refine Ox.skip rfl rfl ?_) | (refine Ox.val rfl rfl zrs ?_)
        first | (refine Ox.skip rfl rfl ?_) | (refine Ox.pure rfl rfl zfa ?_)
        first | (refine Ox.skip rfl rfl ?_) | (refine Ox.val rfl rfl zrs ?_)
        first | (refine Ox.skip rfl rfl ?_) | (refine Ox.pure rfl rfl zbc ?_)
        first | (refine Ox.skip rfl rfl ?_) | (refine Ox.pure rfl rfl zpk ?_)
        refine Ox.pure rfl rfl zpk ?_
        refine Ox.pure rfl rfl zas ?_
        refine Ox.fin ?_
        refine zrt ?_
        exact endE_ret [_] ⟨rfl, trivial⟩ ⟨zxc, congrArg Value.bool (decide_eq_false (by unfold before; omega)).symm⟩
    · refine ztx ?_
      refine Ox.pure rfl rfl zfa ?_
      refine Ox.val rfl rfl zrs ?_
      refine Ox.pure rfl rfl zfa ?_
      refine Ox.val rfl rfl zrs ?_
      refine Ox.pure rfl rfl zbc ?_
      refine Ox.pure rfl rfl zmv ?_
      first | (refine Ox.skip rfl rfl ?_) | (refine Ox.pure rfl rfl zfa ?_)
      first | (refine Ox.skip rfl rfl ?_) | (refine Ox.val rfl rfl zrs ?_)
      first | (refine Ox.skip rfl rfl ?_) | (refine Ox.pure rfl rfl zfa ?_)
      first | (refine Ox.skip rfl rfl ?_) | (refine Ox.val rfl rfl zrs ?_)
      first | (refine Ox.skip rfl rfl ?_) | (refine Ox.pure rfl rfl zbc ?_)
      first | (refine Ox.skip rfl rfl ?_) | (refine Ox.pure rfl rfl zmv ?_)
      first | (refine Ox.skip rfl rfl ?_) | (refine Ox.pure rfl rfl zfa ?_)
      first | (refine Ox.skip rfl rfl ?_) | (refine Ox.val rfl rfl zrs ?_)
      first | (refine Ox.skip rfl rfl ?_) | (refine Ox.pure rfl rfl zfa ?_)
      first | (refine Ox.skip rfl rfl ?_) | (refine Ox.val rfl rfl zrs ?_)
      first | (refine Ox.skip rfl rfl ?_) | (refine Ox.pure rfl rfl zbc ?_)
      first | (refine Ox.skip rfl rfl ?_) | (refine Ox.pure rfl rfl zpk ?_)
      refine Ox.pure rfl rfl zpk ?_
      refine Ox.pure rfl rfl zas ?_
      refine Ox.fin ?_
      refine zrt ?_
      exact endE_ret [_] ⟨rfl, trivial⟩ ⟨zxc, congrArg Value.bool (decide_eq_false (by unfold before; omega)).symm⟩

set_option maxHeartbeats 4000000 in
theorem ref_Valid (f : Fct) (w : World) : Calls Try.prog 59 #[.agg (fc f).toArray] w (Ret fun r w' => Ext [] w w' ∧ r = .bool (decide (Fits f))) := by
  refine calls_of_Sx (args := [.agg (fc f).toArray]) Try.func59 rfl rfl ?_
  refine ztx ?_
  refine Ox.act rfl rfl (acts_box rfl rfl) ?_
  rintro vbx wbx ⟨ebx, bbx, rfl, hbbx, hBbx⟩
  first | (have hCbx : Cells wbx ⟨bbx, 0, none⟩ [_, _, _, _, _, _, _, _] := hBbx.cells) | have hCbx := Blk.cellsL hBbx
  have hlbx := hBbx.lt
  have hzbx := ebx.size
  refine Ox.pure rfl rfl zas ?_
  refine Ox.fin ?_
  refine ztx ?_
  refine Ox.pure rfl rfl zfa ?_
  refine Ox.val rfl rfl zra ?_
  refine Ox.act rfl rfl (acts_alloc rfl rfl) ?_
  rintro v1 w1 ⟨e1, b1, rfl, hb1, hB1⟩
  first | (have hC1 : Cells w1 ⟨b1, 0, none⟩ [_, _, _] := hB1.cells) | have hC1 := Blk.cellsL hB1
  have hl1 := hB1.lt
  have hz1 := e1.size
  refine Ox.act rfl rfl (acts_store_all rfl rfl rfl hB1 rfl (by first | rfl | assumption) (by first | rfl | assumption) (by (first | assumption | exact List.all_eq_true.mp rfl | simp [Value.cells, Value.oneCell']))) ?_
  rintro v2 w2 ⟨rfl, q2, hB2⟩
  have e2 := Ext.renew e1 q2 hb1
  have hz2 := e2.size
  have hl2 := hB2.lt
  first | (have hC2 : Cells w2 ⟨b1, 0, none⟩ [_, _, _] := hB2.cells) | have hC2 := Blk.cellsL hB2
  refine Ox.fin ?_
  refine ztx ?_
  refine Ox.pure rfl rfl zfa ?_
  refine Ox.val rfl rfl zrs ?_
  by_cases hs3 : 0 ≤ f.key.k; rotate_left
  · refine Ox.pure rfl rfl zbc ?_
    refine Ox.pure rfl rfl zmv ?_
    refine Ox.skip rfl rfl ?_
    refine Ox.skip rfl rfl ?_
    refine Ox.skip rfl rfl ?_
    refine Ox.pure rfl rfl zpk ?_
    refine Ox.pure rfl rfl zmv ?_
    refine Ox.skip rfl rfl ?_
    refine Ox.skip rfl rfl ?_
    refine Ox.skip rfl rfl ?_
    refine Ox.pure rfl rfl zpk ?_
    refine Ox.pure rfl rfl zmv ?_
    refine Ox.skip rfl rfl ?_
    refine Ox.skip rfl rfl ?_
    refine Ox.skip rfl rfl ?_
    refine Ox.pure rfl rfl zpk ?_
    refine Ox.pure rfl rfl zmv ?_
    refine Ox.skip rfl rfl ?_
    refine Ox.skip rfl rfl ?_
    refine Ox.skip rfl rfl ?_
    refine Ox.pure rfl rfl zpk ?_
    refine Ox.pure rfl rfl zmv ?_
    refine Ox.skip rfl rfl ?_
    refine Ox.skip rfl rfl ?_
    refine Ox.skip rfl rfl ?_
    refine Ox.pure rfl rfl zpk ?_
    refine Ox.pure rfl rfl zmv ?_
    refine Ox.skip rfl rfl ?_
    refine Ox.skip rfl rfl ?_
    refine Ox.skip rfl rfl ?_
    refine Ox.pure rfl rfl zpk ?_
    refine Ox.pure rfl rfl zmv ?_
    refine Ox.skip rfl rfl ?_
    refine Ox.skip rfl rfl ?_
    refine Ox.skip rfl rfl ?_
    refine Ox.pure rfl rfl zpk ?_
    refine Ox.pure rfl rfl zmv ?_
    refine Ox.skip rfl rfl ?_
    refine Ox.skip rfl rfl ?_
    refine Ox.skip rfl rfl ?_
    refine Ox.skip rfl rfl ?_
    refine Ox.pure rfl rfl zpk ?_
    refine Ox.pure rfl rfl zmv ?_
    refine Ox.skip rfl rfl ?_
    refine Ox.skip rfl rfl ?_
    refine Ox.skip rfl rfl ?_
    refine Ox.skip rfl rfl ?_
    refine Ox.skip rfl rfl ?_
    refine Ox.skip rfl rfl ?_
    refine Ox.skip rfl rfl ?_
    refine Ox.pure rfl rfl zpk ?_
    refine Ox.pure rfl rfl zmv ?_
    refine Ox.skip rfl rfl ?_
    refine Ox.skip rfl rfl ?_
    refine Ox.skip rfl rfl ?_
    refine Ox.skip rfl rfl ?_
    refine Ox.pure rfl rfl zpk ?_
    refine Ox.pure rfl rfl zmv ?_
    refine Ox.skip rfl rfl ?_
    refine Ox.skip rfl rfl ?_
    refine Ox.skip rfl rfl ?_
    refine Ox.pure rfl rfl zpk ?_
    refine Ox.pure rfl rfl zmv ?_
    refine Ox.skip rfl rfl ?_
    refine Ox.skip rfl rfl ?_
    refine Ox.skip rfl rfl ?_
    refine Ox.pure rfl rfl zpk ?_
    refine Ox.pure rfl rfl zmv ?_
    refine Ox.skip rfl rfl ?_
    refine Ox.skip rfl rfl ?_
    refine Ox.skip rfl rfl ?_
    refine Ox.pure rfl rfl zpk ?_
    refine Ox.pure rfl rfl zmv ?_
    refine Ox.skip rfl rfl ?_
    refine Ox.skip rfl rfl ?_
    refine Ox.skip rfl rfl ?_
    refine Ox.pure rfl rfl zpk ?_
    refine Ox.pure rfl rfl zas ?_
    refine Ox.fin ?_
    refine zrt ?_
    exact endE_ret [_] ⟨rfl, trivial⟩ ⟨zxc, congrArg Value.bool (decide_eq_false (fun h => by unfold Fits at h; omega)).symm⟩
  refine Ox.pure rfl rfl zbc ?_
  refine Ox.pure rfl rfl zmv ?_
  refine Ox.pure rfl rfl zfa ?_
  refine Ox.val rfl rfl zrs ?_
  by_cases hs4 : f.key.k ≤ 15; rotate_left
  · refine Ox.pure rfl rfl zbc ?_
    refine Ox.pure rfl rfl zpk ?_
    refine Ox.pure rfl rfl zmv ?_
    refine Ox.skip rfl rfl ?_
    refine Ox.skip rfl rfl ?_
    refine Ox.skip rfl rfl ?_
    refine Ox.pure rfl rfl zpk ?_
    refine Ox.pure rfl rfl zmv ?_
    refine Ox.skip rfl rfl ?_
    refine Ox.skip rfl rfl ?_
    refine Ox.skip rfl rfl ?_
    refine Ox.pure rfl rfl zpk ?_
    refine Ox.pure rfl rfl zmv ?_
    refine Ox.skip rfl rfl ?_
    refine Ox.skip rfl rfl ?_
    refine Ox.skip rfl rfl ?_
    refine Ox.pure rfl rfl zpk ?_
    refine Ox.pure rfl rfl zmv ?_
    refine Ox.skip rfl rfl ?_
    refine Ox.skip rfl rfl ?_
    refine Ox.skip rfl rfl ?_
    refine Ox.pure rfl rfl zpk ?_
    refine Ox.pure rfl rfl zmv ?_
    refine Ox.skip rfl rfl ?_
    refine Ox.skip rfl rfl ?_
    refine Ox.skip rfl rfl ?_
    refine Ox.pure rfl rfl zpk ?_
    refine Ox.pure rfl rfl zmv ?_
    refine Ox.skip rfl rfl ?_
    refine Ox.skip rfl rfl ?_
    refine Ox.skip rfl rfl ?_
    refine Ox.pure rfl rfl zpk ?_
    refine Ox.pure rfl rfl zmv ?_
    refine Ox.skip rfl rfl ?_
    refine Ox.skip rfl rfl ?_
    refine Ox.skip rfl rfl ?_
    refine Ox.skip rfl rfl ?_
    refine Ox.pure rfl rfl zpk ?_
    refine Ox.pure rfl rfl zmv ?_
    refine Ox.skip rfl rfl ?_
    refine Ox.skip rfl rfl ?_
    refine Ox.skip rfl rfl ?_
    refine Ox.skip rfl rfl ?_
    refine Ox.skip rfl rfl ?_
    refine Ox.skip rfl rfl ?_
    refine Ox.skip rfl rfl ?_
    refine Ox.pure rfl rfl zpk ?_
    refine Ox.pure rfl rfl zmv ?_
    refine Ox.skip rfl rfl ?_
    refine Ox.skip rfl rfl ?_
    refine Ox.skip rfl rfl ?_
    refine Ox.skip rfl rfl ?_
    refine Ox.pure rfl rfl zpk ?_
    refine Ox.pure rfl rfl zmv ?_
    refine Ox.skip rfl rfl ?_
    refine Ox.skip rfl rfl ?_
    refine Ox.skip rfl rfl ?_
    refine Ox.pure rfl rfl zpk ?_
    refine Ox.pure rfl rfl zmv ?_
    refine Ox.skip rfl rfl ?_
    refine Ox.skip rfl rfl ?_
    refine Ox.skip rfl rfl ?_
    refine Ox.pure rfl rfl zpk ?_
    refine Ox.pure rfl rfl zmv ?_
    refine Ox.skip rfl rfl ?_
    refine Ox.skip rfl rfl ?_
    refine Ox.skip rfl rfl ?_
    refine Ox.pure rfl rfl zpk ?_
    refine Ox.pure rfl rfl zmv ?_
    refine Ox.skip rfl rfl ?_
    refine Ox.skip rfl rfl ?_
    refine Ox.skip rfl rfl ?_
    refine Ox.pure rfl rfl zpk ?_
    refine Ox.pure rfl rfl zas ?_
    refine Ox.fin ?_
    refine zrt ?_
    exact endE_ret [_] ⟨rfl, trivial⟩ ⟨zxc, congrArg Value.bool (decide_eq_false (fun h => by unfold Fits at h; omega)).symm⟩
  refine Ox.pure rfl rfl zbc ?_
  refine Ox.pure rfl rfl zpk ?_
  refine Ox.pure rfl rfl zmv ?_
  refine Ox.pure rfl rfl zfa ?_
  refine Ox.val rfl rfl zrs ?_
  by_cases hs5 : 0 ≤ f.key.s; rotate_left
  · refine Ox.pure rfl rfl zbc ?_
    refine Ox.pure rfl rfl zpk ?_
    refine Ox.pure rfl rfl zmv ?_
    refine Ox.skip rfl rfl ?_
    refine Ox.skip rfl rfl ?_
    refine Ox.skip rfl rfl ?_
    refine Ox.pure rfl rfl zpk ?_
    refine Ox.pure rfl rfl zmv ?_
    refine Ox.skip rfl rfl ?_
    refine Ox.skip rfl rfl ?_
    refine Ox.skip rfl rfl ?_
    refine Ox.pure rfl rfl zpk ?_
    refine Ox.pure rfl rfl zmv ?_
    refine Ox.skip rfl rfl ?_
    refine Ox.skip rfl rfl ?_
    refine Ox.skip rfl rfl ?_
    refine Ox.pure rfl rfl zpk ?_
    refine Ox.pure rfl rfl zmv ?_
    refine Ox.skip rfl rfl ?_
    refine Ox.skip rfl rfl ?_
    refine Ox.skip rfl rfl ?_
    refine Ox.pure rfl rfl zpk ?_
    refine Ox.pure rfl rfl zmv ?_
    refine Ox.skip rfl rfl ?_
    refine Ox.skip rfl rfl ?_
    refine Ox.skip rfl rfl ?_
    refine Ox.pure rfl rfl zpk ?_
    refine Ox.pure rfl rfl zmv ?_
    refine Ox.skip rfl rfl ?_
    refine Ox.skip rfl rfl ?_
    refine Ox.skip rfl rfl ?_
    refine Ox.skip rfl rfl ?_
    refine Ox.pure rfl rfl zpk ?_
    refine Ox.pure rfl rfl zmv ?_
    refine Ox.skip rfl rfl ?_
    refine Ox.skip rfl rfl ?_
    refine Ox.skip rfl rfl ?_
    refine Ox.skip rfl rfl ?_
    refine Ox.skip rfl rfl ?_
    refine Ox.skip rfl rfl ?_
    refine Ox.skip rfl rfl ?_
    refine Ox.pure rfl rfl zpk ?_
    refine Ox.pure rfl rfl zmv ?_
    refine Ox.skip rfl rfl ?_
    refine Ox.skip rfl rfl ?_
    refine Ox.skip rfl rfl ?_
    refine Ox.skip rfl rfl ?_
    refine Ox.pure rfl rfl zpk ?_
    refine Ox.pure rfl rfl zmv ?_
    refine Ox.skip rfl rfl ?_
    refine Ox.skip rfl rfl ?_
    refine Ox.skip rfl rfl ?_
    refine Ox.pure rfl rfl zpk ?_
    refine Ox.pure rfl rfl zmv ?_
    refine Ox.skip rfl rfl ?_
    refine Ox.skip rfl rfl ?_
    refine Ox.skip rfl rfl ?_
    refine Ox.pure rfl rfl zpk ?_
    refine Ox.pure rfl rfl zmv ?_
    refine Ox.skip rfl rfl ?_
    refine Ox.skip rfl rfl ?_
    refine Ox.skip rfl rfl ?_
    refine Ox.pure rfl rfl zpk ?_
    refine Ox.pure rfl rfl zmv ?_
    refine Ox.skip rfl rfl ?_
    refine Ox.skip rfl rfl ?_
    refine Ox.skip rfl rfl ?_
    refine Ox.pure rfl rfl zpk ?_
    refine Ox.pure rfl rfl zas ?_
    refine Ox.fin ?_
    refine zrt ?_
    exact endE_ret [_] ⟨rfl, trivial⟩ ⟨zxc, congrArg Value.bool (decide_eq_false (fun h => by unfold Fits at h; omega)).symm⟩
  refine Ox.pure rfl rfl zbc ?_
  refine Ox.pure rfl rfl zpk ?_
  refine Ox.pure rfl rfl zmv ?_
  refine Ox.pure rfl rfl zfa ?_
  refine Ox.val rfl rfl zrs ?_
  by_cases hs6 : f.key.s ≤ 4095; rotate_left
  · refine Ox.pure rfl rfl zbc ?_
    refine Ox.pure rfl rfl zpk ?_
    refine Ox.pure rfl rfl zmv ?_
    refine Ox.skip rfl rfl ?_
    refine Ox.skip rfl rfl ?_
    refine Ox.skip rfl rfl ?_
    refine Ox.pure rfl rfl zpk ?_
    refine Ox.pure rfl rfl zmv ?_
    refine Ox.skip rfl rfl ?_
    refine Ox.skip rfl rfl ?_
    refine Ox.skip rfl rfl ?_
    refine Ox.pure rfl rfl zpk ?_
    refine Ox.pure rfl rfl zmv ?_
    refine Ox.skip rfl rfl ?_
    refine Ox.skip rfl rfl ?_
    refine Ox.skip rfl rfl ?_
    refine Ox.pure rfl rfl zpk ?_
    refine Ox.pure rfl rfl zmv ?_
    refine Ox.skip rfl rfl ?_
    refine Ox.skip rfl rfl ?_
    refine Ox.skip rfl rfl ?_
    refine Ox.pure rfl rfl zpk ?_
    refine Ox.pure rfl rfl zmv ?_
    refine Ox.skip rfl rfl ?_
    refine Ox.skip rfl rfl ?_
    refine Ox.skip rfl rfl ?_
    refine Ox.skip rfl rfl ?_
    refine Ox.pure rfl rfl zpk ?_
    refine Ox.pure rfl rfl zmv ?_
    refine Ox.skip rfl rfl ?_
    refine Ox.skip rfl rfl ?_
    refine Ox.skip rfl rfl ?_
    refine Ox.skip rfl rfl ?_
    refine Ox.skip rfl rfl ?_
    refine Ox.skip rfl rfl ?_
    refine Ox.skip rfl rfl ?_
    refine Ox.pure rfl rfl zpk ?_
    refine Ox.pure rfl rfl zmv ?_
    refine Ox.skip rfl rfl ?_
    refine Ox.skip rfl rfl ?_
    refine Ox.skip rfl rfl ?_
    refine Ox.skip rfl rfl ?_
    refine Ox.pure rfl rfl zpk ?_
    refine Ox.pure rfl rfl zmv ?_
    refine Ox.skip rfl rfl ?_
    refine Ox.skip rfl rfl ?_
    refine Ox.skip rfl rfl ?_
    refine Ox.pure rfl rfl zpk ?_
    refine Ox.pure rfl rfl zmv ?_
    refine Ox.skip rfl rfl ?_
    refine Ox.skip rfl rfl ?_
    refine Ox.skip rfl rfl ?_
    refine Ox.pure rfl rfl zpk ?_
    refine Ox.pure rfl rfl zmv ?_
    refine Ox.skip rfl rfl ?_
    refine Ox.skip rfl rfl ?_
    refine Ox.skip rfl rfl ?_
    refine Ox.pure rfl rfl zpk ?_
    refine Ox.pure rfl rfl zmv ?_
    refine Ox.skip rfl rfl ?_
    refine Ox.skip rfl rfl ?_
    refine Ox.skip rfl rfl ?_
    refine Ox.pure rfl rfl zpk ?_
    refine Ox.pure rfl rfl zas ?_
    refine Ox.fin ?_
    refine zrt ?_
    exact endE_ret [_] ⟨rfl, trivial⟩ ⟨zxc, congrArg Value.bool (decide_eq_false (fun h => by unfold Fits at h; omega)).symm⟩
  refine Ox.pure rfl rfl zbc ?_
  refine Ox.pure rfl rfl zpk ?_
  refine Ox.pure rfl rfl zmv ?_
  refine Ox.pure rfl rfl zfa ?_
  refine Ox.val rfl rfl zrs ?_
  by_cases hs7 : 0 ≤ f.key.o; rotate_left
  · refine Ox.pure rfl rfl zbc ?_
    refine Ox.pure rfl rfl zpk ?_
    refine Ox.pure rfl rfl zmv ?_
    refine Ox.skip rfl rfl ?_
    refine Ox.skip rfl rfl ?_
    refine Ox.skip rfl rfl ?_
    refine Ox.pure rfl rfl zpk ?_
    refine Ox.pure rfl rfl zmv ?_
    refine Ox.skip rfl rfl ?_
    refine Ox.skip rfl rfl ?_
    refine Ox.skip rfl rfl ?_
    refine Ox.pure rfl rfl zpk ?_
    refine Ox.pure rfl rfl zmv ?_
    refine Ox.skip rfl rfl ?_
    refine Ox.skip rfl rfl ?_
    refine Ox.skip rfl rfl ?_
    refine Ox.pure rfl rfl zpk ?_
    refine Ox.pure rfl rfl zmv ?_
    refine Ox.skip rfl rfl ?_
    refine Ox.skip rfl rfl ?_
    refine Ox.skip rfl rfl ?_
    refine Ox.skip rfl rfl ?_
    refine Ox.pure rfl rfl zpk ?_
    refine Ox.pure rfl rfl zmv ?_
    refine Ox.skip rfl rfl ?_
    refine Ox.skip rfl rfl ?_
    refine Ox.skip rfl rfl ?_
    refine Ox.skip rfl rfl ?_
    refine Ox.skip rfl rfl ?_
    refine Ox.skip rfl rfl ?_
    refine Ox.skip rfl rfl ?_
    refine Ox.pure rfl rfl zpk ?_
    refine Ox.pure rfl rfl zmv ?_
    refine Ox.skip rfl rfl ?_
    refine Ox.skip rfl rfl ?_
    refine Ox.skip rfl rfl ?_
    refine Ox.skip rfl rfl ?_
    refine Ox.pure rfl rfl zpk ?_
    refine Ox.pure rfl rfl zmv ?_
    refine Ox.skip rfl rfl ?_
    refine Ox.skip rfl rfl ?_
    refine Ox.skip rfl rfl ?_
    refine Ox.pure rfl rfl zpk ?_
    refine Ox.pure rfl rfl zmv ?_
    refine Ox.skip rfl rfl ?_
    refine Ox.skip rfl rfl ?_
    refine Ox.skip rfl rfl ?_
    refine Ox.pure rfl rfl zpk ?_
    refine Ox.pure rfl rfl zmv ?_
    refine Ox.skip rfl rfl ?_
    refine Ox.skip rfl rfl ?_
    refine Ox.skip rfl rfl ?_
    refine Ox.pure rfl rfl zpk ?_
    refine Ox.pure rfl rfl zmv ?_
    refine Ox.skip rfl rfl ?_
    refine Ox.skip rfl rfl ?_
    refine Ox.skip rfl rfl ?_
    refine Ox.pure rfl rfl zpk ?_
    refine Ox.pure rfl rfl zas ?_
    refine Ox.fin ?_
    refine zrt ?_
    exact endE_ret [_] ⟨rfl, trivial⟩ ⟨zxc, congrArg Value.bool (decide_eq_false (fun h => by unfold Fits at h; omega)).symm⟩
  refine Ox.pure rfl rfl zbc ?_
  refine Ox.pure rfl rfl zpk ?_
  refine Ox.pure rfl rfl zmv ?_
  refine Ox.pure rfl rfl zfa ?_
  refine Ox.val rfl rfl zrs ?_
  by_cases hs8 : f.key.o < 1024; rotate_left
  · refine Ox.pure rfl rfl zbc ?_
    refine Ox.pure rfl rfl zpk ?_
    refine Ox.pure rfl rfl zmv ?_
    refine Ox.skip rfl rfl ?_
    refine Ox.skip rfl rfl ?_
    refine Ox.skip rfl rfl ?_
    refine Ox.pure rfl rfl zpk ?_
    refine Ox.pure rfl rfl zmv ?_
    refine Ox.skip rfl rfl ?_
    refine Ox.skip rfl rfl ?_
    refine Ox.skip rfl rfl ?_
    refine Ox.pure rfl rfl zpk ?_
    refine Ox.pure rfl rfl zmv ?_
    refine Ox.skip rfl rfl ?_
    refine Ox.skip rfl rfl ?_
    refine Ox.skip rfl rfl ?_
    refine Ox.skip rfl rfl ?_
    refine Ox.pure rfl rfl zpk ?_
    refine Ox.pure rfl rfl zmv ?_
    refine Ox.skip rfl rfl ?_
    refine Ox.skip rfl rfl ?_
    refine Ox.skip rfl rfl ?_
    refine Ox.skip rfl rfl ?_
    refine Ox.skip rfl rfl ?_
    refine Ox.skip rfl rfl ?_
    refine Ox.skip rfl rfl ?_
    refine Ox.pure rfl rfl zpk ?_
    refine Ox.pure rfl rfl zmv ?_
    refine Ox.skip rfl rfl ?_
    refine Ox.skip rfl rfl ?_
    refine Ox.skip rfl rfl ?_
    refine Ox.skip rfl rfl ?_
    refine Ox.pure rfl rfl zpk ?_
    refine Ox.pure rfl rfl zmv ?_
    refine Ox.skip rfl rfl ?_
    refine Ox.skip rfl rfl ?_
    refine Ox.skip rfl rfl ?_
    refine Ox.pure rfl rfl zpk ?_
    refine Ox.pure rfl rfl zmv ?_
    refine Ox.skip rfl rfl ?_
    refine Ox.skip rfl rfl ?_
    refine Ox.skip rfl rfl ?_
    refine Ox.pure rfl rfl zpk ?_
    refine Ox.pure rfl rfl zmv ?_
    refine Ox.skip rfl rfl ?_
    refine Ox.skip rfl rfl ?_
    refine Ox.skip rfl rfl ?_
    refine Ox.pure rfl rfl zpk ?_
    refine Ox.pure rfl rfl zmv ?_
    refine Ox.skip rfl rfl ?_
    refine Ox.skip rfl rfl ?_
    refine Ox.skip rfl rfl ?_
    refine Ox.pure rfl rfl zpk ?_
    refine Ox.pure rfl rfl zas ?_
    refine Ox.fin ?_
    refine zrt ?_
    exact endE_ret [_] ⟨rfl, trivial⟩ ⟨zxc, congrArg Value.bool (decide_eq_false (fun h => by unfold Fits at h; omega)).symm⟩
  refine Ox.pure rfl rfl zbc ?_
  refine Ox.pure rfl rfl zpk ?_
  refine Ox.pure rfl rfl zmv ?_
  refine Ox.pure rfl rfl zfa ?_
  refine Ox.val rfl rfl zrs ?_
  by_cases hs9 : -1 ≤ f.val; rotate_left
  · refine Ox.pure rfl rfl zbc ?_
    refine Ox.pure rfl rfl zpk ?_
    refine Ox.pure rfl rfl zmv ?_
    refine Ox.skip rfl rfl ?_
    refine Ox.skip rfl rfl ?_
    refine Ox.skip rfl rfl ?_
    refine Ox.pure rfl rfl zpk ?_
    refine Ox.pure rfl rfl zmv ?_
    refine Ox.skip rfl rfl ?_
    refine Ox.skip rfl rfl ?_
    refine Ox.skip rfl rfl ?_
    refine Ox.skip rfl rfl ?_
    refine Ox.pure rfl rfl zpk ?_
    refine Ox.pure rfl rfl zmv ?_
    refine Ox.skip rfl rfl ?_
    refine Ox.skip rfl rfl ?_
    refine Ox.skip rfl rfl ?_
    refine Ox.skip rfl rfl ?_
    refine Ox.skip rfl rfl ?_
    refine Ox.skip rfl rfl ?_
    refine Ox.skip rfl rfl ?_
    refine Ox.pure rfl rfl zpk ?_
    refine Ox.pure rfl rfl zmv ?_
    refine Ox.skip rfl rfl ?_
    refine Ox.skip rfl rfl ?_
    refine Ox.skip rfl rfl ?_
    refine Ox.skip rfl rfl ?_
    refine Ox.pure rfl rfl zpk ?_
    refine Ox.pure rfl rfl zmv ?_
    refine Ox.skip rfl rfl ?_
    refine Ox.skip rfl rfl ?_
    refine Ox.skip rfl rfl ?_
    refine Ox.pure rfl rfl zpk ?_
    refine Ox.pure rfl rfl zmv ?_
    refine Ox.skip rfl rfl ?_
    refine Ox.skip rfl rfl ?_
    refine Ox.skip rfl rfl ?_
    refine Ox.pure rfl rfl zpk ?_
    refine Ox.pure rfl rfl zmv ?_
    refine Ox.skip rfl rfl ?_
    refine Ox.skip rfl rfl ?_
    refine Ox.skip rfl rfl ?_
    refine Ox.pure rfl rfl zpk ?_
    refine Ox.pure rfl rfl zmv ?_
    refine Ox.skip rfl rfl ?_
    refine Ox.skip rfl rfl ?_
    refine Ox.skip rfl rfl ?_
    refine Ox.pure rfl rfl zpk ?_
    refine Ox.pure rfl rfl zas ?_
    refine Ox.fin ?_
    refine zrt ?_
    exact endE_ret [_] ⟨rfl, trivial⟩ ⟨zxc, congrArg Value.bool (decide_eq_false (fun h => by unfold Fits at h; omega)).symm⟩
  refine Ox.pure rfl rfl zbc ?_
  refine Ox.pure rfl rfl zpk ?_
  refine Ox.pure rfl rfl zmv ?_
  refine Ox.pure rfl rfl zfa ?_
  refine Ox.val rfl rfl zrs ?_
  by_cases hs10 : f.val ≤ 1048576; rotate_left
  · refine Ox.pure rfl rfl zbc ?_
    refine Ox.pure rfl rfl zpk ?_
    refine Ox.pure rfl rfl zmv ?_
    refine Ox.skip rfl rfl ?_
    refine Ox.skip rfl rfl ?_
    refine Ox.skip rfl rfl ?_
    refine Ox.skip rfl rfl ?_
    refine Ox.pure rfl rfl zpk ?_
    refine Ox.pure rfl rfl zmv ?_
    refine Ox.skip rfl rfl ?_
    refine Ox.skip rfl rfl ?_
    refine Ox.skip rfl rfl ?_
    refine Ox.skip rfl rfl ?_
    refine Ox.skip rfl rfl ?_
    refine Ox.skip rfl rfl ?_
    refine Ox.skip rfl rfl ?_
    refine Ox.pure rfl rfl zpk ?_
    refine Ox.pure rfl rfl zmv ?_
    refine Ox.skip rfl rfl ?_
    refine Ox.skip rfl rfl ?_
    refine Ox.skip rfl rfl ?_
    refine Ox.skip rfl rfl ?_
    refine Ox.pure rfl rfl zpk ?_
    refine Ox.pure rfl rfl zmv ?_
    refine Ox.skip rfl rfl ?_
    refine Ox.skip rfl rfl ?_
    refine Ox.skip rfl rfl ?_
    refine Ox.pure rfl rfl zpk ?_
    refine Ox.pure rfl rfl zmv ?_
    refine Ox.skip rfl rfl ?_
    refine Ox.skip rfl rfl ?_
    refine Ox.skip rfl rfl ?_
    refine Ox.pure rfl rfl zpk ?_
    refine Ox.pure rfl rfl zmv ?_
    refine Ox.skip rfl rfl ?_
    refine Ox.skip rfl rfl ?_
    refine Ox.skip rfl rfl ?_
    refine Ox.pure rfl rfl zpk ?_
    refine Ox.pure rfl rfl zmv ?_
    refine Ox.skip rfl rfl ?_
    refine Ox.skip rfl rfl ?_
    refine Ox.skip rfl rfl ?_
    refine Ox.pure rfl rfl zpk ?_
    refine Ox.pure rfl rfl zas ?_
    refine Ox.fin ?_
    refine zrt ?_
    exact endE_ret [_] ⟨rfl, trivial⟩ ⟨zxc, congrArg Value.bool (decide_eq_false (fun h => by unfold Fits at h; omega)).symm⟩
  refine Ox.pure rfl rfl zbc ?_
  refine Ox.pure rfl rfl zpk ?_
  refine Ox.pure rfl rfl zmv ?_
  refine Ox.pure rfl rfl zfa ?_
  refine Ox.pure rfl rfl zfa ?_
  refine Ox.val rfl rfl zrs ?_
  by_cases hs11 : 0 ≤ f.lo; rotate_left
  · refine Ox.pure rfl rfl zbc ?_
    refine Ox.pure rfl rfl zpk ?_
    refine Ox.pure rfl rfl zmv ?_
    refine Ox.skip rfl rfl ?_
    refine Ox.skip rfl rfl ?_
    refine Ox.skip rfl rfl ?_
    refine Ox.skip rfl rfl ?_
    refine Ox.skip rfl rfl ?_
    refine Ox.skip rfl rfl ?_
    refine Ox.skip rfl rfl ?_
    refine Ox.pure rfl rfl zpk ?_
    refine Ox.pure rfl rfl zmv ?_
    refine Ox.skip rfl rfl ?_
    refine Ox.skip rfl rfl ?_
    refine Ox.skip rfl rfl ?_
    refine Ox.skip rfl rfl ?_
    refine Ox.pure rfl rfl zpk ?_
    refine Ox.pure rfl rfl zmv ?_
    refine Ox.skip rfl rfl ?_
    refine Ox.skip rfl rfl ?_
    refine Ox.skip rfl rfl ?_
    refine Ox.pure rfl rfl zpk ?_
    refine Ox.pure rfl rfl zmv ?_
    refine Ox.skip rfl rfl ?_
    refine Ox.skip rfl rfl ?_
    refine Ox.skip rfl rfl ?_
    refine Ox.pure rfl rfl zpk ?_
    refine Ox.pure rfl rfl zmv ?_
    refine Ox.skip rfl rfl ?_
    refine Ox.skip rfl rfl ?_
    refine Ox.skip rfl rfl ?_
    refine Ox.pure rfl rfl zpk ?_
    refine Ox.pure rfl rfl zmv ?_
    refine Ox.skip rfl rfl ?_
    refine Ox.skip rfl rfl ?_
    refine Ox.skip rfl rfl ?_
    refine Ox.pure rfl rfl zpk ?_
    refine Ox.pure rfl rfl zas ?_
    refine Ox.fin ?_
    refine zrt ?_
    exact endE_ret [_] ⟨rfl, trivial⟩ ⟨zxc, congrArg Value.bool (decide_eq_false (fun h => by unfold Fits at h; omega)).symm⟩
  refine Ox.pure rfl rfl zbc ?_
  refine Ox.pure rfl rfl zpk ?_
  refine Ox.pure rfl rfl zmv ?_
  refine Ox.pure rfl rfl zfa ?_
  refine Ox.pure rfl rfl zfa ?_
  refine Ox.val rfl rfl zrs ?_
  refine Ox.pure rfl rfl zfa ?_
  refine Ox.pure rfl rfl zfa ?_
  refine Ox.val rfl rfl zrs ?_
  by_cases hs12 : f.lo < f.hi; rotate_left
  · refine Ox.pure rfl rfl zbc ?_
    refine Ox.pure rfl rfl zpk ?_
    refine Ox.pure rfl rfl zmv ?_
    refine Ox.skip rfl rfl ?_
    refine Ox.skip rfl rfl ?_
    refine Ox.skip rfl rfl ?_
    refine Ox.skip rfl rfl ?_
    refine Ox.pure rfl rfl zpk ?_
    refine Ox.pure rfl rfl zmv ?_
    refine Ox.skip rfl rfl ?_
    refine Ox.skip rfl rfl ?_
    refine Ox.skip rfl rfl ?_
    refine Ox.pure rfl rfl zpk ?_
    refine Ox.pure rfl rfl zmv ?_
    refine Ox.skip rfl rfl ?_
    refine Ox.skip rfl rfl ?_
    refine Ox.skip rfl rfl ?_
    refine Ox.pure rfl rfl zpk ?_
    refine Ox.pure rfl rfl zmv ?_
    refine Ox.skip rfl rfl ?_
    refine Ox.skip rfl rfl ?_
    refine Ox.skip rfl rfl ?_
    refine Ox.pure rfl rfl zpk ?_
    refine Ox.pure rfl rfl zmv ?_
    refine Ox.skip rfl rfl ?_
    refine Ox.skip rfl rfl ?_
    refine Ox.skip rfl rfl ?_
    refine Ox.pure rfl rfl zpk ?_
    refine Ox.pure rfl rfl zas ?_
    refine Ox.fin ?_
    refine zrt ?_
    exact endE_ret [_] ⟨rfl, trivial⟩ ⟨zxc, congrArg Value.bool (decide_eq_false (fun h => by unfold Fits at h; omega)).symm⟩
  refine Ox.pure rfl rfl zbc ?_
  refine Ox.pure rfl rfl zpk ?_
  refine Ox.pure rfl rfl zmv ?_
  refine Ox.pure rfl rfl zfa ?_
  refine Ox.pure rfl rfl zfa ?_
  refine Ox.val rfl rfl zrs ?_
  by_cases hs13 : f.hi ≤ 1024; rotate_left
  · refine Ox.pure rfl rfl zbc ?_
    refine Ox.pure rfl rfl zpk ?_
    refine Ox.pure rfl rfl zmv ?_
    refine Ox.skip rfl rfl ?_
    refine Ox.skip rfl rfl ?_
    refine Ox.skip rfl rfl ?_
    refine Ox.pure rfl rfl zpk ?_
    refine Ox.pure rfl rfl zmv ?_
    refine Ox.skip rfl rfl ?_
    refine Ox.skip rfl rfl ?_
    refine Ox.skip rfl rfl ?_
    refine Ox.pure rfl rfl zpk ?_
    refine Ox.pure rfl rfl zmv ?_
    refine Ox.skip rfl rfl ?_
    refine Ox.skip rfl rfl ?_
    refine Ox.skip rfl rfl ?_
    refine Ox.pure rfl rfl zpk ?_
    refine Ox.pure rfl rfl zmv ?_
    refine Ox.skip rfl rfl ?_
    refine Ox.skip rfl rfl ?_
    refine Ox.skip rfl rfl ?_
    refine Ox.pure rfl rfl zpk ?_
    refine Ox.pure rfl rfl zas ?_
    refine Ox.fin ?_
    refine zrt ?_
    exact endE_ret [_] ⟨rfl, trivial⟩ ⟨zxc, congrArg Value.bool (decide_eq_false (fun h => by unfold Fits at h; omega)).symm⟩
  refine Ox.pure rfl rfl zbc ?_
  refine Ox.pure rfl rfl zpk ?_
  refine Ox.pure rfl rfl zmv ?_
  refine Ox.pure rfl rfl zfa ?_
  refine Ox.val rfl rfl zrs ?_
  by_cases hs14 : 1 ≤ f.known; rotate_left
  · refine Ox.pure rfl rfl zbc ?_
    refine Ox.pure rfl rfl zpk ?_
    refine Ox.pure rfl rfl zmv ?_
    refine Ox.skip rfl rfl ?_
    refine Ox.skip rfl rfl ?_
    refine Ox.skip rfl rfl ?_
    refine Ox.pure rfl rfl zpk ?_
    refine Ox.pure rfl rfl zmv ?_
    refine Ox.skip rfl rfl ?_
    refine Ox.skip rfl rfl ?_
    refine Ox.skip rfl rfl ?_
    refine Ox.pure rfl rfl zpk ?_
    refine Ox.pure rfl rfl zmv ?_
    refine Ox.skip rfl rfl ?_
    refine Ox.skip rfl rfl ?_
    refine Ox.skip rfl rfl ?_
    refine Ox.pure rfl rfl zpk ?_
    refine Ox.pure rfl rfl zas ?_
    refine Ox.fin ?_
    refine zrt ?_
    exact endE_ret [_] ⟨rfl, trivial⟩ ⟨zxc, congrArg Value.bool (decide_eq_false (fun h => by unfold Fits at h; omega)).symm⟩
  refine Ox.pure rfl rfl zbc ?_
  refine Ox.pure rfl rfl zpk ?_
  refine Ox.pure rfl rfl zmv ?_
  refine Ox.pure rfl rfl zfa ?_
  refine Ox.val rfl rfl zrs ?_
  by_cases hs15 : f.known ≤ 16777216; rotate_left
  · refine Ox.pure rfl rfl zbc ?_
    refine Ox.pure rfl rfl zpk ?_
    refine Ox.pure rfl rfl zmv ?_
    refine Ox.skip rfl rfl ?_
    refine Ox.skip rfl rfl ?_
    refine Ox.skip rfl rfl ?_
    refine Ox.pure rfl rfl zpk ?_
    refine Ox.pure rfl rfl zmv ?_
    refine Ox.skip rfl rfl ?_
    refine Ox.skip rfl rfl ?_
    refine Ox.skip rfl rfl ?_
    refine Ox.pure rfl rfl zpk ?_
    refine Ox.pure rfl rfl zas ?_
    refine Ox.fin ?_
    refine zrt ?_
    exact endE_ret [_] ⟨rfl, trivial⟩ ⟨zxc, congrArg Value.bool (decide_eq_false (fun h => by unfold Fits at h; omega)).symm⟩
  refine Ox.pure rfl rfl zbc ?_
  refine Ox.pure rfl rfl zpk ?_
  refine Ox.pure rfl rfl zmv ?_
  refine Ox.pure rfl rfl zfa ?_
  refine Ox.val rfl rfl zrs ?_
  by_cases hs16 : 0 ≤ f.no; rotate_left
  · refine Ox.pure rfl rfl zbc ?_
    refine Ox.pure rfl rfl zpk ?_
    refine Ox.pure rfl rfl zmv ?_
    refine Ox.skip rfl rfl ?_
    refine Ox.skip rfl rfl ?_
    refine Ox.skip rfl rfl ?_
    refine Ox.pure rfl rfl zpk ?_
    refine Ox.pure rfl rfl zas ?_
    refine Ox.fin ?_
    refine zrt ?_
    exact endE_ret [_] ⟨rfl, trivial⟩ ⟨zxc, congrArg Value.bool (decide_eq_false (fun h => by unfold Fits at h; omega)).symm⟩
  refine Ox.pure rfl rfl zbc ?_
  refine Ox.pure rfl rfl zpk ?_
  refine Ox.pure rfl rfl zmv ?_
  refine Ox.pure rfl rfl zfa ?_
  refine Ox.val rfl rfl zrs ?_
  by_cases hs17 : f.no ≤ 65535; rotate_left
  · refine Ox.pure rfl rfl zbc ?_
    refine Ox.pure rfl rfl zpk ?_
    refine Ox.pure rfl rfl zas ?_
    refine Ox.fin ?_
    refine zrt ?_
    exact endE_ret [_] ⟨rfl, trivial⟩ ⟨zxc, congrArg Value.bool (decide_eq_false (fun h => by unfold Fits at h; omega)).symm⟩
  refine Ox.pure rfl rfl zbc ?_
  refine Ox.pure rfl rfl zpk ?_
  refine Ox.pure rfl rfl zas ?_
  refine Ox.fin ?_
  refine zrt ?_
  exact endE_ret [_] ⟨rfl, trivial⟩ ⟨zxc, congrArg Value.bool (decide_eq_true (by unfold Fits; omega)).symm⟩

/-- Where a list first meets a condition. -/
def Idx {α : Type} (q : α → Bool) (l : List α) (k : Int) : Prop := (k = -1 ∧ ∀ f ∈ l, q f = false) ∨ ∃ i, ∃ h : i < l.length, k = (i : Int) ∧ q l[i] = true ∧ ∀ f ∈ l.take i, q f = false
theorem Idx.any {α : Type} {q : α → Bool} {l : List α} {k : Int} (h : Idx q l k) : decide (0 ≤ k) = l.any q := by
  rcases h with ⟨rfl, h⟩ | ⟨i, hi, rfl, h, _⟩
  · rw [decide_eq_false (by decide)]
    symm; rw [Bool.eq_false_iff]
    intro ht
    obtain ⟨f, h1, h2⟩ := List.any_eq_true.1 ht
    rw [h f h1] at h2; cases h2
  · rw [decide_eq_true (by omega)]
    symm; exact List.any_eq_true.2 ⟨_, List.getElem_mem hi, h⟩
theorem take_succ_all {α : Type} {q : α → Bool} {l : List α} {i : Nat} (hi : i < l.length) (h : ∀ f ∈ l.take i, q f = false) (h2 : q l[i] = false) : ∀ f ∈ l.take (i + 1), q f = false := by
  rw [← List.take_append_getElem hi]
  intro f hf
  rcases List.mem_append.1 hf with h3 | h3
  · exact h f h3
  · rw [List.mem_singleton.1 h3]; exact h2

/-- A function value that answers for facts as q does. -/
def Asks (w : World) (g : FuncId) (cap : Array Value) (l : List Fct) (q : Fct → Bool) : Prop :=
  ∀ f ∈ l, ∀ w', Ext [] w w' → Calls Try.prog g (#[.agg (fc f).toArray] ++ cap) w' (Ret fun r w'' => Ext [] w' w'' ∧ r = .bool (q f))

theorem indexFact_at (l : List Fct) (q : Fct → Bool) (g : FuncId) (cap : Array Value) (hg : callable Try.prog g = true) (p : Option Addr) (A : Addr) (c : Nat) (w : World) (hs : SlV fc w p A l c) (hq : Asks w g cap l q) :
    Calls Try.prog 74 #[.slice p l.length c, .func (.func g) #[] cap] w (Ret fun r w' => Ext [] w w' ∧ ∃ k, r = .int .i64 k ∧ Idx q l k) := by
  have hfew := hs.few
  have hp := hs.ptr
  have hrow := hs.row
  refine calls_of_Sx (args := [.slice p l.length c, .func (.func g) #[] cap]) Try.func74 rfl rfl ?_
  refine ztx ?_
  refine Ox.pure rfl rfl zas ?_
  refine Ox.fin ?_
  refine ztx ?_
  refine Ox.pure rfl rfl zmv ?_
  refine Ox.pure rfl rfl (rp_lenS rfl rfl rfl) ?_
  refine Ox.pure rfl rfl zmv ?_
  refine Ox.fin ?_
  refine zbl ?_
  refine Sx.loop (ι := Nat) (fun i E wr => E = [(0, .slice p l.length c), (1, .func (.func g) #[] cap), (7, .int .i64 (l.length : Int)), (8, .int .i64 (i : Int))] ∧ i ≤ l.length ∧ (∀ f ∈ l.take i, q f = false) ∧ Ext [] w wr) (fun i => l.length - i) 0
    (sub_cons rfl (sub_cons rfl (sub_cons rfl (sub_cons rfl sub_nil)))) ⟨rfl, Nat.zero_le _, by simp, zxc⟩ ?_
  rintro i E wr ⟨rfl, hi, hf, er⟩
  by_cases hlt : i < l.length
  · have hat := rowsV_at fc_len hlt
    have hl8 := fc_len l[i]
    cases hqi : q l[i] with
    | true =>
      refine ztx ?_
      refine Ox.pure rfl rfl zbc ?_
      refine Ox.fin ?_
      refine zct ?_
      refine zsk ?_
      refine zbl ?_
      refine ztx ?_
      refine Ox.pure rfl rfl zmv ?_
      refine Ox.pure rfl rfl zas ?_
      refine Ox.fin ?_
      refine ztx ?_
      refine Ox.pure rfl rfl zmv ?_
      refine Ox.pure rfl rfl zmv ?_
      refine Ox.pure rfl rfl zmv ?_
      refine Ox.pure rfl rfl zix ?_
      refine Ox.val rfl rfl zra ?_
      refine Ox.act rfl rfl (acts_callv rfl rfl rfl hg (hq _ (List.getElem_mem hlt) _ zxc)) ?_
      rintro v18 w18 ⟨e18, rfl⟩
      have hz18 := e18.size
      refine Ox.fin ?_
      refine zct ?_
      refine ztx ?_
      refine Ox.pure rfl rfl zmv ?_
      refine Ox.pure rfl rfl zas ?_
      refine Ox.fin ?_
      refine zrt ?_
      exact endE_ret [_] ⟨rfl, trivial⟩ ⟨zxc, _, rfl, .inr ⟨i, hlt, rfl, hqi, hf⟩⟩
    | false =>
      refine ztx ?_
      refine Ox.pure rfl rfl zbc ?_
      refine Ox.fin ?_
      refine zct ?_
      refine zsk ?_
      refine zbl ?_
      refine ztx ?_
      refine Ox.pure rfl rfl zmv ?_
      refine Ox.pure rfl rfl zas ?_
      refine Ox.fin ?_
      refine ztx ?_
      refine Ox.pure rfl rfl zmv ?_
      refine Ox.pure rfl rfl zmv ?_
      refine Ox.pure rfl rfl zmv ?_
      refine Ox.pure rfl rfl zix ?_
      refine Ox.val rfl rfl zra ?_
      refine Ox.act rfl rfl (acts_callv rfl rfl rfl hg (hq _ (List.getElem_mem hlt) _ zxc)) ?_
      rintro v19 w19 ⟨e19, rfl⟩
      have hz19 := e19.size
      refine Ox.fin ?_
      refine zcf ?_
      refine zsk ?_
      refine ztx ?_
      refine Ox.pure rfl rfl zba ?_
      refine Ox.pure rfl rfl zmv ?_
      refine Ox.fin ?_
      exact ⟨i + 1, _, sub_cons rfl (sub_cons rfl (sub_cons rfl (sub_cons rfl sub_nil))), ⟨rfl, hlt, take_succ_all hlt hf hqi, zxc⟩, by omega⟩
  · rw [List.take_of_length_le (by omega)] at hf
    refine ztx ?_
    refine Ox.pure rfl rfl zbc ?_
    refine Ox.fin ?_
    refine zcf ?_
    refine zex ?_
    refine ztx ?_
    refine Ox.pure rfl rfl zas ?_
    refine Ox.fin ?_
    refine zrt ?_
    exact endE_ret [_] ⟨rfl, trivial⟩ ⟨zxc, _, rfl, .inl ⟨rfl, hf⟩⟩

theorem containsFact_at (l : List Fct) (q : Fct → Bool) (g : FuncId) (cap : Array Value) (hg : callable Try.prog g = true) (p : Option Addr) (A : Addr) (c : Nat) (w : World) (hs : SlV fc w p A l c) (hq : Asks w g cap l q) :
    Calls Try.prog 52 #[.slice p l.length c, .func (.func g) #[] cap] w (Ret fun r w' => Ext [] w w' ∧ r = .bool (l.any q)) := by
  refine calls_of_Sx (args := [.slice p l.length c, .func (.func g) #[] cap]) Try.func52 rfl rfl ?_
  refine ztx ?_
  refine Ox.pure rfl rfl zas ?_
  refine Ox.fin ?_
  refine ztx ?_
  refine Ox.pure rfl rfl zmv ?_
  refine Ox.pure rfl rfl zmv ?_
  refine Ox.act rfl rfl (acts_call rfl rfl rfl (indexFact_at l q g cap hg p A c _ (hs.ext0 zxc) (fun f hf w' he => hq f hf w' (Ext.trans zxc he)))) ?_
  rintro vix wix ⟨eix, k, rfl, hk⟩
  have hzix := eix.size
  refine Ox.pure rfl rfl zbc ?_
  refine Ox.pure rfl rfl zas ?_
  refine Ox.fin ?_
  refine zrt ?_
  exact endE_ret [_] ⟨rfl, trivial⟩ ⟨zxc, congrArg Value.bool hk.any⟩

theorem check1_at (f : Fct) (w : World) : Calls Try.prog 53 #[.agg (fc f).toArray] w (Ret fun r w' => Ext [] w w' ∧ r = .bool (!decide (Fits f))) := by
  refine calls_of_Sx (args := [.agg (fc f).toArray]) Try.func53 rfl rfl ?_
  refine ztx ?_
  refine Ox.act rfl rfl (acts_box rfl rfl) ?_
  rintro vbx wbx ⟨ebx, bbx, rfl, hbbx, hBbx⟩
  first | (have hCbx : Cells wbx ⟨bbx, 0, none⟩ [_, _, _, _, _, _, _, _] := hBbx.cells) | have hCbx := Blk.cellsL hBbx
  have hlbx := hBbx.lt
  have hzbx := ebx.size
  refine Ox.pure rfl rfl zas ?_
  refine Ox.fin ?_
  refine ztx ?_
  refine Ox.val rfl rfl zra ?_
  refine Ox.act rfl rfl (acts_call rfl rfl rfl (fits_at f _)) ?_
  rintro v20 w20 ⟨e20, rfl⟩
  have hz20 := e20.size
  refine Ox.pure rfl rfl (rp_not rfl rfl) ?_
  refine Ox.pure rfl rfl zas ?_
  refine Ox.fin ?_
  refine zrt ?_
  exact endE_ret [_] ⟨rfl, trivial⟩ ⟨zxc, rfl⟩

theorem any_notFits (l : List Fct) : l.any (fun f => !decide (Fits f)) = !decide (∀ f ∈ l, Fits f) := by
  by_cases h : ∀ f ∈ l, Fits f
  · rw [decide_eq_true h, Bool.not_true, Bool.eq_false_iff]
    intro ht
    obtain ⟨f, h1, h2⟩ := List.any_eq_true.1 ht
    simp [h f h1] at h2
  · rw [decide_eq_false h]
    simp only [Bool.not_false, List.any_eq_true]
    exact Classical.byContradiction fun hn => h fun f hf => Classical.byContradiction fun h2 => hn ⟨f, hf, by simp [h2]⟩

theorem check_at (l : List Fct) (p : Option Addr) (A : Addr) (c : Nat) (w : World) (hs : SlV fc w p A l c) : Calls Try.prog 30 #[.slice p l.length c] w (Ret fun r w' => Ext [] w w' ∧ r = .int .i64 (checkL l)) := by
  have hfew := hs.few
  have hp := hs.ptr
  have hrow := hs.row
  have hle := hs.le
  have hsm := hs.small
  refine calls_of_Sx (args := [.slice p l.length c]) Try.func30 rfl rfl ?_
  by_cases hall : ∀ f ∈ l, Fits f
  · refine ztx ?_
    refine Ox.pure rfl rfl zas ?_
    refine Ox.fin ?_
    refine ztx ?_
    refine Ox.pure rfl rfl zmv ?_
    refine Ox.act rfl rfl (acts_call rfl rfl rfl (containsFact_at l (fun f => !decide (Fits f)) 53 #[] rfl p A c _ (hs.ext0 zxc) (fun f _ w' _ => check1_at f w'))) ?_
    rintro v21 w21 ⟨e21, rfl⟩
    have hz21 := e21.size
    rw [any_notFits]
    rw [decide_eq_true hall]
    refine Ox.fin ?_
    refine zcf ?_
    refine zsk ?_
    refine ztx ?_
    refine Ox.pure rfl rfl zmv ?_
    refine Ox.pure rfl rfl zmv ?_
    refine Ox.pure rfl rfl (rp_lenS rfl rfl rfl) ?_
    refine Ox.pure rfl rfl ((show (min (1 : Int) (l.length : Int) = ((min 1 l.length : Nat) : Int)) by omega) ▸ rp_min rfl rfl rfl) ?_
    refine Ox.pure rfl rfl (rp_sliceS (min 1 l.length) l.length rfl rfl rfl rfl rfl rfl (.inr ⟨_, rfl⟩) (.inl ⟨rfl, rfl⟩) (by omega) hle) ?_
    refine Ox.pure rfl rfl (rp_lenS rfl rfl rfl) ?_
    refine Ox.pure rfl rfl zmv ?_
    refine Ox.fin ?_
    refine zbl ?_
    refine Sx.loop (ι := Nat) (fun i E wr => E = [(0, .slice p l.length c), (11, .int .i64 ((l.length - min 1 l.length : Nat) : Int)), (12, .int .i64 (i : Int))] ∧ i ≤ l.length - 1 ∧ (∀ j (h : j < l.length - 1), j < i → before (l[j]'(by omega)) (l[j + 1]'(by omega))) ∧ Ext [] w wr) (fun i => l.length - i) 0
      (sub_cons rfl (sub_cons rfl (sub_cons rfl sub_nil))) ⟨rfl, Nat.zero_le _, fun j _ hj => absurd hj (by omega), zxc⟩ ?_
    rintro i E wr ⟨rfl, hi, hf, er⟩
    by_cases hlt : i < l.length - 1
    · have hi1 : i < l.length := by omega
      have hi2 : i + 1 < l.length := by omega
      have hat1 := rowsV_at fc_len hi1
      have hat2 := rowsV_at fc_len hi2
      have hl81 := fc_len l[i]
      have hl82 := fc_len l[i + 1]
      have hge := cmpF_ge l[i] l[i + 1]
      by_cases hb : before l[i] l[i + 1]
      · have hneg : ¬ 0 ≤ cmpF l[i] l[i + 1] := fun h => hge.1 h hb
        refine ztx ?_
        refine Ox.pure rfl rfl zbc ?_
        refine Ox.fin ?_
        refine zct ?_
        refine zsk ?_
        refine zbl ?_
        refine ztx ?_
        refine Ox.pure rfl rfl zmv ?_
        refine Ox.pure rfl rfl zas ?_
        refine Ox.fin ?_
        (repeat refine Sx.seq ?_)
        refine Sx.walkR rfl (fun _ _ _ _ h => h) [0, 1, 2, 3, 4, 5, 6, 7, 8, 9, 10] [0, 1, 2, 3, 4, 5, 6, 7, 8, 10] (0) (by kernel_rfl) ?_
        intro hq w22 e22; have hz22 := e22.size
        refine Wx.pure hq rfl rfl rfl rfl zmv ?_
        refine Wx.pure hq rfl rfl rfl rfl zmv ?_
        refine Wx.pure hq rfl rfl rfl rfl zix ?_
        refine Wx.val hq rfl rfl rfl rfl ([]) zra ?_
        refine Wx.pure hq rfl rfl rfl rfl zmv ?_
        refine Wx.pure hq rfl rfl rfl rfl zmv ?_
        refine Wx.pure hq rfl rfl rfl rfl zba ?_
        refine Wx.pure hq rfl rfl rfl rfl (rp_indexAddr (i + 1) rfl rfl rfl rfl rfl (by assumption) (by omega) (by omega)) ?_
        refine Wx.val hq rfl rfl rfl rfl ([]) zra ?_
        refine Wx.actNew rfl rfl rfl rfl (acts_call rfl rfl rfl (compare_at l[i] l[i + 1] _)) ?_
        rintro v23 w23 e23 rfl
        have hz23 := e23.size
        refine Wx.pure hq rfl rfl rfl rfl zbc ?_
        refine Wx.fin ?_
        refine zcf ?_
        refine zsk ?_
        refine ztx ?_
        refine Ox.pure rfl rfl zba ?_
        refine Ox.pure rfl rfl zmv ?_
        refine Ox.fin ?_
        refine ⟨i + 1, _, sub_cons rfl (sub_cons rfl (sub_cons rfl sub_nil)), ⟨rfl, by omega, fun j hj hji => ?_, zxc⟩, by omega⟩
        by_cases hjj : j = i
        · subst hjj; exact hb
        · exact hf j hj (by omega)
      · have hpos : 0 ≤ cmpF l[i] l[i + 1] := hge.2 hb
        refine ztx ?_
        refine Ox.pure rfl rfl zbc ?_
        refine Ox.fin ?_
        refine zct ?_
        refine zsk ?_
        refine zbl ?_
        refine ztx ?_
        refine Ox.pure rfl rfl zmv ?_
        refine Ox.pure rfl rfl zas ?_
        refine Ox.fin ?_
        (repeat refine Sx.seq ?_)
        refine Sx.walkR rfl (fun _ _ _ _ h => h) [0, 1, 2, 3, 4, 5, 6, 7, 8, 9, 10] [0, 1, 2, 3, 4, 5, 6, 7, 8, 10] (0) (by kernel_rfl) ?_
        intro hq w24 e24; have hz24 := e24.size
        refine Wx.pure hq rfl rfl rfl rfl zmv ?_
        refine Wx.pure hq rfl rfl rfl rfl zmv ?_
        refine Wx.pure hq rfl rfl rfl rfl zix ?_
        refine Wx.val hq rfl rfl rfl rfl ([]) zra ?_
        refine Wx.pure hq rfl rfl rfl rfl zmv ?_
        refine Wx.pure hq rfl rfl rfl rfl zmv ?_
        refine Wx.pure hq rfl rfl rfl rfl zba ?_
        refine Wx.pure hq rfl rfl rfl rfl (rp_indexAddr (i + 1) rfl rfl rfl rfl rfl (by assumption) (by omega) (by omega)) ?_
        refine Wx.val hq rfl rfl rfl rfl ([]) zra ?_
        refine Wx.actNew rfl rfl rfl rfl (acts_call rfl rfl rfl (compare_at l[i] l[i + 1] _)) ?_
        rintro v25 w25 e25 rfl
        have hz25 := e25.size
        refine Wx.pure hq rfl rfl rfl rfl zbc ?_
        refine Wx.fin ?_
        refine zct ?_
        refine ztx ?_
        refine Ox.pure rfl rfl zas ?_
        refine Ox.fin ?_
        refine zrt ?_
        exact endE_ret [_] ⟨rfl, trivial⟩ ⟨zxc, by rw [checkL, if_pos hall, if_neg (fun h => hb (h i hlt))]; rfl⟩
    · refine ztx ?_
      refine Ox.pure rfl rfl zbc ?_
      refine Ox.fin ?_
      refine zcf ?_
      refine zex ?_
      refine ztx ?_
      refine Ox.pure rfl rfl zas ?_
      refine Ox.fin ?_
      refine zrt ?_
      exact endE_ret [_] ⟨rfl, trivial⟩ ⟨zxc, by rw [checkL, if_pos hall, if_pos (show Risen l from fun j hj => hf j hj (by omega))]; rfl⟩
  · refine ztx ?_
    refine Ox.pure rfl rfl zas ?_
    refine Ox.fin ?_
    refine ztx ?_
    refine Ox.pure rfl rfl zmv ?_
    refine Ox.act rfl rfl (acts_call rfl rfl rfl (containsFact_at l (fun f => !decide (Fits f)) 53 #[] rfl p A c _ (hs.ext0 zxc) (fun f _ w' _ => check1_at f w'))) ?_
    rintro v26 w26 ⟨e26, rfl⟩
    have hz26 := e26.size
    rw [any_notFits]
    rw [decide_eq_false hall]
    refine Ox.fin ?_
    refine zct ?_
    refine ztx ?_
    refine Ox.pure rfl rfl zas ?_
    refine Ox.fin ?_
    refine zrt ?_
    exact endE_ret [_] ⟨rfl, trivial⟩ ⟨zxc, by rw [checkL, if_neg hall]; rfl⟩

theorem ref_Check (l : List Fct) (p : Option Addr) (A : Addr) (c : Nat) (w : World) (hs : SlV fc w p A l c) : Calls Try.prog 34 #[.slice p l.length c] w (Ret fun r w' => Ext [] w w' ∧ r = .int .i64 (checkL l)) := by
  have hfew := hs.few
  have hp := hs.ptr
  have hrow := hs.row
  refine calls_of_Sx (args := [.slice p l.length c]) Try.func34 rfl rfl ?_
  refine ztx ?_
  refine Ox.pure rfl rfl zas ?_
  refine Ox.fin ?_
  refine ztx ?_
  refine Ox.pure rfl rfl zas ?_
  refine Ox.fin ?_
  refine Sx.upto (fun E' w' => (∀ t v, get [(0, .slice p l.length c)] t = some v → get E' t = some v) ∧ Ext [] w w' ∧ ∀ f ∈ l, Fits f) ?_ ?_
  · refine zbl ?_
    refine Sx.loop (ι := Nat) (fun i E wr => E = [(0, .slice p l.length c), (3, .int .i64 (i : Int))] ∧ i ≤ l.length ∧ (∀ f ∈ l.take i, Fits f) ∧ Ext [] w wr) (fun i => l.length - i) 0
      (sub_cons rfl (sub_cons rfl sub_nil)) ⟨rfl, Nat.zero_le _, by simp, zxc⟩ ?_
    rintro i E wr ⟨rfl, hi, hf, er⟩
    by_cases hlt : i < l.length
    · have hat := rowsV_at fc_len hlt
      have hl8 := fc_len l[i]
      by_cases hv : Fits l[i]
      · refine ztx ?_
        refine Ox.pure rfl rfl zmv ?_
        refine Ox.pure rfl rfl zmv ?_
        refine Ox.pure rfl rfl (rp_lenS rfl rfl rfl) ?_
        refine Ox.pure rfl rfl zbc ?_
        refine Ox.fin ?_
        refine zct ?_
        refine zsk ?_
        refine zbl ?_
        refine ztx ?_
        refine Ox.pure rfl rfl zmv ?_
        refine Ox.pure rfl rfl zmv ?_
        refine Ox.pure rfl rfl zix ?_
        refine Ox.val rfl rfl zra ?_
        refine Ox.act rfl rfl (acts_call rfl rfl rfl (ref_Valid l[i] _)) ?_
        rintro v27 w27 ⟨e27, rfl⟩
        have hz27 := e27.size
        rw [decide_eq_true hv]
        refine Ox.pure rfl rfl (rp_not rfl rfl) ?_
        refine Ox.fin ?_
        refine zcf ?_
        refine zsk ?_
        refine ztx ?_
        refine Ox.pure rfl rfl zmv ?_
        refine Ox.pure rfl rfl zba ?_
        refine Ox.pure rfl rfl zas ?_
        refine Ox.fin ?_
        refine ⟨i + 1, _, sub_cons rfl (sub_cons rfl sub_nil), ⟨rfl, hlt, ?_, zxc⟩, by omega⟩
        rw [← List.take_append_getElem hlt]
        intro f hm
        rcases List.mem_append.1 hm with h3 | h3
        · exact hf f h3
        · rw [List.mem_singleton.1 h3]; exact hv
      · refine ztx ?_
        refine Ox.pure rfl rfl zmv ?_
        refine Ox.pure rfl rfl zmv ?_
        refine Ox.pure rfl rfl (rp_lenS rfl rfl rfl) ?_
        refine Ox.pure rfl rfl zbc ?_
        refine Ox.fin ?_
        refine zct ?_
        refine zsk ?_
        refine zbl ?_
        refine ztx ?_
        refine Ox.pure rfl rfl zmv ?_
        refine Ox.pure rfl rfl zmv ?_
        refine Ox.pure rfl rfl zix ?_
        refine Ox.val rfl rfl zra ?_
        refine Ox.act rfl rfl (acts_call rfl rfl rfl (ref_Valid l[i] _)) ?_
        rintro v28 w28 ⟨e28, rfl⟩
        have hz28 := e28.size
        rw [decide_eq_false hv]
        refine Ox.pure rfl rfl (rp_not rfl rfl) ?_
        refine Ox.fin ?_
        refine zct ?_
        refine ztx ?_
        refine Ox.pure rfl rfl zas ?_
        refine Ox.fin ?_
        refine zrt ?_
        exact endE_ret [_] ⟨rfl, trivial⟩ ⟨zxc, by rw [checkL, if_neg (fun h => hv (h _ (List.getElem_mem hlt)))]; rfl⟩
    · rw [List.take_of_length_le (by omega)] at hf
      refine ztx ?_
      refine Ox.pure rfl rfl zmv ?_
      refine Ox.pure rfl rfl zmv ?_
      refine Ox.pure rfl rfl (rp_lenS rfl rfl rfl) ?_
      refine Ox.pure rfl rfl zbc ?_
      refine Ox.fin ?_
      refine zcf ?_
      refine zex ?_
      exact ⟨sub_cons rfl sub_nil, zxc, hf⟩
  · rintro E' wa ⟨hsub, ea, hall⟩
    refine thenE_normal (Sx.weaken ?_ hsub)
    refine ztx ?_
    refine Ox.pure rfl rfl zas ?_
    refine Ox.fin ?_
    refine zbl ?_
    refine Sx.loop (ι := Nat) (fun i E wr => E = [(0, .slice p l.length c), (4, .int .i64 ((i + 1 : Nat) : Int))] ∧ i ≤ l.length ∧ (∀ j (h : j < l.length - 1), j < i → before (l[j]'(by omega)) (l[j + 1]'(by omega))) ∧ Ext [] wa wr) (fun i => l.length - i) 0
      (sub_cons rfl (sub_cons rfl sub_nil)) ⟨rfl, Nat.zero_le _, fun j _ hj => absurd hj (by omega), zxc⟩ ?_
    rintro i E wr ⟨rfl, hi, hf, er⟩
    by_cases hlt : i + 1 < l.length
    · have hi1 : i < l.length := by omega
      have hat1 := rowsV_at fc_len hi1
      have hat2 := rowsV_at fc_len hlt
      have hl81 := fc_len l[i]
      have hl82 := fc_len l[i + 1]
      by_cases hb : before l[i] l[i + 1]
      · refine ztx ?_
        refine Ox.pure rfl rfl zmv ?_
        refine Ox.pure rfl rfl zmv ?_
        refine Ox.pure rfl rfl (rp_lenS rfl rfl rfl) ?_
        refine Ox.pure rfl rfl zbc ?_
        refine Ox.fin ?_
        refine zct ?_
        refine zsk ?_
        refine zbl ?_
        (repeat refine Sx.seq ?_)
        refine Sx.walkR rfl (fun _ _ _ _ h => h) [0, 1, 2, 3, 4, 5, 6, 7, 8, 9, 10] [0, 1, 2, 3, 4, 5, 6, 7, 8, 10] (0) (by kernel_rfl) ?_
        intro hq w29 e29; have hz29 := e29.size
        refine Wx.pure hq rfl rfl rfl rfl zmv ?_
        refine Wx.pure hq rfl rfl rfl rfl zmv ?_
        refine Wx.pure hq rfl rfl rfl rfl zbs ?_
        refine Wx.pure hq rfl rfl rfl rfl (rp_indexAddr i rfl rfl rfl rfl rfl (by assumption) (by omega) (by omega)) ?_
        refine Wx.val hq rfl rfl rfl rfl ([]) zra ?_
        refine Wx.pure hq rfl rfl rfl rfl zmv ?_
        refine Wx.pure hq rfl rfl rfl rfl zmv ?_
        refine Wx.pure hq rfl rfl rfl rfl zix ?_
        refine Wx.val hq rfl rfl rfl rfl ([]) zra ?_
        refine Wx.actNew rfl rfl rfl rfl (acts_call rfl rfl rfl (ref_Before l[i] l[i + 1] _)) ?_
        rintro v30 w30 e30 rfl
        have hz30 := e30.size
        rw [decide_eq_true hb]
        refine Wx.pure hq rfl rfl rfl rfl (rp_not rfl rfl) ?_
        refine Wx.fin ?_
        refine zcf ?_
        refine zsk ?_
        refine ztx ?_
        refine Ox.pure rfl rfl zmv ?_
        refine Ox.pure rfl rfl zba ?_
        refine Ox.pure rfl rfl zas ?_
        refine Ox.fin ?_
        refine ⟨i + 1, _, sub_cons rfl (sub_int rfl (by omega) sub_nil), ⟨rfl, by omega, fun j hj hji => ?_, zxc⟩, by omega⟩
        by_cases hjj : j = i
        · subst hjj; exact hb
        · exact hf j hj (by omega)
      · refine ztx ?_
        refine Ox.pure rfl rfl zmv ?_
        refine Ox.pure rfl rfl zmv ?_
        refine Ox.pure rfl rfl (rp_lenS rfl rfl rfl) ?_
        refine Ox.pure rfl rfl zbc ?_
        refine Ox.fin ?_
        refine zct ?_
        refine zsk ?_
        refine zbl ?_
        (repeat refine Sx.seq ?_)
        refine Sx.walkR rfl (fun _ _ _ _ h => h) [0, 1, 2, 3, 4, 5, 6, 7, 8, 9, 10] [0, 1, 2, 3, 4, 5, 6, 7, 8, 10] (0) (by kernel_rfl) ?_
        intro hq w31 e31; have hz31 := e31.size
        refine Wx.pure hq rfl rfl rfl rfl zmv ?_
        refine Wx.pure hq rfl rfl rfl rfl zmv ?_
        refine Wx.pure hq rfl rfl rfl rfl zbs ?_
        refine Wx.pure hq rfl rfl rfl rfl (rp_indexAddr i rfl rfl rfl rfl rfl (by assumption) (by omega) (by omega)) ?_
        refine Wx.val hq rfl rfl rfl rfl ([]) zra ?_
        refine Wx.pure hq rfl rfl rfl rfl zmv ?_
        refine Wx.pure hq rfl rfl rfl rfl zmv ?_
        refine Wx.pure hq rfl rfl rfl rfl zix ?_
        refine Wx.val hq rfl rfl rfl rfl ([]) zra ?_
        refine Wx.actNew rfl rfl rfl rfl (acts_call rfl rfl rfl (ref_Before l[i] l[i + 1] _)) ?_
        rintro v32 w32 e32 rfl
        have hz32 := e32.size
        rw [decide_eq_false hb]
        refine Wx.pure hq rfl rfl rfl rfl (rp_not rfl rfl) ?_
        refine Wx.fin ?_
        refine zct ?_
        refine ztx ?_
        refine Ox.pure rfl rfl zas ?_
        refine Ox.fin ?_
        refine zrt ?_
        exact endE_ret [_] ⟨rfl, trivial⟩ ⟨zxc, by rw [checkL, if_pos hall, if_neg (fun h => hb (h i (by omega)))]; rfl⟩
    · refine ztx ?_
      refine Ox.pure rfl rfl zmv ?_
      refine Ox.pure rfl rfl zmv ?_
      refine Ox.pure rfl rfl (rp_lenS rfl rfl rfl) ?_
      refine Ox.pure rfl rfl zbc ?_
      refine Ox.fin ?_
      refine zcf ?_
      refine zex ?_
      refine ztx ?_
      refine Ox.pure rfl rfl zas ?_
      refine Ox.fin ?_
      refine zrt ?_
      exact endE_ret [_] ⟨rfl, trivial⟩ ⟨zxc, by rw [checkL, if_pos hall, if_pos (show Risen l from fun j hj => hf j hj (by omega))]; rfl⟩

end Go.Proofs.Ytfgckcochilpkaa
