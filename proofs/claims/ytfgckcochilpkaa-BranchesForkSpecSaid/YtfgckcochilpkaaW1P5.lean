/- Texts of one proof, put together: BranY, BranA, BranX, BranW, EngK, BranB, BranC. -/
import Derived.Test.YtfgckcochilpkaaRows
import Derived.Laws.CopyOwn
import Derived.Deep.OwnRows
import Derived.Test.YtfgckcochilpkaaW1P4
/- Branches: what is computed, plainly; no program in sight. -/
set_option linter.unusedVariables false
set_option maxRecDepth 100000
set_option linter.unusedSimpArgs false
namespace Go.Proofs.Ytfgckcochilpkaa
open Go Go.Eng

structure Cr where
  key : Ky
  val : Int
  lo : Int
  hi : Int
theorem Cr.eq_iff {a b : Cr} : a = b ↔ a.key = b.key ∧ a.val = b.val ∧ a.lo = b.lo ∧ a.hi = b.hi := by cases a; cases b; simp
instance : DecidableEq Cr := fun a b => decidable_of_iff (a.key = b.key ∧ a.val = b.val ∧ a.lo = b.lo ∧ a.hi = b.hi) Cr.eq_iff.symm
abbrev cc (x : Cr) : List Value := [.int .i64 x.key.k, .int .i64 x.key.s, .int .i64 x.key.o, .int .i64 x.val, .int .i64 x.lo, .int .i64 x.hi]
theorem cc_len (x : Cr) : (cc x).length = 6 := rfl
theorem cc_one (x : Cr) : ∀ u ∈ cc x, u.oneCell' = true := by simp [cc, Value.oneCell']

/-! ## Facts that are added -/
theorem addL_ok {l : List Fct} {f : Fct} (h : (addL l f).2 = 0) : (addL l f).1 = l ++ [f] ∧ checkL l = 0 ∧ Fits f ∧ lastBad l f = false := by
  unfold addL at h ⊢
  by_cases h1 : checkL l ≠ 0
  · rw [if_pos h1] at h; exact absurd h h1
  · rw [if_neg h1] at h ⊢
    by_cases h2 : ¬ Fits f
    · rw [if_pos h2] at h; exact absurd h (by decide)
    · rw [if_neg h2] at h ⊢
      cases h3 : lastBad l f with
      | true => rw [h3, if_pos rfl] at h; exact absurd h (by decide)
      | false => exact ⟨rfl, Classical.not_not.1 h1, Classical.not_not.1 h2, rfl⟩
theorem addL_len (l : List Fct) (f : Fct) : (addL l f).1.length ≤ l.length + 1 := by
  unfold addL
  split
  · simp
  · split
    · simp
    · split <;> simp
theorem addL_fail {l : List Fct} {f : Fct} (h : (addL l f).2 ≠ 0) : (addL l f).1 = [] := by
  unfold addL at h ⊢
  split
  · rfl
  · rename_i h1
    rw [if_neg h1] at h
    split
    · rfl
    · rename_i h2
      rw [if_neg h2] at h
      split
      · rfl
      · rename_i h3
        rw [if_neg h3] at h
        exact absurd rfl h
theorem checkL_zero {l : List Fct} : checkL l = 0 ↔ (∀ f ∈ l, Fits f) ∧ Risen l := by
  unfold checkL
  by_cases h1 : ∀ f ∈ l, Fits f
  · rw [if_pos h1]
    by_cases h2 : Risen l
    · rw [if_pos h2]; exact ⟨fun _ => ⟨h1, h2⟩, fun _ => rfl⟩
    · rw [if_neg h2]; exact ⟨fun h => absurd h (by decide), fun h => absurd h.2 h2⟩
  · rw [if_neg h1]; exact ⟨fun h => absurd h (by decide), fun h => absurd h.1 h1⟩
theorem lastBad_no {l : List Fct} {f : Fct} (h : lastBad l f = false) (hl : 0 < l.length) : before (l[l.length - 1]'(by omega)) f := by
  unfold lastBad at h
  rw [List.getLast?_eq_getElem?, List.getElem?_eq_getElem (by omega)] at h
  simpa using h
theorem checkL_snoc {l : List Fct} {f : Fct} (hc : checkL l = 0) (hf : Fits f) (hb : lastBad l f = false) : checkL (l ++ [f]) = 0 := by
  obtain ⟨h1, h2⟩ := checkL_zero.1 hc
  refine checkL_zero.2 ⟨fun g hg => ?_, fun j hj => ?_⟩
  · rcases List.mem_append.1 hg with h | h
    · exact h1 g h
    · rw [List.mem_singleton.1 h]; exact hf
  · rw [List.length_append, List.length_singleton] at hj
    by_cases hj2 : j < l.length - 1
    · rw [List.getElem_append_left (by omega), List.getElem_append_left (by omega)]
      exact h2 j hj2
    · have e : j = l.length - 1 := by omega
      subst e
      rw [List.getElem_append_left (by omega), List.getElem_append_right (by omega)]
      have := lastBad_no hb (by omega)
      simpa using this
theorem checkL_take {l : List Fct} (h : checkL l = 0) (n : Nat) : checkL (l.take n) = 0 := by
  obtain ⟨h1, h2⟩ := checkL_zero.1 h
  refine checkL_zero.2 ⟨fun f hf => h1 f (List.mem_of_mem_take hf), fun j hj => ?_⟩
  rw [List.length_take] at hj
  rw [List.getElem_take, List.getElem_take]
  exact h2 j (by omega)

/-! ## Changes that are recorded -/
def nextK (l : List Fct) : Int := match l.getLast? with
  | some f => f.known + 1
  | none => 1
def chF (c : Cr) (known : Int) : Fct := ⟨c.key, c.val, c.lo, c.hi, known, 0⟩
def recL : List Fct → List Cr → List Fct × Int
  | l, [] => (l, 0)
  | l, c :: cs => if (addL l (chF c (nextK l))).2 = 0 then recL (addL l (chF c (nextK l))).1 cs else ([], (addL l (chF c (nextK l))).2)
theorem recL_cons (l : List Fct) (c : Cr) (cs : List Cr) : recL l (c :: cs) = if (addL l (chF c (nextK l))).2 = 0 then recL (addL l (chF c (nextK l))).1 cs else ([], (addL l (chF c (nextK l))).2) := rfl
theorem nextK_get {l : List Fct} (h : 0 < l.length) : nextK l = (l[l.length - 1]'(by omega)).known + 1 := by
  unfold nextK
  rw [List.getLast?_eq_getElem?, List.getElem?_eq_getElem (by omega)]
theorem recL_fail : ∀ {cs : List Cr} {l : List Fct}, (recL l cs).2 ≠ 0 → (recL l cs).1 = []
  | [], l, h => absurd rfl h
  | c :: cs, l, h => by
    rw [recL_cons] at h ⊢
    split
    · rename_i h0; rw [if_pos h0] at h; exact recL_fail h
    · rfl
theorem recL_length : ∀ (cs : List Cr) (l : List Fct), (recL l cs).1.length ≤ l.length + cs.length
  | [], l => by simp [recL]
  | c :: cs, l => by
    rw [recL_cons]
    split
    · have h1 := recL_length cs (addL l (chF c (nextK l))).1
      have h2 := addL_len l (chF c (nextK l))
      simp only [List.length_cons]; omega
    · simp
theorem recL_check : ∀ {cs : List Cr} {l : List Fct}, checkL l = 0 → checkL (recL l cs).1 = 0
  | [], l, h => h
  | c :: cs, l, h => by
    rw [recL_cons]
    split
    · rename_i h0
      obtain ⟨e, a, b, d⟩ := addL_ok h0
      rw [e]
      exact recL_check (checkL_snoc a b d)
    · rfl
theorem recL_append (b : List Cr) : ∀ (a : List Cr) (l : List Fct), recL l (a ++ b) = if (recL l a).2 = 0 then recL (recL l a).1 b else recL l a
  | [], l => rfl
  | c :: a, l => by
    rw [List.cons_append, recL_cons, recL_cons]
    by_cases h0 : (addL l (chF c (nextK l))).2 = 0
    · rw [if_pos h0, if_pos h0]; exact recL_append b a _
    · rw [if_neg h0, if_neg h0, if_neg h0]
theorem recL_ok : ∀ {cs : List Cr} {l : List Fct}, (recL l cs).2 = 0 → ∃ fs : List Fct, (recL l cs).1 = l ++ fs ∧ fs.length = cs.length ∧ fs.map (fun f => (⟨f.key, f.val, f.lo, f.hi⟩ : Cr)) = cs
  | [], l, h => ⟨[], by simp [recL], rfl, rfl⟩
  | c :: cs, l, h => by
    rw [recL_cons] at h ⊢
    by_cases h0 : (addL l (chF c (nextK l))).2 = 0
    · rw [if_pos h0] at h ⊢
      obtain ⟨e, a, b, d⟩ := addL_ok h0
      rw [e] at h ⊢
      obtain ⟨fs, h2, h3, h4⟩ := recL_ok h
      exact ⟨chF c (nextK l) :: fs, by rw [h2]; simp, by simp [h3], by rw [List.map_cons, h4]; rfl⟩
    · rw [if_neg h0] at h; exact absurd h h0

/-! ## Branchings -/
structure Br where
  base : List Fct
  brs : List (List Cr)
  par : List Int
  fks : List Int
  done : List Bool
theorem Br.eq_iff {a b : Br} : a = b ↔ a.base = b.base ∧ a.brs = b.brs ∧ a.par = b.par ∧ a.fks = b.fks ∧ a.done = b.done := by cases a; cases b; simp
instance : DecidableEq Br := fun a b => decidable_of_iff (a.base = b.base ∧ a.brs = b.brs ∧ a.par = b.par ∧ a.fks = b.fks ∧ a.done = b.done) Br.eq_iff.symm
def Br0 : Br := ⟨[], [], [], [], []⟩
def lenB (b : Br) (no : Int) : Nat := if no < 0 then b.base.length else (b.brs[no.toNat]?.getD []).length
def parB (b : Br) (i : Nat) : Int := b.par[i]?.getD 0
def fkB (b : Br) (i : Nat) : Int := b.fks[i]?.getD 0
def brB (b : Br) (i : Nat) : List Cr := b.brs[i]?.getD []
def doneB (b : Br) (i : Nat) : Bool := b.done[i]?.getD false
def Formed (b : Br) : Prop := b.brs.length ≤ 64 ∧ b.par.length = b.brs.length ∧ b.fks.length = b.brs.length ∧ b.done.length = b.brs.length ∧
  ∀ i, i < b.brs.length → (-1 ≤ parB b i ∧ parB b i < (i : Int)) ∧ 0 ≤ fkB b i ∧ fkB b i ≤ (lenB b (parB b i) : Int)
instance (b : Br) : Decidable (Formed b) := by unfold Formed; infer_instance
/-- The facts of a branch (k: its number and one; 0: Base) with its first changes. -/
def withN (b : Br) : Nat → Nat → Nat → List Fct × Int
  | _, 0, many => (b.base.take many, 0)
  | 0, _ + 1, _ => ([], 0)
  | f + 1, i + 1, many =>
    if (withN b f (parB b i + 1).toNat (fkB b i).toNat).2 ≠ 0 then ([], (withN b f (parB b i + 1).toNat (fkB b i).toNat).2)
    else recL (withN b f (parB b i + 1).toNat (fkB b i).toNat).1 ((brB b i).take many)
theorem withN_fuel {b : Br} (hf : Formed b) : ∀ (f g k many : Nat), k ≤ f → k ≤ g → k ≤ b.brs.length → withN b f k many = withN b g k many
  | f, g, 0, many, _, _, _ => by cases f <;> cases g <;> rfl
  | 0, g, k + 1, many, h, _, _ => absurd h (by omega)
  | f + 1, 0, k + 1, many, _, h, _ => absurd h (by omega)
  | f + 1, g + 1, i + 1, many, h1, h2, h3 => by
    have hp := (hf.2.2.2.2 i (by omega)).1
    have := withN_fuel hf f g (parB b i + 1).toNat (fkB b i).toNat (by omega) (by omega) (by omega)
    unfold withN
    rw [this]
theorem withN_zero (b : Br) (f many : Nat) : withN b f 0 many = (b.base.take many, 0) := by cases f <;> rfl
theorem withN_length {b : Br} {M : Nat} (h0 : b.base.length ≤ M) (h : ∀ i, (brB b i).length ≤ M) : ∀ (f k many : Nat), (withN b f k many).1.length ≤ (f + 1) * M
  | f, 0, many => by
    rw [withN_zero, List.length_take]
    have : M ≤ (f + 1) * M := Nat.le_mul_of_pos_left M (by omega)
    omega
  | 0, k + 1, many => Nat.zero_le _
  | f + 1, i + 1, many => by
    unfold withN
    split
    · exact Nat.zero_le _
    · have h1 := recL_length ((brB b i).take many) (withN b f (parB b i + 1).toNat (fkB b i).toNat).1
      have h2 := List.length_take_le' many (brB b i)
      have h3 := h i
      have ih := withN_length h0 h f (parB b i + 1).toNat (fkB b i).toNat
      rw [Nat.succ_mul]
      omega
theorem withN_check {b : Br} (h : checkL b.base = 0) : ∀ (f k many : Nat), checkL (withN b f k many).1 = 0
  | f, 0, many => by rw [withN_zero]; exact checkL_take h many
  | 0, k + 1, many => rfl
  | f + 1, i + 1, many => by
    unfold withN
    split
    · rfl
    · exact recL_check (withN_check h f _ _)
theorem withN_fail {b : Br} : ∀ (f k many : Nat), (withN b f k many).2 ≠ 0 → (withN b f k many).1 = []
  | f, 0, many, h => by rw [withN_zero] at h; exact absurd rfl h
  | 0, k + 1, many, h => rfl
  | f + 1, i + 1, many, h => by
    unfold withN at h ⊢
    split
    · rfl
    · rename_i h1
      rw [if_neg h1] at h
      exact recL_fail h
def withB (b : Br) (no : Int) (many : Nat) : List Fct × Int := withN b (no + 1).toNat (no + 1).toNat many
theorem withB_base {b : Br} {no : Int} (h : no < 0) (many : Nat) : withB b no many = (b.base.take many, 0) := by
  unfold withB; rw [show (no + 1).toNat = 0 by omega]; rfl
theorem withB_step {b : Br} (hf : Formed b) {i : Nat} (hi : i < b.brs.length) (many : Nat) : withB b (i : Int) many =
    if (withB b (parB b i) (fkB b i).toNat).2 ≠ 0 then ([], (withB b (parB b i) (fkB b i).toNat).2) else recL (withB b (parB b i) (fkB b i).toNat).1 ((brB b i).take many) := by
  have hp := (hf.2.2.2.2 i hi).1
  have h := withN_fuel hf i (parB b i + 1).toNat (parB b i + 1).toNat (fkB b i).toNat (by omega) (by omega) (by omega)
  unfold withB
  rw [show ((i : Int) + 1).toNat = i + 1 by omega]
  show (if (withN b i (parB b i + 1).toNat (fkB b i).toNat).2 ≠ 0 then ([], (withN b i (parB b i + 1).toNat (fkB b i).toNat).2) else recL (withN b i (parB b i + 1).toNat (fkB b i).toNat).1 ((brB b i).take many)) = _
  rw [h]
def ofB (b : Br) (no : Int) : List Fct × Int := withB b no (lenB b no)
def ValidB (b : Br) : Prop := Formed b ∧ checkL b.base = 0 ∧ ∀ i, i < b.brs.length → (ofB b (i : Int)).2 = 0
instance (b : Br) : Decidable (ValidB b) := by unfold ValidB; infer_instance
def OpenB (b : Br) (no : Int) : Prop := 0 ≤ no ∧ no < (b.brs.length : Int) ∧ doneB b no.toNat = false
instance (b : Br) (no : Int) : Decidable (OpenB b no) := by unfold OpenB; infer_instance
def newB (l : List Fct) : Br × Int := if checkL l ≠ 0 then (Br0, checkL l) else (⟨l, [], [], [], []⟩, 0)
def forkB (b : Br) (parent : Int) : Br × Int × Int :=
  if ¬ ValidB b then (Br0, 0, 540) else if parent ≠ -1 ∧ ¬ OpenB b parent then (Br0, 0, 1) else if b.brs.length = 64 then (Br0, 0, 2)
  else (⟨b.base, b.brs ++ [[]], b.par ++ [parent], b.fks ++ [(lenB b parent : Int)], b.done ++ [false]⟩, (b.brs.length : Int), 0)
def changeB (b : Br) (no : Int) (c : Cr) : Br × Int :=
  if ¬ ValidB b then (Br0, 540) else if ¬ OpenB b no then (Br0, 1) else if (recL (ofB b no).1 [c]).2 ≠ 0 then (Br0, (recL (ofB b no).1 [c]).2)
  else (⟨b.base, b.brs.set no.toNat (brB b no.toNat ++ [c]), b.par, b.fks, b.done⟩, 0)
def factsB (b : Br) (no : Int) : List Fct × Int :=
  if ¬ ValidB b then ([], 540) else if no < -1 ∨ (b.brs.length : Int) ≤ no then ([], 1) else ofB b no
def freshK (b : Br) (i : Nat) : List Ky := if parB b i < 0 then (b.base.drop (fkB b i).toNat).map Fct.key else ((brB b (parB b i).toNat).drop (fkB b i).toNat).map Cr.key
def keysK (l : List Ky) : List Ky := l.foldl insK []
def confB (b : Br) (i : Nat) : List Ky := (keysK ((brB b i).map Cr.key)).filter fun k => decide (k ∈ freshK b i)
def mergeB (b : Br) (no : Int) : Br × List Ky × Int :=
  if ¬ ValidB b then (Br0, [], 540) else if ¬ OpenB b no ∨ (parB b no.toNat ≠ -1 ∧ ¬ OpenB b (parB b no.toNat)) then (Br0, [], 1)
  else if 0 < (confB b no.toNat).length then (Br0, confB b no.toNat, 541)
  else if (recL (ofB b (parB b no.toNat)).1 (brB b no.toNat)).2 ≠ 0 then (Br0, [], (recL (ofB b (parB b no.toNat)).1 (brB b no.toNat)).2)
  else if parB b no.toNat < 0 then (⟨(recL (ofB b (parB b no.toNat)).1 (brB b no.toNat)).1, b.brs, b.par, b.fks, b.done.set no.toNat true⟩, [], 0)
  else (⟨b.base, b.brs.set (parB b no.toNat).toNat (brB b (parB b no.toNat).toNat ++ brB b no.toNat), b.par, b.fks, b.done.set no.toNat true⟩, [], 0)
def dropB (b : Br) (no : Int) : Br × Int :=
  if ¬ ValidB b then (Br0, 540) else if ¬ OpenB b no then (Br0, 1) else (⟨b.base, b.brs, b.par, b.fks, b.done.set no.toNat true⟩, 0)
end Go.Proofs.Ytfgckcochilpkaa

/- Branches' walks: branchings in the heap. -/
set_option linter.unusedVariables false
set_option maxRecDepth 100000
set_option maxHeartbeats 4000000
set_option linter.unusedSimpArgs false
namespace Go.Proofs.Ytfgckcochilpkaa
open Go Go.Eng

structure Bl where
  p : Option Addr
  c : Nat
  l : List Cr
abbrev blc (x : Bl) : List Value := [.slice x.p x.l.length x.c]
theorem blc_len (x : Bl) : (blc x).length = 1 := rfl
theorem blc_one (x : Bl) : ∀ u ∈ blc x, u.oneCell' = true := by simp [blc, Value.oneCell']
abbrev boc (b : Bool) : List Value := [.bool b]
theorem boc_len (b : Bool) : (boc b).length = 1 := rfl
theorem boc_one (b : Bool) : ∀ u ∈ boc b, u.oneCell' = true := by simp [boc, Value.oneCell']
theorem ic_one (a : Int) : ∀ u ∈ ic a, u.oneCell' = true := by simp [ic, Value.oneCell']
/-- A branching as it lies: its lists and where they lie. -/
structure Bs where
  base : List Fct
  p0 : Option Addr
  A0 : Addr
  c0 : Nat
  bls : List Bl
  p1 : Option Addr
  A1 : Addr
  c1 : Nat
  par : List Int
  p2 : Option Addr
  A2 : Addr
  c2 : Nat
  fks : List Int
  p3 : Option Addr
  A3 : Addr
  c3 : Nat
  done : List Bool
  p4 : Option Addr
  A4 : Addr
  c4 : Nat
def Bs.br (s : Bs) : Br := ⟨s.base, s.bls.map Bl.l, s.par, s.fks, s.done⟩
abbrev bvc (s : Bs) : List Value := [.slice s.p0 s.base.length s.c0, .slice s.p1 s.bls.length s.c1, .slice s.p2 s.par.length s.c2, .slice s.p3 s.fks.length s.c3, .slice s.p4 s.done.length s.c4]
structure BsIn (s : Bs) (w : World) : Prop where
  base : SlV fc w s.p0 s.A0 s.base s.c0
  bls : SlV blc w s.p1 s.A1 s.bls s.c1
  sub : ∀ x ∈ s.bls, ∃ A, SlV cc w x.p A x.l x.c
  par : SlV ic w s.p2 s.A2 s.par s.c2
  fks : SlV ic w s.p3 s.A3 s.fks s.c3
  done : SlV boc w s.p4 s.A4 s.done s.c4
theorem BsIn.ext0 {s : Bs} {w w' : World} (h : BsIn s w) (he : Ext [] w w') : BsIn s w' :=
  ⟨h.base.ext0 he, h.bls.ext0 he, fun x hx => (h.sub x hx).imp fun _ hs => hs.ext0 he, h.par.ext0 he, h.fks.ext0 he, h.done.ext0 he⟩
theorem bvc_one (s : Bs) : ∀ u ∈ (Value.agg (bvc s).toArray).cells.toList, u.oneCell' = true := fun u hu => by
  have hu' : u ∈ bvc s := hu
  simp only [List.mem_cons, List.not_mem_nil, or_false] at hu'
  rcases hu' with rfl | rfl | rfl | rfl | rfl <;> rfl
def Bs0 : Bs := ⟨[], none, ⟨0, 0, none⟩, 0, [], none, ⟨0, 0, none⟩, 0, [], none, ⟨0, 0, none⟩, 0, [], none, ⟨0, 0, none⟩, 0, [], none, ⟨0, 0, none⟩, 0⟩
theorem Bs0_in (w : World) : BsIn Bs0 w := ⟨SlV.nil _ _, SlV.nil _ _, fun x h => (by cases h), SlV.nil _ _, SlV.nil _ _, SlV.nil _ _⟩
theorem Bs0_br : Bs0.br = Br0 := rfl
theorem br_len (s : Bs) : s.br.brs.length = s.bls.length := List.length_map _
theorem brB_eq {s : Bs} {i : Nat} (hi : i < s.bls.length) : brB s.br i = s.bls[i].l := by
  unfold brB Bs.br; simp [hi]
theorem parB_eq {s : Bs} {i : Nat} (hi : i < s.par.length) : parB s.br i = s.par[i] := by
  unfold parB Bs.br; simp [hi]
theorem fkB_eq {s : Bs} {i : Nat} (hi : i < s.fks.length) : fkB s.br i = s.fks[i] := by
  unfold fkB Bs.br; simp [hi]
theorem doneB_eq {s : Bs} {i : Nat} (hi : i < s.done.length) : doneB s.br i = s.done[i] := by
  unfold doneB Bs.br; simp [hi]

end Go.Proofs.Ytfgckcochilpkaa

/- Branches: plain laws about what is computed; no program in sight. -/
set_option linter.unusedVariables false
set_option maxRecDepth 100000
set_option linter.unusedSimpArgs false
namespace Go.Proofs.Ytfgckcochilpkaa
open Go Go.Eng

/-! ## Keys -/
theorem keysK_fold : ∀ (l out : List Ky), out.Pairwise lessK → (l.foldl insK out).Pairwise lessK ∧ ∀ k, k ∈ l.foldl insK out ↔ k ∈ l ∨ k ∈ out
  | [], out, h => ⟨h, fun k => by simp⟩
  | x :: l, out, h => by
    obtain ⟨h1, h2⟩ := keysK_fold l (insK out x) (insK_sorted h)
    refine ⟨h1, fun k => (h2 k).trans ?_⟩
    rw [mem_insK, List.mem_cons]
    constructor
    · rintro (a | a | a)
      · exact .inl (.inr a)
      · exact .inl (.inl a)
      · exact .inr a
    · rintro ((a | a) | a)
      · exact .inr (.inl a)
      · exact .inl a
      · exact .inr (.inr a)
theorem keysK_spec (l : List Ky) : (keysK l).Pairwise lessK ∧ ∀ k, k ∈ keysK l ↔ k ∈ l := by
  obtain ⟨h1, h2⟩ := keysK_fold l [] .nil
  exact ⟨h1, fun k => (h2 k).trans (by simp)⟩
theorem keysL_K (l : List Fct) : keysL l = keysK (l.map Fct.key) := by
  unfold keysL keysK; rw [List.foldl_map]
theorem confB_spec (b : Br) (i : Nat) : (confB b i).Pairwise lessK ∧ ∀ k, k ∈ confB b i ↔ k ∈ (brB b i).map Cr.key ∧ k ∈ freshK b i := by
  obtain ⟨h1, h2⟩ := keysK_spec ((brB b i).map Cr.key)
  refine ⟨h1.filter _, fun k => ?_⟩
  unfold confB
  rw [List.mem_filter, h2, decide_eq_true_eq]
theorem confB_unique {b : Br} {i : Nat} {ks : List Ky} (hs : ks.Pairwise (fun a b => ¬ lessK b a)) (hn : ks.Nodup) (hm : ∀ k, k ∈ ks ↔ k ∈ (brB b i).map Cr.key ∧ k ∈ freshK b i) : ks = confB b i := by
  refine sorted_unique ?_ (confB_spec b i).1 (fun k => (hm k).trans ((confB_spec b i).2 k).symm)
  have h := List.pairwise_and_iff.2 ⟨hs, hn⟩
  exact h.imp fun ⟨h1, h2⟩ => Classical.byContradiction fun h3 => h1 (lessK_total h3 h2)

/-! ## What grows -/
structure Grown (b b' : Br) : Prop where
  base : b.base <+: b'.base
  len : b.brs.length ≤ b'.brs.length
  brs : ∀ i, i < b.brs.length → brB b i <+: brB b' i
  par : ∀ i, i < b.brs.length → parB b' i = parB b i
  fks : ∀ i, i < b.brs.length → fkB b' i = fkB b i
def lenK (b : Br) (k : Nat) : Nat := match k with
  | 0 => b.base.length
  | i + 1 => (brB b i).length
theorem lenB_K (b : Br) (no : Int) : lenB b no = lenK b (no + 1).toNat := by
  unfold lenB
  by_cases h : no < 0
  · rw [if_pos h, show (no + 1).toNat = 0 by omega]; rfl
  · rw [if_neg h, show (no + 1).toNat = no.toNat + 1 by omega]; rfl
theorem take_prefix {α : Type} {l m : List α} (h : l <+: m) {n : Nat} (hn : n ≤ l.length) : m.take n = l.take n := by
  obtain ⟨t, rfl⟩ := h
  rw [List.take_append_of_le_length hn]
theorem withN_grown {b b' : Br} (hf : Formed b) (hg : Grown b b') : ∀ (f k many : Nat), k ≤ b.brs.length → many ≤ lenK b k → withN b' f k many = withN b f k many
  | f, 0, many, _, hm => by rw [withN_zero, withN_zero, take_prefix hg.base hm]
  | 0, k + 1, many, _, _ => rfl
  | f + 1, i + 1, many, hk, hm => by
    obtain ⟨hp, hk0, hk1⟩ := hf.2.2.2.2 i (by omega)
    have ih := withN_grown hf hg f (parB b i + 1).toNat (fkB b i).toNat (by omega) (by rw [lenB_K] at hk1; omega)
    unfold withN
    rw [hg.par i (by omega), hg.fks i (by omega), ih, take_prefix (hg.brs i (by omega)) hm]
theorem withB_grown {b b' : Br} (hf : Formed b) (hg : Grown b b') {no : Int} {many : Nat} (hn : no < (b.brs.length : Int)) (hm : many ≤ lenB b no) : withB b' no many = withB b no many := by
  rw [lenB_K] at hm
  exact withN_grown hf hg _ _ many (by omega) hm
theorem ofB_grown {b b' : Br} (hf : Formed b) (hg : Grown b b') {no : Int} (hn : no < (b.brs.length : Int)) (hl : lenB b' no = lenB b no) : ofB b' no = ofB b no := by
  unfold ofB; rw [hl]; exact withB_grown hf hg hn (Nat.le_refl _)
theorem lenB_grown {b b' : Br} (hg : Grown b b') {no : Int} (hn : no < (b.brs.length : Int)) : lenB b no ≤ lenB b' no := by
  unfold lenB
  by_cases h : no < 0
  · rw [if_pos h, if_pos h]; exact hg.base.length_le
  · rw [if_neg h, if_neg h]; exact (hg.brs no.toNat (by omega)).length_le
theorem Grown.refl (b : Br) : Grown b b := ⟨List.prefix_refl _, Nat.le_refl _, fun i _ => List.prefix_refl _, fun i _ => rfl, fun i _ => rfl⟩
theorem Grown.trans {a b c : Br} (h : Grown a b) (k : Grown b c) : Grown a c :=
  ⟨h.base.trans k.base, Nat.le_trans h.len k.len, fun i hi => (h.brs i hi).trans (k.brs i (by have := h.len; omega)), fun i hi => (k.par i (by have := h.len; omega)).trans (h.par i hi), fun i hi => (k.fks i (by have := h.len; omega)).trans (h.fks i hi)⟩
theorem withB_base_of (b : Br) : ofB b (-1) = (b.base, 0) := by
  unfold ofB; rw [withB_base (by decide)]; unfold lenB; rw [if_pos (by decide), List.take_length]
theorem ofB_neg {b : Br} {no : Int} (h : no < 0) : ofB b no = (b.base, 0) := by
  unfold ofB; rw [withB_base h]; unfold lenB; rw [if_pos h, List.take_length]
theorem ofB_step {b : Br} (hf : Formed b) {i : Nat} (hi : i < b.brs.length) : ofB b (i : Int) =
    if (withB b (parB b i) (fkB b i).toNat).2 ≠ 0 then ([], (withB b (parB b i) (fkB b i).toNat).2) else recL (withB b (parB b i) (fkB b i).toNat).1 (brB b i) := by
  have hl : lenB b (i : Int) = (brB b i).length := by unfold lenB brB; rw [if_neg (by omega)]; rfl
  unfold ofB
  rw [withB_step hf hi, hl, List.take_length]
theorem ofB_check {b : Br} (h : checkL b.base = 0) (no : Int) : checkL (ofB b no).1 = 0 := withN_check h _ _ _

/-! ## What is done keeps a branching valid -/
theorem forkB_ok {b : Br} {parent : Int} (h : (forkB b parent).2.2 = 0) : ValidB b ∧ (parent = -1 ∨ OpenB b parent) ∧ b.brs.length < 64 ∧ forkB b parent = (⟨b.base, b.brs ++ [[]], b.par ++ [parent], b.fks ++ [(lenB b parent : Int)], b.done ++ [false]⟩, (b.brs.length : Int), 0) := by
  unfold forkB at h ⊢
  by_cases h1 : ¬ ValidB b
  · rw [if_pos h1] at h; exact absurd h (show (540 : Int) ≠ 0 by decide)
  · rw [if_neg h1] at h ⊢
    by_cases h2 : parent ≠ -1 ∧ ¬ OpenB b parent
    · rw [if_pos h2] at h; exact absurd h (show (1 : Int) ≠ 0 by decide)
    · rw [if_neg h2] at h ⊢
      by_cases h3 : b.brs.length = 64
      · rw [if_pos h3] at h; exact absurd h (show (2 : Int) ≠ 0 by decide)
      · rw [if_neg h3]
        have hv := Classical.not_not.1 h1
        refine ⟨hv, ?_, by have := hv.1.1; omega, rfl⟩
        by_cases h4 : parent = -1
        · exact .inl h4
        · exact .inr (Classical.byContradiction fun h5 => h2 ⟨h4, h5⟩)
theorem forkB_grown {b : Br} (hf : Formed b) (parent : Int) : Grown b ⟨b.base, b.brs ++ [[]], b.par ++ [parent], b.fks ++ [(lenB b parent : Int)], b.done ++ [false]⟩ := by
  obtain ⟨_, f2, f3, _, _⟩ := hf
  refine ⟨List.prefix_refl _, by simp, fun i hi => ?_, fun i hi => ?_, fun i hi => ?_⟩
  · unfold brB
    simp only
    rw [List.getElem?_append_left hi]
    exact List.prefix_refl _
  · unfold parB
    simp only
    rw [List.getElem?_append_left (by omega)]
  · unfold fkB
    simp only
    rw [List.getElem?_append_left (by omega)]
theorem valid_of {b : Br} (hv : ValidB b) {no : Int} (h1 : no < (b.brs.length : Int)) : (ofB b no).2 = 0 := by
  by_cases h : no < 0
  · rw [ofB_neg h]
  · have := hv.2.2 no.toNat (by omega)
    rwa [show ((no.toNat : Nat) : Int) = no by omega] at this
theorem forkB_valid {b : Br} {parent : Int} (hv : ValidB b) (hp : parent = -1 ∨ OpenB b parent) (hn : b.brs.length < 64) : ValidB ⟨b.base, b.brs ++ [[]], b.par ++ [parent], b.fks ++ [(lenB b parent : Int)], b.done ++ [false]⟩ := by
  obtain ⟨b', hb'⟩ : ∃ b', b' = (⟨b.base, b.brs ++ [[]], b.par ++ [parent], b.fks ++ [(lenB b parent : Int)], b.done ++ [false]⟩ : Br) := ⟨_, rfl⟩
  have hg := forkB_grown hv.1 parent
  rw [← hb'] at hg ⊢
  obtain ⟨hf, hc, ho⟩ := hv
  have hf0 := hf
  obtain ⟨f1, f2, f3, f4, f5⟩ := hf
  have hpar : -1 ≤ parent ∧ parent < (b.brs.length : Int) := by
    rcases hp with rfl | h
    · omega
    · have := h.1; have := h.2.1; omega
  have hlen : ∀ no : Int, no < (b.brs.length : Int) → lenB b' no = lenB b no := fun no hno => by
    subst hb'
    unfold lenB
    by_cases h : no < 0
    · rw [if_pos h, if_pos h]
    · rw [if_neg h, if_neg h]; simp only; rw [List.getElem?_append_left (by omega)]
  have hl : b'.brs.length = b.brs.length + 1 := by subst hb'; simp
  have hpn : parB b' b.brs.length = parent := by
    subst hb'; unfold parB; simp only; rw [List.getElem?_append_right (by omega), f2]; simp
  have hkn : fkB b' b.brs.length = (lenB b parent : Int) := by
    subst hb'; unfold fkB; simp only; rw [List.getElem?_append_right (by omega), f3]; simp
  have hf' : Formed b' := by
    refine ⟨by omega, by subst hb'; simp [f2], by subst hb'; simp [f3], by subst hb'; simp [f4], fun i hi => ?_⟩
    by_cases hin : i < b.brs.length
    · rw [hg.par i hin, hg.fks i hin]
      have := f5 i hin
      rw [hlen _ (by omega)]
      exact this
    · have e : i = b.brs.length := by omega
      subst e
      rw [hpn, hkn, hlen _ hpar.2]
      omega
  refine ⟨hf', by subst hb'; exact hc, fun i hi => ?_⟩
  by_cases hin : i < b.brs.length
  · rw [ofB_grown hf0 hg (by omega) (hlen _ (by omega))]
    exact ho i hin
  · have e : i = b.brs.length := by omega
    subst e
    rw [ofB_step hf' hi, hpn, hkn, Int.toNat_natCast]
    have hw : withB b' parent (lenB b parent) = ofB b parent := withB_grown hf0 hg hpar.2 (Nat.le_refl _)
    rw [hw, valid_of ⟨hf0, hc, ho⟩ hpar.2]
    have hbr : brB b' b.brs.length = [] := by
      subst hb'; unfold brB; simp only; rw [List.getElem?_append_right (by omega)]; simp
    rw [hbr]
    rfl
/-- A branch gets more changes. -/
def more (b : Br) (i : Nat) (cs : List Cr) (done : List Bool) : Br := ⟨b.base, b.brs.set i (brB b i ++ cs), b.par, b.fks, done⟩
theorem more_brs {b : Br} {i : Nat} (hi : i < b.brs.length) (cs : List Cr) (done : List Bool) (j : Nat) : brB (more b i cs done) j = if j = i then brB b i ++ cs else brB b j := by
  unfold more brB
  simp only
  rw [List.getElem?_set]
  by_cases h : i = j
  · subst h
    rw [if_pos rfl, if_pos rfl, if_pos hi]
    rfl
  · rw [if_neg h, if_neg (fun e => h e.symm)]
theorem more_grown {b : Br} {i : Nat} (hi : i < b.brs.length) (cs : List Cr) (done : List Bool) : Grown b (more b i cs done) := by
  refine ⟨List.prefix_refl _, by unfold more; simp, fun j hj => ?_, fun j hj => rfl, fun j hj => rfl⟩
  rw [more_brs hi]
  split
  · rename_i h; subst h; exact List.prefix_append _ _
  · exact List.prefix_refl _
theorem more_valid {b : Br} (hv : ValidB b) {i : Nat} (hi : i < b.brs.length) {cs : List Cr} {done : List Bool} (hd : done.length = b.done.length) (hr : (recL (ofB b (i : Int)).1 cs).2 = 0) :
    ValidB (more b i cs done) ∧ ofB (more b i cs done) (i : Int) = recL (ofB b (i : Int)).1 cs ∧ ∀ no : Int, no < (b.brs.length : Int) → no ≠ (i : Int) → ofB (more b i cs done) no = ofB b no := by
  obtain ⟨hf, hc, ho⟩ := hv
  have hg := more_grown hi cs done
  have hf0 := hf
  obtain ⟨f1, f2, f3, f4, f5⟩ := hf
  have hl : (more b i cs done).brs.length = b.brs.length := by unfold more; simp
  have hlen : ∀ no : Int, no < (b.brs.length : Int) → no ≠ (i : Int) → lenB (more b i cs done) no = lenB b no := fun no hno hne => by
    rw [lenB_K, lenB_K]
    by_cases h : no < 0
    · rw [show (no + 1).toNat = 0 by omega]; rfl
    · rw [show (no + 1).toNat = no.toNat + 1 by omega]
      show (brB (more b i cs done) no.toNat).length = (brB b no.toNat).length
      rw [more_brs hi, if_neg (by omega)]
  have hf' : Formed (more b i cs done) := by
    refine ⟨by omega, by rw [hl]; exact f2, by rw [hl]; exact f3, by rw [hl]; show done.length = _; omega, fun j hj => ?_⟩
    rw [hl] at hj
    rw [hg.par j hj, hg.fks j hj]
    have h5 := f5 j hj
    have := lenB_grown hg (no := parB b j) (by omega)
    omega
  have hoi : ofB (more b i cs done) (i : Int) = recL (ofB b (i : Int)).1 cs := by
    have h5 := f5 i hi
    rw [ofB_step hf' (by omega), hg.par i hi, hg.fks i hi, more_brs hi, if_pos rfl]
    have hw := withB_grown hf0 hg (no := parB b i) (many := (fkB b i).toNat) (by omega) (by omega)
    rw [hw]
    have hoo := ho i hi
    rw [ofB_step hf0 hi] at hoo ⊢
    by_cases hz : (withB b (parB b i) (fkB b i).toNat).2 ≠ 0
    · rw [if_pos hz] at hoo; exact absurd hoo hz
    · rw [if_neg hz] at hoo ⊢
      rw [if_neg hz, recL_append, if_pos hoo]
  have hother : ∀ no : Int, no < (b.brs.length : Int) → no ≠ (i : Int) → ofB (more b i cs done) no = ofB b no := fun no h1 h2 => ofB_grown hf0 hg h1 (hlen no h1 h2)
  refine ⟨⟨hf', hc, fun j hj => ?_⟩, hoi, hother⟩
  rw [hl] at hj
  by_cases hji : j = i
  · subst hji; rw [hoi]; exact hr
  · rw [hother _ (by omega) (by omega)]; exact ho j hj
/-- Base gets more facts. -/
def moreBase (b : Br) (l : List Fct) (done : List Bool) : Br := ⟨l, b.brs, b.par, b.fks, done⟩
theorem moreBase_valid {b : Br} (hv : ValidB b) {l : List Fct} {done : List Bool} (hd : done.length = b.done.length) (hl : b.base <+: l) (hc : checkL l = 0) :
    ValidB (moreBase b l done) ∧ ∀ no : Int, 0 ≤ no → no < (b.brs.length : Int) → ofB (moreBase b l done) no = ofB b no := by
  obtain ⟨hf, _, ho⟩ := hv
  have hg : Grown b (moreBase b l done) := ⟨hl, Nat.le_refl _, fun i _ => List.prefix_refl _, fun i _ => rfl, fun i _ => rfl⟩
  have hf0 := hf
  obtain ⟨f1, f2, f3, f4, f5⟩ := hf
  have hbl : (moreBase b l done).brs.length = b.brs.length := rfl
  have hf' : Formed (moreBase b l done) := by
    refine ⟨f1, f2, f3, by show done.length = _; rw [hbl]; omega, fun j hj => ?_⟩
    rw [hbl] at hj
    have h5 := f5 j hj
    have := lenB_grown hg (no := parB b j) (by omega)
    rw [hg.par j hj, hg.fks j hj]
    omega
  have hother : ∀ no : Int, 0 ≤ no → no < (b.brs.length : Int) → ofB (moreBase b l done) no = ofB b no := fun no h0 h1 => ofB_grown hf0 hg h1 (by unfold lenB; rw [if_neg (by omega), if_neg (by omega)]; rfl)
  exact ⟨⟨hf', hc, fun j hj => by rw [hother _ (by omega) (by exact_mod_cast hj)]; exact ho j hj⟩, hother⟩

/-! ## What is done, step by step -/
theorem changeB_ok {b : Br} {no : Int} {c : Cr} (h : (changeB b no c).2 = 0) : ValidB b ∧ OpenB b no ∧ (recL (ofB b no).1 [c]).2 = 0 ∧ changeB b no c = (more b no.toNat [c] b.done, 0) := by
  unfold changeB at h ⊢
  by_cases h1 : ¬ ValidB b
  · rw [if_pos h1] at h; exact absurd h (show (540 : Int) ≠ 0 by decide)
  · rw [if_neg h1] at h ⊢
    by_cases h2 : ¬ OpenB b no
    · rw [if_pos h2] at h; exact absurd h (show (1 : Int) ≠ 0 by decide)
    · rw [if_neg h2] at h ⊢
      by_cases h3 : (recL (ofB b no).1 [c]).2 ≠ 0
      · rw [if_pos h3] at h; exact absurd h h3
      · rw [if_neg h3]
        exact ⟨Classical.not_not.1 h1, Classical.not_not.1 h2, Classical.not_not.1 h3, rfl⟩
theorem changeB_fail {b : Br} {no : Int} {c : Cr} (h : (changeB b no c).2 ≠ 0) : (changeB b no c).1 = Br0 := by
  unfold changeB at h ⊢
  split
  · rfl
  · rename_i h1; rw [if_neg h1] at h
    split
    · rfl
    · rename_i h2; rw [if_neg h2] at h
      split
      · rfl
      · rename_i h3; rw [if_neg h3] at h; exact absurd rfl h
theorem forkB_fail {b : Br} {no : Int} (h : (forkB b no).2.2 ≠ 0) : (forkB b no).1 = Br0 := by
  unfold forkB at h ⊢
  split
  · rfl
  · rename_i h1; rw [if_neg h1] at h
    split
    · rfl
    · rename_i h2; rw [if_neg h2] at h
      split
      · rfl
      · rename_i h3; rw [if_neg h3] at h; exact absurd rfl h
theorem dropB_ok {b : Br} {no : Int} (h : (dropB b no).2 = 0) : ValidB b ∧ OpenB b no ∧ dropB b no = (⟨b.base, b.brs, b.par, b.fks, b.done.set no.toNat true⟩, 0) := by
  unfold dropB at h ⊢
  by_cases h1 : ¬ ValidB b
  · rw [if_pos h1] at h; exact absurd h (show (540 : Int) ≠ 0 by decide)
  · rw [if_neg h1] at h ⊢
    by_cases h2 : ¬ OpenB b no
    · rw [if_pos h2] at h; exact absurd h (show (1 : Int) ≠ 0 by decide)
    · rw [if_neg h2]
      exact ⟨Classical.not_not.1 h1, Classical.not_not.1 h2, rfl⟩
theorem dropB_fail {b : Br} {no : Int} (h : (dropB b no).2 ≠ 0) : (dropB b no).1 = Br0 := by
  unfold dropB at h ⊢
  split
  · rfl
  · rename_i h1; rw [if_neg h1] at h
    split
    · rfl
    · rename_i h2; rw [if_neg h2] at h; exact absurd rfl h
def mergedB (b : Br) (i : Nat) : Br := if parB b i < 0 then moreBase b (recL (ofB b (parB b i)).1 (brB b i)).1 (b.done.set i true) else more b (parB b i).toNat (brB b i) (b.done.set i true)
theorem mergeB_ok {b : Br} {no : Int} (h : (mergeB b no).2.2 = 0) : ValidB b ∧ OpenB b no ∧ (parB b no.toNat = -1 ∨ OpenB b (parB b no.toNat)) ∧ confB b no.toNat = [] ∧ (recL (ofB b (parB b no.toNat)).1 (brB b no.toNat)).2 = 0 ∧ mergeB b no = (mergedB b no.toNat, [], 0) := by
  unfold mergeB at h ⊢
  by_cases h1 : ¬ ValidB b
  · rw [if_pos h1] at h; exact absurd h (show (540 : Int) ≠ 0 by decide)
  · rw [if_neg h1] at h ⊢
    by_cases h2 : ¬ OpenB b no ∨ (parB b no.toNat ≠ -1 ∧ ¬ OpenB b (parB b no.toNat))
    · rw [if_pos h2] at h; exact absurd h (show (1 : Int) ≠ 0 by decide)
    · rw [if_neg h2] at h ⊢
      by_cases h3 : 0 < (confB b no.toNat).length
      · rw [if_pos h3] at h; exact absurd h (show (541 : Int) ≠ 0 by decide)
      · rw [if_neg h3] at h ⊢
        by_cases h4 : (recL (ofB b (parB b no.toNat)).1 (brB b no.toNat)).2 ≠ 0
        · rw [if_pos h4] at h; exact absurd h h4
        · rw [if_neg h4]
          obtain ⟨h5, h6⟩ := not_or.1 h2
          refine ⟨Classical.not_not.1 h1, Classical.not_not.1 h5, ?_, List.eq_nil_of_length_eq_zero (by omega), Classical.not_not.1 h4, ?_⟩
          · by_cases h7 : parB b no.toNat = -1
            · exact .inl h7
            · exact .inr (Classical.byContradiction fun h8 => h6 ⟨h7, h8⟩)
          · unfold mergedB
            by_cases h7 : parB b no.toNat < 0
            · rw [if_pos h7, if_pos h7]; rfl
            · rw [if_neg h7, if_neg h7]; rfl
/-- The same branching, others of them done. -/
def withDone (b : Br) (d : List Bool) : Br := ⟨b.base, b.brs, b.par, b.fks, d⟩
theorem withN_done (b : Br) (d : List Bool) : ∀ f k many, withN (withDone b d) f k many = withN b f k many
  | f, 0, many => by rw [withN_zero, withN_zero]; rfl
  | 0, k + 1, many => rfl
  | f + 1, i + 1, many => by
    have ih := withN_done b d f (parB b i + 1).toNat (fkB b i).toNat
    show (if (withN (withDone b d) f (parB b i + 1).toNat (fkB b i).toNat).2 ≠ 0 then ([], (withN (withDone b d) f (parB b i + 1).toNat (fkB b i).toNat).2) else recL (withN (withDone b d) f (parB b i + 1).toNat (fkB b i).toNat).1 ((brB b i).take many)) = _
    rw [ih]; rfl
theorem ofB_done (b : Br) (d : List Bool) (no : Int) : ofB (withDone b d) no = ofB b no := withN_done b d _ _ _
theorem valid_done {b : Br} {d : List Bool} (hd : d.length = b.done.length) : ValidB (withDone b d) ↔ ValidB b := by
  unfold ValidB Formed
  constructor
  · rintro ⟨⟨a1, a2, a3, a4, a5⟩, a6, a7⟩
    exact ⟨⟨a1, a2, a3, by rw [← hd]; exact a4, a5⟩, a6, fun i hi => by rw [← ofB_done b d]; exact a7 i hi⟩
  · rintro ⟨⟨a1, a2, a3, a4, a5⟩, a6, a7⟩
    exact ⟨⟨a1, a2, a3, by show d.length = _; rw [hd]; exact a4, a5⟩, a6, fun i hi => by rw [ofB_done b d]; exact a7 i hi⟩
theorem mergedB_keep {b : Br} {no : Int} (hv : ValidB b) (ho : OpenB b no) (hr : (recL (ofB b (parB b no.toNat)).1 (brB b no.toNat)).2 = 0) :
    ValidB (mergedB b no.toNat) ∧ (mergedB b no.toNat).brs.length = b.brs.length ∧ ∀ k : Int, k < (b.brs.length : Int) → (k < 0 → 0 ≤ parB b no.toNat) → (0 ≤ k → k ≠ parB b no.toNat) → ofB (mergedB b no.toNat) k = ofB b k := by
  obtain ⟨h0, h1, _⟩ := ho
  obtain ⟨hp, _⟩ := hv.1.2.2.2.2 no.toNat (by omega)
  unfold mergedB
  by_cases h : parB b no.toNat < 0
  · rw [if_pos h]
    rw [ofB_neg h] at hr ⊢
    obtain ⟨fs, hfs, _⟩ := recL_ok hr
    have hchk := recL_check (cs := brB b no.toNat) hv.2.1
    obtain ⟨m1, m2⟩ := moreBase_valid hv (done := b.done.set no.toNat true) (by simp) (show b.base <+: (recL b.base (brB b no.toNat)).1 by rw [hfs]; exact List.prefix_append _ _) hchk
    refine ⟨m1, rfl, fun k hk hk2 hk3 => ?_⟩
    by_cases hkn : k < 0
    · have := hk2 hkn; omega
    · exact m2 k (by omega) hk
  · rw [if_neg h]
    have hpi : (parB b no.toNat).toNat < b.brs.length := by omega
    have hr' : (recL (ofB b ((parB b no.toNat).toNat : Int)).1 (brB b no.toNat)).2 = 0 := by rw [Int.toNat_of_nonneg (by omega)]; exact hr
    obtain ⟨m1, m2, m3⟩ := more_valid hv hpi (cs := brB b no.toNat) (done := b.done.set no.toNat true) (by simp) hr'
    refine ⟨m1, by unfold more; simp, fun k hk hk2 hk3 => m3 k hk ?_⟩
    by_cases hkn : k < 0
    · omega
    · have := hk3 (by omega); omega

/-! ## Moves -/
structure Mv where
  kind : Int
  no : Int
  c : Cr
def doB (b : Br) (m : Mv) : Br :=
  if m.kind = 0 then (if (forkB b m.no).2.2 ≠ 0 then b else (forkB b m.no).1)
  else if m.kind = 1 then (if (changeB b m.no m.c).2 ≠ 0 then b else (changeB b m.no m.c).1)
  else if m.kind = 2 then (if (mergeB b m.no).2.2 ≠ 0 then b else (mergeB b m.no).1)
  else if m.kind = 3 then (if (dropB b m.no).2 ≠ 0 then b else (dropB b m.no).1)
  else b
def skips (b : Br) (no : Int) (m : Mv) : Prop := (m.kind = 1 ∧ m.no = no) ∨ (m.kind = 2 ∧ 0 ≤ m.no ∧ m.no < (b.par.length : Int) ∧ parB b m.no.toNat = no)
instance (b : Br) (no : Int) (m : Mv) : Decidable (skips b no m) := by unfold skips; infer_instance
theorem doB_keep {b : Br} {no : Int} {m : Mv} (hv : ValidB b) (h0 : 0 ≤ no) (h1 : no < (b.brs.length : Int)) (hs : ¬ skips b no m) :
    ValidB (doB b m) ∧ b.brs.length ≤ (doB b m).brs.length ∧ ofB (doB b m) no = ofB b no := by
  have keep : ValidB b ∧ b.brs.length ≤ b.brs.length ∧ ofB b no = ofB b no := ⟨hv, Nat.le_refl _, rfl⟩
  unfold doB
  by_cases k0 : m.kind = 0
  · rw [if_pos k0]
    split
    · exact keep
    · rename_i he
      obtain ⟨a1, a2, a3, a4⟩ := forkB_ok (Classical.not_not.1 he)
      rw [a4]
      refine ⟨forkB_valid a1 a2 a3, by simp, ?_⟩
      refine ofB_grown hv.1 (forkB_grown hv.1 m.no) h1 ?_
      have hn : ¬ no < 0 := by omega
      unfold lenB
      rw [if_neg hn, if_neg hn]
      simp only
      rw [List.getElem?_append_left (by omega)]
  rw [if_neg k0]
  by_cases k1 : m.kind = 1
  · rw [if_pos k1]
    split
    · exact keep
    · rename_i he
      obtain ⟨a1, a2, a3, a4⟩ := changeB_ok (Classical.not_not.1 he)
      rw [a4]
      obtain ⟨o1, o2, _⟩ := a2
      have hr' : (recL (ofB b (m.no.toNat : Int)).1 [m.c]).2 = 0 := by rw [Int.toNat_of_nonneg o1]; exact a3
      obtain ⟨m1, m2, m3⟩ := more_valid hv (show m.no.toNat < b.brs.length by omega) (cs := [m.c]) (done := b.done) rfl hr'
      have hne : m.no ≠ no := fun e => hs (.inl ⟨k1, e⟩)
      exact ⟨m1, by unfold more; simp, m3 no h1 (by omega)⟩
  rw [if_neg k1]
  by_cases k2 : m.kind = 2
  · rw [if_pos k2]
    split
    · exact keep
    · rename_i he
      obtain ⟨a1, a2, a3, a4, a5, a6⟩ := mergeB_ok (Classical.not_not.1 he)
      rw [a6]
      obtain ⟨m1, m2, m3⟩ := mergedB_keep a1 a2 a5
      refine ⟨m1, Nat.le_of_eq m2.symm, m3 no h1 (fun h => by omega) (fun _ e => hs (.inr ⟨k2, a2.1, ?_, e.symm⟩))⟩
      have := a2.2.1
      have := hv.1.2.1
      omega
  rw [if_neg k2]
  by_cases k3 : m.kind = 3
  · rw [if_pos k3]
    split
    · exact keep
    · rename_i he
      obtain ⟨a1, a2, a3⟩ := dropB_ok (Classical.not_not.1 he)
      rw [a3]
      exact ⟨(valid_done (by simp)).2 hv, Nat.le_refl _, ofB_done b _ no⟩
  rw [if_neg k3]
  exact keep

/-! ## A branch that was dropped -/
theorem factsB_done {b : Br} {d : List Bool} (hd : d.length = b.done.length) (no : Int) : factsB (withDone b d) no = factsB b no := by
  by_cases hv : ValidB b
  · have e1 : factsB b no = if no < -1 ∨ (b.brs.length : Int) ≤ no then ([], 1) else ofB b no := if_neg (fun h => h hv)
    have e2 : factsB (withDone b d) no = if no < -1 ∨ (b.brs.length : Int) ≤ no then ([], 1) else ofB (withDone b d) no := if_neg (fun h => h ((valid_done hd).2 hv))
    rw [e1, e2, ofB_done]
  · have e1 : factsB b no = ([], 540) := if_pos hv
    have e2 : factsB (withDone b d) no = ([], 540) := if_pos (fun h => hv ((valid_done hd).1 h))
    rw [e1, e2]
theorem closed {b : Br} {no : Int} (ho : OpenB b no) (hl : b.done.length = b.brs.length) : ¬ OpenB (withDone b (b.done.set no.toNat true)) no := by
  rintro ⟨h0, h1, h2⟩
  obtain ⟨_, h3, _⟩ := ho
  unfold doneB withDone at h2
  simp only at h2
  rw [List.getElem?_set_self (by omega)] at h2
  cases h2
theorem more_nil {b : Br} {i : Nat} (hi : i < b.brs.length) (d : List Bool) : more b i [] d = withDone b d := by
  unfold more withDone brB
  rw [List.append_nil, List.getElem?_eq_getElem hi]
  show Br.mk _ (b.brs.set i b.brs[i]) _ _ _ = _
  rw [List.set_getElem_self]
theorem dropped {b : Br} {no : Int} (h : (dropB b no).2 = 0) (c : Cr) : ValidB b ∧ OpenB b no ∧ dropB b no = (withDone b (b.done.set no.toNat true), 0) ∧ (∀ k, factsB (dropB b no).1 k = factsB b k) ∧ (changeB (dropB b no).1 no c).2 = 1 ∧ (mergeB (dropB b no).1 no).2.2 = 1 ∧ (dropB (dropB b no).1 no).2 = 1 ∧ (forkB (dropB b no).1 no).2.2 = 1 := by
  obtain ⟨hv, ho, he⟩ := dropB_ok h
  have hd : (b.done.set no.toNat true).length = b.done.length := by simp
  have hc := closed ho hv.1.2.2.2.1
  have hv' := (valid_done hd).2 hv
  have he' : dropB b no = (withDone b (b.done.set no.toNat true), 0) := he
  rw [he']
  refine ⟨hv, ho, rfl, fun k => factsB_done hd k, ?_, ?_, ?_, ?_⟩
  · unfold changeB; rw [if_neg (fun h => h hv'), if_pos hc]
  · unfold mergeB; rw [if_neg (fun h => h hv'), if_pos (.inl hc)]
  · unfold dropB; rw [if_neg (fun h => h hv'), if_pos hc]
  · unfold forkB
    have := ho.1
    rw [if_neg (fun h => h hv'), if_pos ⟨by omega, hc⟩]
theorem dropped_merge {b : Br} {no : Int} (hv : ValidB b) (ho : OpenB b no) (hn : brB b no.toNat = []) : ((mergeB b no).2.2 = 0 ∧ ∀ k, factsB (mergeB b no).1 k = factsB b k) ∨ (mergeB b no).2.2 = 1 := by
  have hconf : confB b no.toNat = [] := by unfold confB; rw [hn]; rfl
  obtain ⟨h0, h1, _⟩ := ho
  by_cases hp : parB b no.toNat ≠ -1 ∧ ¬ OpenB b (parB b no.toNat)
  · refine .inr ?_
    unfold mergeB; rw [if_neg (fun h => h hv), if_pos (.inr hp)]
  · have hz : (mergeB b no).2.2 = 0 := by
      unfold mergeB
      rw [if_neg (fun h => h hv), if_neg (fun h => h.elim (fun h => h ⟨h0, h1, by assumption⟩) hp), hconf, if_neg (by simp), hn]
      show (if (0 : Int) ≠ 0 then _ else _ : Br × List Ky × Int).2.2 = 0
      rw [if_neg (fun h => h rfl)]
      split <;> rfl
    refine .inl ⟨hz, fun k => ?_⟩
    obtain ⟨_, ho2, _, _, _, he⟩ := mergeB_ok hz
    rw [he]
    obtain ⟨hpl, _⟩ := hv.1.2.2.2.2 no.toNat (by omega)
    have : mergedB b no.toNat = withDone b (b.done.set no.toNat true) := by
      unfold mergedB
      rw [hn]
      split
      · rename_i h; rw [ofB_neg h]; rfl
      · rename_i h; exact more_nil (by omega) _
    rw [this]
    exact factsB_done (by simp) k
end Go.Proofs.Ytfgckcochilpkaa

/- Branches: plain laws about merging; no program in sight. -/
set_option linter.unusedVariables false
set_option maxRecDepth 100000
set_option linter.unusedSimpArgs false
namespace Go.Proofs.Ytfgckcochilpkaa
open Go Go.Eng

/-! ## In a list that rises the last fact counts -/
theorem before_all {l : List Fct} {f : Fct} (hr : Risen l) (h : lastBad l f = false) : ∀ n, ∀ j, (hj : j < l.length) → j + n + 1 = l.length → before l[j] f
  | 0, j, hj, e => by
    have := lastBad_no h (by omega)
    rwa [show l[l.length - 1]'(by omega) = l[j] from (by congr 1; omega)] at this
  | n + 1, j, hj, e => by
    have h1 := before_all hr h n (j + 1) (by omega) (by omega)
    have h2 := hr j (by omega)
    unfold before at *
    omega
theorem best_mem {l : List Fct} {k : Ky} {d t : Int} {g : Fct} (h : bestL l k d t = some g) : g ∈ l := by
  have := best_last l k d t l.length (Nat.le_refl _)
  rw [List.take_length] at this
  rcases this with ⟨hn, _⟩ | ⟨b, hb, hs, _⟩
  · rw [h] at hn; cases hn
  · rw [h] at hs; injection hs with e; rw [e]; exact List.getElem_mem hb
theorem ofL_snoc (l : List Fct) (f : Fct) (k : Ky) (t : Int) : ofL (l ++ [f]) k t = ofL l k t ++ (if f.key = k ∧ f.known ≤ t then [f] else []) := by
  unfold ofL
  rw [List.filter_append]
  by_cases h : f.key = k ∧ f.known ≤ t
  · rw [if_pos h, List.filter_cons_of_pos (by simpa using h)]; rfl
  · rw [if_neg h, List.filter_cons_of_neg (by simpa using h)]; rfl
theorem snoc_last {l : List Fct} {f : Fct} (h : checkL (l ++ [f]) = 0) : checkL l = 0 ∧ Fits f ∧ lastBad l f = false := by
  obtain ⟨h1, h2⟩ := checkL_zero.1 h
  refine ⟨?_, h1 f (by simp), ?_⟩
  · have := checkL_take h l.length
    rwa [List.take_left] at this
  · rcases Nat.eq_zero_or_pos l.length with h0 | h0
    · rw [List.eq_nil_of_length_eq_zero h0]; rfl
    · have h3 := h2 (l.length - 1) (by rw [List.length_append]; simp; omega)
      rw [List.getElem_append_left (by omega), List.getElem_append_right (by omega)] at h3
      unfold lastBad
      rw [List.getLast?_eq_getElem?, List.getElem?_eq_getElem (by omega)]
      simpa using h3
def onDay (k : Ky) (day : Int) (f : Fct) : Bool := decide (f.key = k ∧ f.lo ≤ day ∧ day < f.hi)
theorem best_risen {T : Int} (hT : 16777216 ≤ T) (k : Ky) (day : Int) : ∀ (n : Nat) (l : List Fct), l.length = n → checkL l = 0 → bestL l k day T = (l.filter (onDay k day)).getLast?
  | 0, l, hl, _ => by rw [List.eq_nil_of_length_eq_zero hl]; rfl
  | n + 1, l, hl, hc => by
    rcases List.eq_nil_or_concat l with h0 | ⟨l', f, h0⟩
    · rw [h0] at hl; cases hl
    · rw [List.concat_eq_append] at h0
      subst h0
      obtain ⟨c1, c2, c3⟩ := snoc_last hc
      have ih := best_risen hT k day n l' (by simpa using hl) c1
      have hkn : f.known ≤ T := by have := c2.2.2.2.2.2.2.2.1.2; omega
      have hb : bestL (l' ++ [f]) k day T = if f.key = k ∧ f.lo ≤ day ∧ day < f.hi then some f else bestL l' k day T := by
        unfold bestL
        rw [ofL_snoc, List.foldl_append]
        by_cases h1 : f.key = k
        · rw [if_pos ⟨h1, hkn⟩]
          show dayStep day (bestL l' k day T) f = _
          unfold dayStep
          by_cases h2 : f.lo ≤ day ∧ day < f.hi
          · rw [if_pos h2, if_pos ⟨h1, h2⟩]
            cases hg : bestL l' k day T with
            | none => rfl
            | some g =>
              obtain ⟨j, hj, rfl⟩ := List.getElem_of_mem (best_mem hg)
              have := before_all (checkL_zero.1 c1).2 c3 (l'.length - 1 - j) j hj (by omega)
              simp only
              rw [if_neg (fun h => by unfold before at *; omega)]
          · rw [if_neg h2, if_neg (fun h => h2 h.2)]; rfl
        · rw [if_neg (fun h => h1 h.1), if_neg (fun h => h1 h.1)]; rfl
      rw [hb, List.filter_append]
      by_cases h : f.key = k ∧ f.lo ≤ day ∧ day < f.hi
      · rw [if_pos h, List.filter_cons_of_pos (by unfold onDay; simpa using h)]
        simp
      · rw [if_neg h, List.filter_cons_of_neg (by unfold onDay; simpa using h), List.filter_nil, List.append_nil]
        exact ih
def valsK (l : List Fct) (k : Ky) (day : Int) : List Int := (l.filter (onDay k day)).map Fct.val
def valV : Option Int → Int × Bool
  | none => (0, false)
  | some v => if v < 0 then (0, false) else (v, true)
theorem at_vals {l : List Fct} (hc : checkL l = 0) {T : Int} (hT : 16777216 ≤ T) (k : Ky) (day : Int) : atL l k day T = valV (valsK l k day).getLast? := by
  unfold atL valsK
  rw [best_risen hT k day _ l rfl hc, List.getLast?_map]
  cases (l.filter (onDay k day)).getLast? <;> rfl
theorem points_vals {l m : List Fct} (hl : checkL l = 0) (hm : checkL m = 0) {T : Int} (hT : 16777216 ≤ T) (k : Ky) (lo hi : Int) (h : ∀ day, valsK l k day = valsK m k day) : pointsL l k lo hi T = pointsL m k lo hi T := by
  unfold pointsL
  rw [show (fun d => atL l k d T) = fun d => atL m k d T from funext fun d => by rw [at_vals hl hT, at_vals hm hT, h]]
theorem valsK_append (l m : List Fct) (k : Ky) (day : Int) : valsK (l ++ m) k day = valsK l k day ++ valsK m k day := by
  unfold valsK; rw [List.filter_append, List.map_append]
theorem valsK_none {l : List Fct} {k : Ky} (h : ∀ f ∈ l, f.key ≠ k) (day : Int) : valsK l k day = [] := by
  unfold valsK
  rw [List.filter_eq_nil_iff.2 (fun f hf => by have := h f hf; unfold onDay; simp only [decide_eq_true_eq]; exact fun x => this x.1)]
  rfl
abbrev toCr (f : Fct) : Cr := ⟨f.key, f.val, f.lo, f.hi⟩
def crVals (cs : List Cr) (k : Ky) (day : Int) : List Int := (cs.filter fun c => decide (c.key = k ∧ c.lo ≤ day ∧ day < c.hi)).map Cr.val
theorem valsK_cr (fs : List Fct) (k : Ky) (day : Int) : valsK fs k day = crVals (fs.map toCr) k day := by
  unfold valsK crVals
  rw [List.filter_map, List.map_map]
  rfl
theorem crVals_none {cs : List Cr} {k : Ky} (h : k ∉ cs.map Cr.key) (day : Int) : crVals cs k day = [] := by
  unfold crVals
  rw [List.filter_eq_nil_iff.2 (fun c hc => by simp only [decide_eq_true_eq]; exact fun x => h (List.mem_map.2 ⟨c, hc, x.1⟩))]
  rfl
theorem recL_vals {l : List Fct} {cs : List Cr} (h : (recL l cs).2 = 0) (k : Ky) (day : Int) : valsK (recL l cs).1 k day = valsK l k day ++ crVals cs k day := by
  obtain ⟨fs, h1, h2, h3⟩ := recL_ok h
  rw [h1, valsK_append, valsK_cr fs, show fs.map toCr = cs from h3]
theorem recL_len {l : List Fct} {cs : List Cr} (h : (recL l cs).2 = 0) : (recL l cs).1.length = l.length + cs.length := by
  obtain ⟨fs, h1, h2, h3⟩ := recL_ok h
  rw [h1, List.length_append, h2]

/-! ## A merge -/
/-- What the parent has: what it had at the fork, and what is new. -/
theorem parent_split {b : Br} (hv : ValidB b) {i : Nat} (hi : i < b.brs.length) : (withB b (parB b i) (fkB b i).toNat).2 = 0 ∧ ∃ N : List Fct, (ofB b (parB b i)).1 = (withB b (parB b i) (fkB b i).toNat).1 ++ N ∧ ∀ k, (∃ f ∈ N, f.key = k) ↔ k ∈ freshK b i := by
  obtain ⟨hp, hk0, hk1⟩ := hv.1.2.2.2.2 i hi
  unfold freshK
  by_cases h : parB b i < 0
  · rw [if_pos h, ofB_neg h, withB_base h]
    refine ⟨rfl, b.base.drop (fkB b i).toNat, (List.take_append_drop _ _).symm, fun k => ?_⟩
    rw [List.mem_map]
  · rw [if_neg h]
    have hpn : (parB b i).toNat < b.brs.length := by omega
    have e : ((parB b i).toNat : Int) = parB b i := by omega
    have ho := hv.2.2 _ hpn
    have hs1 := ofB_step hv.1 hpn
    have hs2 := withB_step hv.1 hpn (fkB b i).toNat
    rw [e] at hs1 hs2 ho
    by_cases hz : (withB b (parB b (parB b i).toNat) (fkB b (parB b i).toNat).toNat).2 ≠ 0
    · rw [hs1, if_pos hz] at ho; exact absurd ho hz
    · rw [if_neg hz] at hs1 hs2
      have hsp : brB b (parB b i).toNat = (brB b (parB b i).toNat).take (fkB b i).toNat ++ (brB b (parB b i).toNat).drop (fkB b i).toNat := (List.take_append_drop _ _).symm
      rw [hs1, hsp, recL_append] at ho
      have h2 : (withB b (parB b i) (fkB b i).toNat).2 = 0 := by
        rw [hs2]
        exact Classical.byContradiction fun hn => by rw [if_neg hn] at ho; exact hn ho
      refine ⟨h2, ?_⟩
      rw [hs2] at h2
      rw [if_pos h2] at ho
      obtain ⟨fs, f1, f2, f3⟩ := recL_ok ho
      refine ⟨fs, ?_, fun k => ?_⟩
      · rw [hs1, hs2]
        conv => lhs; rw [hsp]
        rw [recL_append, if_pos h2]; exact f1
      · rw [List.mem_map]
        constructor
        · rintro ⟨f, hf, rfl⟩
          exact ⟨toCr f, by rw [← f3]; exact List.mem_map.2 ⟨f, hf, rfl⟩, rfl⟩
        · rintro ⟨c, hc, rfl⟩
          rw [← f3] at hc
          obtain ⟨f, hf, rfl⟩ := List.mem_map.1 hc
          exact ⟨f, hf, rfl⟩
theorem own_split {b : Br} (hv : ValidB b) {i : Nat} (hi : i < b.brs.length) : ofB b (i : Int) = recL (withB b (parB b i) (fkB b i).toNat).1 (brB b i) := by
  rw [ofB_step hv.1 hi, if_neg (fun h => h (parent_split hv hi).1)]
theorem merged_after {b : Br} {no : Int} (hv : ValidB b) (ho : OpenB b no) (hr : (recL (ofB b (parB b no.toNat)).1 (brB b no.toNat)).2 = 0) : ofB (mergedB b no.toNat) (parB b no.toNat) = recL (ofB b (parB b no.toNat)).1 (brB b no.toNat) := by
  obtain ⟨h0, h1, _⟩ := ho
  obtain ⟨hp, _⟩ := hv.1.2.2.2.2 no.toNat (by omega)
  unfold mergedB
  by_cases h : parB b no.toNat < 0
  · rw [if_pos h, ofB_neg h]
    have : (recL (ofB b (parB b no.toNat)).1 (brB b no.toNat)) = ((recL (ofB b (parB b no.toNat)).1 (brB b no.toNat)).1, 0) := Prod.ext rfl hr
    exact this.symm
  · rw [if_neg h]
    have e : ((parB b no.toNat).toNat : Int) = parB b no.toNat := by omega
    have hr' : (recL (ofB b ((parB b no.toNat).toNat : Int)).1 (brB b no.toNat)).2 = 0 := by rw [e]; exact hr
    obtain ⟨_, m2, _⟩ := more_valid hv (show (parB b no.toNat).toNat < b.brs.length by omega) (cs := brB b no.toNat) (done := b.done.set no.toNat true) (by simp) hr'
    rw [e] at m2
    exact m2
theorem merged_alike {b : Br} {no : Int} (hv : ValidB b) (ho : OpenB b no) (hc : confB b no.toNat = []) (hr : (recL (ofB b (parB b no.toNat)).1 (brB b no.toNat)).2 = 0) {T : Int} (hT : 16777216 ≤ T) (k : Ky) (lo hi : Int) :
    (k ∈ (brB b no.toNat).map Cr.key → pointsL (recL (ofB b (parB b no.toNat)).1 (brB b no.toNat)).1 k lo hi T = pointsL (ofB b no).1 k lo hi T) ∧
    (k ∉ (brB b no.toNat).map Cr.key → pointsL (recL (ofB b (parB b no.toNat)).1 (brB b no.toNat)).1 k lo hi T = pointsL (ofB b (parB b no.toNat)).1 k lo hi T) := by
  obtain ⟨h0, h1, _⟩ := ho
  have hi' : no.toNat < b.brs.length := by omega
  have e : ((no.toNat : Nat) : Int) = no := by omega
  have hcb := ofB_check hv.2.1 (parB b no.toNat)
  have hca := recL_check (cs := brB b no.toNat) hcb
  constructor
  · intro hk
    refine points_vals hca (ofB_check hv.2.1 _) hT k lo hi fun day => ?_
    obtain ⟨_, N, hN, hNk⟩ := parent_split hv hi'
    have hfr : k ∉ freshK b no.toNat := fun hf => by
      have := ((confB_spec b no.toNat).2 k).2 ⟨hk, hf⟩
      rw [hc] at this; cases this
    have hown := own_split hv hi'
    have ho2 := hv.2.2 _ hi'
    rw [e] at hown ho2
    rw [hown] at ho2
    rw [recL_vals hr, hN, valsK_append, valsK_none (l := N) (fun f hf hk2 => hfr ((hNk k).1 ⟨f, hf, hk2⟩)), List.append_nil, hown, recL_vals ho2]
  · intro hk
    refine points_vals hca hcb hT k lo hi fun day => ?_
    rw [recL_vals hr, crVals_none hk, List.append_nil]
end Go.Proofs.Ytfgckcochilpkaa

/- The engine, part fifteen: make, copy, append of zeros. -/
set_option linter.unusedVariables false
set_option linter.unusedSimpArgs false
namespace Go.Eng
open Go

section
variable {P : Program} {n : Nat} {ds : List Deferred} {Q : PostE} {E : Env} {w : World} {o : Oper}

/-- make of a list. -/
theorem acts_makeSlice {t e : TypeId} {x : Operand} {k : IntKind} {len size bytes : Nat} (ho : o.op = .makeSlice t x x) (he : elemOK P t e size bytes = true) (hx : ev E x = some (.int k (len : Int))) (hb : bytes * len ≤ 281474976710656) (hl : len ≤ 140737488355328) :
    Acts P n ds E o w (fun v w' => Ext [] w w' ∧ ∃ b cs, v = .slice (some ⟨b, 0, none⟩) len len ∧ w.heap.size ≤ b ∧ Blk w' b e cs ∧ cs.length = len * size) Q := by
  intro a ha _
  obtain ⟨i, z, h1, h2, h3, h4, h5, h6, h7⟩ := elemOK_spec he
  have hb' : (i.bytes : Int) * (len : Int) ≤ 281474976710656 := by
    have h : ((i.bytes * len : Nat) : Int) ≤ 281474976710656 := by rw [h5]; omega
    rwa [Int.natCast_mul] at h
  have hr := run_make (P := P) w t e i z h1 h2 h3 k k len len (by omega) (Int.le_refl _) hb' (by omega)
  simp only [Int.toNat_natCast, h4] at hr
  refine .inl ⟨.slice (some ⟨w.heap.size, 0, none⟩) len len, { w with heap := w.heap.push (.cells (madeCells z.cells (len * size)) e) }, ?_, Ext.push _ _ _, w.heap.size, (madeCells z.cells (len * size)).toList, rfl, Nat.le_refl _, ?_, by simp [size_madeCells]⟩
  · simp [execOp, ho, ha.eval hx, hr]
  · have := Blk.push w e (madeCells z.cells (len * size)).toList
    simpa using this

/-- copy of a list into a block of the same length, elements of one cell. -/
theorem acts_copy {x y : Operand} {t t' e bt : TypeId} {b len cap c : Nat} {cur cs : List Value} {p : Option Addr} {A : Addr} (ho : o.op = .call { callee := .builtin .copy, args := #[x, y], argTypes := #[t, t'] }) (ht : P.underlying t = some (.slice e)) (hs : (P.info? e).map (·.size) = some 1)
    (hx : ev E x = some (.slice (some ⟨b, 0, none⟩) len cap)) (hy : ev E y = some (.slice p len c)) (hB : Blk w b bt cur) (hl : cur.length = len) (hp : 0 < len → p = some A) (hc : Cells w A cs) (hcl : cs.length = len) (h1 : ∀ v ∈ cs, v.oneCell' = true) :
    Acts P n ds E o w (fun v w' => v = .int .i64 (len : Int) ∧ Ext [b] w w' ∧ Blk w' b bt cs) Q := by
  intro a ha _
  rcases Nat.eq_zero_or_pos len with h0 | h0
  · subst h0
    obtain rfl : cs = [] := List.eq_nil_of_length_eq_zero hcl
    obtain rfl : cur = [] := List.eq_nil_of_length_eq_zero hl
    have hr := run_copy_none (P := P) w t t' o.type e (some ⟨b, 0, none⟩) p 0 cap 0 c ht hs (by simp)
    refine .inl ⟨.int .i64 ((0 : Nat) : Int), w, ?_, rfl, Ext.refl _ _, hB⟩
    simp [execOp, ho, resolve, invoke, builtin, ha.eval hx, ha.eval hy, hr, goInt]
  · obtain rfl := hp h0
    have hr := run_copy_row (P := P) w t t' o.type e b 0 len cap A len c cur.toArray bt cs ht hs hB (by simp [hcl]) hc (by simp; omega) h1
    refine .inl ⟨.int .i64 (len : Int), w.setRow b (cur.toArray.toList.take 0 ++ cs ++ cur.toArray.toList.drop (0 + cs.length)).toArray, ?_, rfl, setRow_ext w b _ (by simp), ?_⟩
    · simp [execOp, ho, resolve, invoke, builtin, ha.eval hx, ha.eval hy, hr, goInt, hcl]
    · have := setRow_heap w b cur.toArray (cur.toArray.toList.take 0 ++ cs ++ cur.toArray.toList.drop (0 + cs.length)).toArray bt _ hB
      unfold Blk
      rw [this]
      have hd : cur.drop (0 + cs.length) = [] := List.drop_eq_nil_iff.2 (by omega)
      simp [hcl, hl]

theorem run_append_zeros {t tn ty e : TypeId} {i : TypeInfo} {z : Value} {kn k : IntKind} (ht : P.underlying t = some (.slice e)) (htn : P.underlying tn = some (.int kn)) (hi : P.info? e = some i) (hz : i.zero = some z) {m : Nat} (h0 : 0 < m) (h63 : m ≤ 140737488355328) (h48 : m * i.bytes ≤ 281474976710656) (hsz : 0 < i.size) (w : World) :
    (Builtin.append_ #[t, tn] ty #[.slice none 0 0, .int k (m : Int)]).run P w = .ok (.slice (some ⟨w.heap.size, 0, none⟩) m (grownCap w m 0 e)) (w.drew.alloc (.cells (Builtin.zeroCells z.cells m ++ Builtin.zeroCells z.cells (grownCap w m 0 e - m)) e)) := by
  have hm : m ≠ 0 := by omega
  have hw : IntKind.i64.wrap (m : Int) = m := by rw [IntKind.wrap_i64]; omega
  have h63' : ¬ (9223372036854775807 < (m : Int)) := by omega
  have h48' : ¬ (281474976710656 < Builtin.nextslicecap m 0 * i.bytes) := by rw [nextslicecap_zero h0]; omega
  have h48i : ¬ (281474976710656 < (m : Int) * (i.bytes : Int)) := by
    have : ((m * i.bytes : Nat) : Int) ≤ 281474976710656 := by omega
    rw [Int.natCast_mul] at this
    omega
  have hneg : ¬ ((m : Int) < 0) := by omega
  have hle : ¬ ((m : Int) ≤ 0) := by omega
  have hmx : ¬ (9223372036854775807 < max (m : Int) 0) := by omega
  have hmz : m * i.size ≠ 0 := Nat.ne_of_gt (Nat.mul_pos h0 hsz)
  have hsz' : i.size ≠ 0 := by omega
  have hfc := run_firstCells_none (P := P) w.drew i.size 0 0 0
  simp [Builtin.append_, run_underlying ht, run_underlying htn, sizeOf, typeInfo, zeroValue, hi, hz, asInt, asIntOf, hw, hm, hneg, hle, hmx, hmz, hsz', h63', h48', h48i, Question.forced, hfc, newRow, grownCap]

theorem acts_append_zeros {x y : Operand} {t tn e : TypeId} {size bytes m : Nat} {kn k : IntKind} (ho : o.op = .call { callee := .builtin .append, args := #[x, y], argTypes := #[t, tn] }) (he : elemOK P t e size bytes = true) (htn : P.underlying tn = some (.int kn))
    (hx : ev E x = some (.slice none 0 0)) (hy : ev E y = some (.int k (m : Int))) (h0 : 0 < m) (hb : m * bytes ≤ 140737488355328) (h63 : m ≤ 140737488355328) :
    Acts P n ds E o w (fun v w' => Ext [] w w' ∧ ∃ b cap cs, v = .slice (some ⟨b, 0, none⟩) m cap ∧ w.heap.size ≤ b ∧ Blk w' b e cs ∧ cs.length = cap * size ∧ m ≤ cap ∧ cap ≤ 9223372036854775807) Q := by
  intro a ha _
  obtain ⟨i, z, h1, h2, h3, h4, h5, h6, h7⟩ := elemOK_spec he
  have hr := run_append_zeros (P := P) (ty := o.type) (k := k) h1 htn h2 h3 h0 h63 (by rw [h5]; omega) (by omega) w
  have hge := grownCap_ge w m 0 e
  have hcm : grownCap w m 0 e ≤ maxLen := grownCap_le_maxLen w m 0 e (by unfold maxLen; omega)
  refine .inl ⟨.slice (some ⟨w.heap.size, 0, none⟩) m (grownCap w m 0 e), w.drew.alloc (.cells (Builtin.zeroCells z.cells m ++ Builtin.zeroCells z.cells (grownCap w m 0 e - m)) e), ?_, ⟨rfl, rfl, rfl, by simp, fun j hk _ => Go.heap_alloc_old w.drew _ hk, Nat.le_succ _⟩, w.heap.size, grownCap w m 0 e, (Builtin.zeroCells z.cells m ++ Builtin.zeroCells z.cells (grownCap w m 0 e - m)).toList, rfl, Nat.le_refl _, ?_, ?_, hge, by unfold maxLen at hcm; omega⟩
  · simp [execOp, ho, resolve, invoke, builtin, ha.eval hx, ha.eval hy, hr]
  · have := heap_alloc_new w.drew (.cells (Builtin.zeroCells z.cells m ++ Builtin.zeroCells z.cells (grownCap w m 0 e - m)) e)
    unfold Blk
    rw [Array.toArray_toList]
    exact this
  · rw [Array.length_toList, Array.size_append, size_zeroCells, size_zeroCells, h6, ← Nat.add_mul]
    congr 1
    omega
end
end Go.Eng

/- Branches' walks: facts of a branch. -/
set_option linter.unusedVariables false
set_option maxRecDepth 100000
set_option maxHeartbeats 4000000
set_option linter.unusedSimpArgs false
namespace Go.Proofs.Ytfgckcochilpkaa
open Go Go.Eng

def RRec (w : World) (r : Value) (x : List Fct × Int) : Prop := ∃ (p : Option Addr) (A : Addr) (c : Nat), r = .tuple #[.slice p x.1.length c, .int .i64 x.2] ∧ SlV fc w p A x.1 c

theorem record_at (l : List Fct) (cs : List Cr) (p q : Option Addr) (A B : Addr) (c d : Nat) (w : World) (hs : SlV fc w p A l c) (hc : SlV cc w q B cs d) (hk : checkL l = 0) (hl : l.length + cs.length ≤ 1000000) :
    Calls Try.prog 44 #[.slice p l.length c, .slice q cs.length d] w (Ret fun r w' => Ext [] w w' ∧ RRec w' r (recL l cs)) := by
  have hpc := hc.ptr
  have hrc := hc.row
  have hfc := hc.few
  refine calls_of_Sx (args := [.slice p l.length c, .slice q cs.length d]) Try.func44 rfl rfl ?_
  refine ztx ?_
  refine Ox.pure rfl rfl zas ?_
  refine Ox.pure rfl rfl zas ?_
  refine Ox.fin ?_
  refine ztx ?_
  refine Ox.pure rfl rfl zmv ?_
  refine Ox.pure rfl rfl (rp_lenS rfl rfl rfl) ?_
  refine Ox.pure rfl rfl zmv ?_
  refine Ox.fin ?_
  refine zbl ?_
  refine Sx.loop (ι := Nat × List Fct × Option Addr × Addr × Nat) (fun i E wr => E = [(0, .slice i.2.2.1 i.2.1.length i.2.2.2.2), (9, .slice q cs.length d), (10, .int .i64 (cs.length : Int)), (11, .int .i64 (i.1 : Int))] ∧ i.1 ≤ cs.length ∧ Ext [] w wr ∧ SlV fc wr i.2.2.1 i.2.2.2.1 i.2.1 i.2.2.2.2 ∧ i.2.1.length ≤ l.length + i.1 ∧ checkL i.2.1 = 0 ∧ recL l cs = recL i.2.1 (cs.drop i.1)) (fun i => cs.length - i.1) (0, l, p, A, c)
    (sub_cons rfl (sub_cons rfl (sub_cons rfl (sub_cons rfl sub_nil)))) ⟨rfl, Nat.zero_le _, zxc, hs, Nat.le_refl _, hk, by dsimp only; rw [List.drop_zero]⟩ ?_
  rintro ⟨i, li, p1, A1, c1⟩ E wr ⟨rfl, hi, er, hs1, hlen, hck, hall⟩
  dsimp only at hi hs1 hlen hck hall ⊢
  have hz := er.size
  by_cases hlt : i < cs.length
  · have hat := rowsV_at cc_len hlt
    have hl6 := cc_len cs[i]
    have hp1 := hs1.ptr
    have hr1 := hs1.row
    have hf1 := hs1.few
    rw [List.drop_eq_getElem_cons hlt, recL_cons] at hall
    have hle := addL_len li (chF cs[i] (nextK li))
    refine ztx ?_
    refine Ox.pure rfl rfl zbc ?_
    refine Ox.fin ?_
    refine zct ?_
    refine zsk ?_
    refine zbl ?_
    refine ztx ?_
    refine Ox.pure rfl rfl zix ?_
    refine Ox.val rfl rfl zra ?_
    refine Ox.act rfl rfl (acts_alloc rfl rfl) ?_
    rintro val wal ⟨eal, bal, rfl, hbal, hBal⟩
    first | (have hCal : Cells wal ⟨bal, 0, none⟩ [_, _, _, _, _, _] := hBal.cells) | have hCal := Blk.cellsL hBal
    have hlal := hBal.lt
    have hzal := eal.size
    refine Ox.act rfl rfl (acts_store_all rfl rfl rfl hBal rfl (by first | rfl | assumption) (by first | rfl | assumption) (by (first | assumption | exact List.all_eq_true.mp rfl | simp [Value.cells, Value.oneCell']))) ?_
    rintro vst wst ⟨rfl, qst, hBst⟩
    have est := Ext.renew eal qst hbal
    have hzst := est.size
    have hlst := hBst.lt
    first | (have hCst : Cells wst ⟨bal, 0, none⟩ [_, _, _, _, _, _] := hBst.cells) | have hCst := Blk.cellsL hBst
    refine Ox.fin ?_
    refine ztx ?_
    refine Ox.pure rfl rfl zas ?_
    refine Ox.fin ?_
    refine Sx.seq (Sx.upto (fun E' w' => (∀ t u, get [(0, .slice p1 li.length c1), (9, .slice q cs.length d), (10, .int .i64 (cs.length : Int)), (11, .int .i64 (i : Int)), (7, .pointer (some ⟨bal, 0, none⟩)), (8, .int .i64 (nextK li))] t = some u → get E' t = some u) ∧ Ext [] wst w') ?_ ?_)
    · rcases Nat.eq_zero_or_pos li.length with h0 | h0
      · have hn0 : nextK li = 1 := by rw [List.eq_nil_of_length_eq_zero h0]; rfl
        rw [hn0]
        refine ztx ?_
        refine Ox.pure rfl rfl zmv ?_
        refine Ox.pure rfl rfl (rp_lenS rfl rfl rfl) ?_
        refine Ox.pure rfl rfl zbc ?_
        refine Ox.fin ?_
        refine zcf ?_
        refine zsk ?_
        exact ⟨sub_cons rfl (sub_cons rfl (sub_cons rfl (sub_cons rfl (sub_cons rfl (sub_cons rfl sub_nil))))), zxc⟩
      · have hln : li.length - 1 < li.length := by omega
        have hfl := (checkL_zero.1 hck).1 _ (List.getElem_mem hln)
        unfold Fits at hfl
        have hLn : ∀ u, Ext [] wr u → Ld Try.prog u 3 (A1.add ((li.length - 1) * 8 + 6)) (.int .i64 li[li.length - 1].known) := fun u hu => ld_field fc_len (hr1.ext0 hu) hln 6 rfl (by decide) rfl
        rw [nextK_get h0]
        refine ztx ?_
        refine Ox.pure rfl rfl zmv ?_
        refine Ox.pure rfl rfl (rp_lenS rfl rfl rfl) ?_
        refine Ox.pure rfl rfl zbc ?_
        refine Ox.fin ?_
        refine zct ?_
        refine ztx ?_
        refine Ox.pure rfl rfl zmv ?_
        refine Ox.pure rfl rfl zmv ?_
        refine Ox.pure rfl rfl (rp_lenS rfl rfl rfl) ?_
        refine Ox.pure rfl rfl zbs ?_
        refine Ox.pure rfl rfl (rp_indexAddr (li.length - 1) rfl rfl rfl rfl rfl (by assumption) (by omega) (by omega)) ?_
        refine Ox.pure rfl rfl zfa ?_
        refine Ox.val rfl rfl (rv_load rfl rfl (fun u hu => hLn u zxc)) ?_
        refine Ox.pure rfl rfl zba ?_
        refine Ox.pure rfl rfl zas ?_
        refine Ox.fin ?_
        exact ⟨sub_cons rfl (sub_cons rfl (sub_cons rfl (sub_cons rfl (sub_cons rfl (sub_cons rfl sub_nil))))), zxc⟩
    rintro E' wm ⟨hsub, em⟩
    refine thenE_normal (Sx.weaken ?_ hsub)
    have hzm := em.size
    by_cases hok : (addL li (chF cs[i] (nextK li))).2 = 0
    · rw [if_pos hok] at hall
      obtain ⟨a1, a2, a3, a4⟩ := addL_ok hok
      refine ztx ?_
      refine Ox.pure rfl rfl zmv ?_
      refine Ox.pure rfl rfl zfa ?_
      refine Ox.val rfl rfl zra ?_
      refine Ox.pure rfl rfl zfa ?_
      refine Ox.val rfl rfl zrs ?_
      refine Ox.pure rfl rfl zfa ?_
      refine Ox.val rfl rfl zra ?_
      refine Ox.pure rfl rfl zmv ?_
      refine Ox.pure rfl rfl (rp_buildS (ps := [(0, .tmp 29), (1, .tmp 31), (2, .tmp 33), (3, .tmp 34)]) rfl rfl rfl rfl rfl) ?_
      refine Ox.act rfl rfl (acts_call rfl rfl rfl (add_at li (chF cs[i] (nextK li)) p1 A1 c1 _ (hs1.ext0 zxc) (by omega))) ?_
      rintro v1 w1 ⟨e1, v7, rfl, ho7⟩
      have hz1 := e1.size
      obtain ⟨p7, c7, A7, rfl, hs7, _⟩ := ho7.sl (by omega)
      refine Ox.pure rfl rfl zmv ?_
      refine Ox.pure rfl rfl (rp_extract rfl rfl rfl) ?_
      refine Ox.pure rfl rfl (rp_extract rfl rfl rfl) ?_
      refine Ox.pure rfl rfl zas ?_
      refine Ox.pure rfl rfl zas ?_
      refine Ox.fin ?_
      refine ztx ?_
      refine Ox.pure rfl rfl zmv ?_
      refine Ox.pure rfl rfl zbc ?_
      refine Ox.fin ?_
      refine zcf ?_
      refine zsk ?_
      refine ztx ?_
      refine Ox.pure rfl rfl zba ?_
      refine Ox.pure rfl rfl zmv ?_
      refine Ox.fin ?_
      exact ⟨(i + 1, (addL li (chF cs[i] (nextK li))).1, p7, A7, c7), _, sub_cons rfl (sub_cons rfl (sub_cons rfl (sub_cons rfl sub_nil))), ⟨rfl, hlt, zxc, hs7.ext0 zxc, (by dsimp only; omega), (by dsimp only; rw [a1]; exact checkL_snoc a2 a3 a4), hall⟩, by dsimp only; omega⟩
    · rw [if_neg hok] at hall
      refine ztx ?_
      refine Ox.pure rfl rfl zmv ?_
      refine Ox.pure rfl rfl zfa ?_
      refine Ox.val rfl rfl zra ?_
      refine Ox.pure rfl rfl zfa ?_
      refine Ox.val rfl rfl zrs ?_
      refine Ox.pure rfl rfl zfa ?_
      refine Ox.val rfl rfl zra ?_
      refine Ox.pure rfl rfl zmv ?_
      refine Ox.pure rfl rfl (rp_buildS (ps := [(0, .tmp 29), (1, .tmp 31), (2, .tmp 33), (3, .tmp 34)]) rfl rfl rfl rfl rfl) ?_
      refine Ox.act rfl rfl (acts_call rfl rfl rfl (add_at li (chF cs[i] (nextK li)) p1 A1 c1 _ (hs1.ext0 zxc) (by omega))) ?_
      rintro v2 w2 ⟨e2, v7, rfl, ho7⟩
      have hz2 := e2.size
      obtain ⟨p7, c7, A7, rfl, hs7, _⟩ := ho7.sl (by omega)
      refine Ox.pure rfl rfl zmv ?_
      refine Ox.pure rfl rfl (rp_extract rfl rfl rfl) ?_
      refine Ox.pure rfl rfl (rp_extract rfl rfl rfl) ?_
      refine Ox.pure rfl rfl zas ?_
      refine Ox.pure rfl rfl zas ?_
      refine Ox.fin ?_
      refine ztx ?_
      refine Ox.pure rfl rfl zmv ?_
      refine Ox.pure rfl rfl zbc ?_
      refine Ox.fin ?_
      refine zct ?_
      refine ztx ?_
      refine Ox.pure rfl rfl zmv ?_
      refine Ox.pure rfl rfl zas ?_
      refine Ox.pure rfl rfl zas ?_
      refine Ox.fin ?_
      refine zrt ?_
      exact endE_ret [.slice none 0 0, .int .i64 (addL li (chF cs[i] (nextK li))).2] ⟨rfl, rfl, trivial⟩ ⟨zxc, by rw [hall]; exact ⟨none, ⟨0, 0, none⟩, 0, rfl, SlV.nil _ _⟩⟩
  · obtain rfl : i = cs.length := by omega
    rw [List.drop_length] at hall
    refine ztx ?_
    refine Ox.pure rfl rfl zbc ?_
    refine Ox.fin ?_
    refine zcf ?_
    refine zex ?_
    refine ztx ?_
    refine Ox.pure rfl rfl zmv ?_
    refine Ox.pure rfl rfl zas ?_
    refine Ox.pure rfl rfl zas ?_
    refine Ox.fin ?_
    refine zrt ?_
    exact endE_ret [.slice p1 li.length c1, .int .i64 0] ⟨rfl, rfl, trivial⟩ ⟨zxc, by rw [hall]; exact ⟨p1, A1, c1, rfl, hs1.ext0 zxc⟩⟩

theorem length_at_p (s : Bs) (no : Int) (w : World) (hin : BsIn s w) (hn : no < (s.bls.length : Int)) :
    Calls Try.prog 38 #[.agg (bvc s).toArray, .int .i64 no] w (Ret fun r w' => Ext [] w w' ∧ r = .int .i64 (lenB s.br no : Int)) := by
  have hp1 := hin.bls.ptr
  have hr1 := hin.bls.row
  have hf1 := hin.bls.few
  refine calls_of_Sx (args := [.agg (bvc s).toArray, .int .i64 no]) Try.func38 rfl rfl ?_
  by_cases h0 : no < 0
  · have hl : lenB s.br no = s.base.length := by unfold lenB; rw [if_pos h0]; rfl
    refine ztx ?_
    refine Ox.act rfl rfl (acts_box rfl rfl) ?_
    rintro vb2 wb2 ⟨eb2, bb2, rfl, hbb2, hBb2⟩
    first | (have hCb2 : Cells wb2 ⟨bb2, 0, none⟩ [_, _, _, _, _] := hBb2.cells) | have hCb2 := Blk.cellsL hBb2
    have hlb2 := hBb2.lt
    have hzb2 := eb2.size
    refine Ox.pure rfl rfl zas ?_
    refine Ox.fin ?_
    refine ztx ?_
    refine Ox.pure rfl rfl zmv ?_
    refine Ox.pure rfl rfl zbc ?_
    refine Ox.fin ?_
    refine zct ?_
    refine ztx ?_
    refine Ox.pure rfl rfl zfa ?_
    refine Ox.val rfl rfl zrs ?_
    refine Ox.pure rfl rfl (rp_lenS rfl rfl rfl) ?_
    refine Ox.pure rfl rfl zas ?_
    refine Ox.fin ?_
    refine zrt ?_
    exact endE_ret [_] ⟨rfl, trivial⟩ ⟨zxc, by rw [hl]; rfl⟩
  · have hi : no.toNat < s.bls.length := by omega
    have hl : lenB s.br no = s.bls[no.toNat].l.length := by unfold lenB; rw [if_neg h0]; show (brB s.br no.toNat).length = _; rw [brB_eq hi]
    have hL : ∀ u, Ext [] w u → Ld Try.prog u 59 (s.A1.add (no.toNat * 1 + 0)) (.slice s.bls[no.toNat].p s.bls[no.toNat].l.length s.bls[no.toNat].c) := fun u hu => ld_field blc_len (hr1.ext0 hu) hi 0 rfl (by decide) rfl
    refine ztx ?_
    refine Ox.act rfl rfl (acts_box rfl rfl) ?_
    rintro vb2 wb2 ⟨eb2, bb2, rfl, hbb2, hBb2⟩
    first | (have hCb2 : Cells wb2 ⟨bb2, 0, none⟩ [_, _, _, _, _] := hBb2.cells) | have hCb2 := Blk.cellsL hBb2
    have hlb2 := hBb2.lt
    have hzb2 := eb2.size
    refine Ox.pure rfl rfl zas ?_
    refine Ox.fin ?_
    refine ztx ?_
    refine Ox.pure rfl rfl zmv ?_
    refine Ox.pure rfl rfl zbc ?_
    refine Ox.fin ?_
    refine zcf ?_
    refine zsk ?_
    refine ztx ?_
    refine Ox.pure rfl rfl zfa ?_
    refine Ox.val rfl rfl zrs ?_
    refine Ox.pure rfl rfl zmv ?_
    refine Ox.pure rfl rfl (rp_indexAddr no.toNat rfl rfl rfl rfl rfl (by assumption) (by omega) hi) ?_
    refine Ox.val rfl rfl (rv_load rfl rfl (fun u hu => hL u zxc)) ?_
    refine Ox.pure rfl rfl (rp_lenS rfl rfl rfl) ?_
    refine Ox.pure rfl rfl zas ?_
    refine Ox.fin ?_
    refine zrt ?_
    exact endE_ret [_] ⟨rfl, trivial⟩ ⟨zxc, by rw [hl]; rfl⟩

theorem open_at_p (s : Bs) (no : Int) (w : World) (hin : BsIn s w) (hd : s.done.length = s.bls.length) :
    Calls Try.prog 36 #[.agg (bvc s).toArray, .int .i64 no] w (Ret fun r w' => Ext [] w w' ∧ r = .bool (decide (OpenB s.br no))) := by
  have hp4 := hin.done.ptr
  have hr4 := hin.done.row
  have hf4 := hin.done.few
  have hbl := br_len s
  refine calls_of_Sx (args := [.agg (bvc s).toArray, .int .i64 no]) Try.func36 rfl rfl ?_
  by_cases h0 : 0 ≤ no; rotate_left
  · refine ztx ?_
    refine Ox.act rfl rfl (acts_box rfl rfl) ?_
    rintro vb2 wb2 ⟨eb2, bb2, rfl, hbb2, hBb2⟩
    first | (have hCb2 : Cells wb2 ⟨bb2, 0, none⟩ [_, _, _, _, _] := hBb2.cells) | have hCb2 := Blk.cellsL hBb2
    have hlb2 := hBb2.lt
    have hzb2 := eb2.size
    refine Ox.pure rfl rfl zas ?_
    refine Ox.fin ?_
    refine ztx ?_
    refine Ox.pure rfl rfl zmv ?_
    refine Ox.pure rfl rfl zbc ?_
    refine Ox.pure rfl rfl zmv ?_
    first | (refine Ox.skip rfl rfl ?_) | (refine Ox.pure rfl rfl zmv ?_)
    first | (refine Ox.skip rfl rfl ?_) | (refine Ox.pure rfl rfl zfa ?_)
    first | (refine Ox.skip rfl rfl ?_) | (refine Ox.val rfl rfl zrs ?_)
    first | (refine Ox.skip rfl rfl ?_) | (refine Ox.pure rfl rfl (rp_lenS rfl rfl rfl) ?_)
    first | (refine Ox.skip rfl rfl ?_) | (refine Ox.pure rfl rfl zbc ?_)
    refine Ox.pure rfl rfl zpk ?_
    refine Ox.pure rfl rfl zmv ?_
    first | (refine Ox.skip rfl rfl ?_) | (refine Ox.pure rfl rfl zfa ?_)
    first | (refine Ox.skip rfl rfl ?_) | (refine Ox.val rfl rfl zrs ?_)
    first | (refine Ox.skip rfl rfl ?_) | (refine Ox.pure rfl rfl zmv ?_)
    first | (refine Ox.skip rfl rfl ?_) | (refine Ox.pure rfl rfl zix ?_)
    first | (refine Ox.skip rfl rfl ?_) | (refine Ox.val rfl rfl zrs ?_)
    first | (refine Ox.skip rfl rfl ?_) | (refine Ox.pure rfl rfl (rp_not rfl rfl) ?_)
    refine Ox.pure rfl rfl zpk ?_
    refine Ox.pure rfl rfl zas ?_
    refine Ox.fin ?_
    refine zrt ?_
    exact endE_ret [_] ⟨rfl, trivial⟩ ⟨zxc, congrArg Value.bool (decide_eq_false (fun h => h0 h.1)).symm⟩
  by_cases h1 : no < (s.bls.length : Int); rotate_left
  · refine ztx ?_
    refine Ox.act rfl rfl (acts_box rfl rfl) ?_
    rintro vb2 wb2 ⟨eb2, bb2, rfl, hbb2, hBb2⟩
    first | (have hCb2 : Cells wb2 ⟨bb2, 0, none⟩ [_, _, _, _, _] := hBb2.cells) | have hCb2 := Blk.cellsL hBb2
    have hlb2 := hBb2.lt
    have hzb2 := eb2.size
    refine Ox.pure rfl rfl zas ?_
    refine Ox.fin ?_
    refine ztx ?_
    refine Ox.pure rfl rfl zmv ?_
    refine Ox.pure rfl rfl zbc ?_
    refine Ox.pure rfl rfl zmv ?_
    first | (refine Ox.skip rfl rfl ?_) | (refine Ox.pure rfl rfl zmv ?_)
    first | (refine Ox.skip rfl rfl ?_) | (refine Ox.pure rfl rfl zfa ?_)
    first | (refine Ox.skip rfl rfl ?_) | (refine Ox.val rfl rfl zrs ?_)
    first | (refine Ox.skip rfl rfl ?_) | (refine Ox.pure rfl rfl (rp_lenS rfl rfl rfl) ?_)
    first | (refine Ox.skip rfl rfl ?_) | (refine Ox.pure rfl rfl zbc ?_)
    refine Ox.pure rfl rfl zpk ?_
    refine Ox.pure rfl rfl zmv ?_
    first | (refine Ox.skip rfl rfl ?_) | (refine Ox.pure rfl rfl zfa ?_)
    first | (refine Ox.skip rfl rfl ?_) | (refine Ox.val rfl rfl zrs ?_)
    first | (refine Ox.skip rfl rfl ?_) | (refine Ox.pure rfl rfl zmv ?_)
    first | (refine Ox.skip rfl rfl ?_) | (refine Ox.pure rfl rfl zix ?_)
    first | (refine Ox.skip rfl rfl ?_) | (refine Ox.val rfl rfl zrs ?_)
    first | (refine Ox.skip rfl rfl ?_) | (refine Ox.pure rfl rfl (rp_not rfl rfl) ?_)
    refine Ox.pure rfl rfl zpk ?_
    refine Ox.pure rfl rfl zas ?_
    refine Ox.fin ?_
    refine zrt ?_
    exact endE_ret [_] ⟨rfl, trivial⟩ ⟨zxc, congrArg Value.bool (decide_eq_false (fun h => h1 (by have := h.2.1; omega))).symm⟩
  have hi : no.toNat < s.done.length := by omega
  have hdo := doneB_eq (s := s) hi
  have hL : ∀ u, Ext [] w u → Ld Try.prog u 4 (s.A4.add (no.toNat * 1 + 0)) (.bool s.done[no.toNat]) := fun u hu => ld_field boc_len (hr4.ext0 hu) hi 0 rfl (by decide) rfl
  cases hb : s.done[no.toNat] with
  | true =>
    rw [hb] at hL hdo
    refine ztx ?_
    refine Ox.act rfl rfl (acts_box rfl rfl) ?_
    rintro vb2 wb2 ⟨eb2, bb2, rfl, hbb2, hBb2⟩
    first | (have hCb2 : Cells wb2 ⟨bb2, 0, none⟩ [_, _, _, _, _] := hBb2.cells) | have hCb2 := Blk.cellsL hBb2
    have hlb2 := hBb2.lt
    have hzb2 := eb2.size
    refine Ox.pure rfl rfl zas ?_
    refine Ox.fin ?_
    refine ztx ?_
    refine Ox.pure rfl rfl zmv ?_
    refine Ox.pure rfl rfl zbc ?_
    refine Ox.pure rfl rfl zmv ?_
    first | (refine Ox.skip rfl rfl ?_) | (refine Ox.pure rfl rfl zmv ?_)
    first | (refine Ox.skip rfl rfl ?_) | (refine Ox.pure rfl rfl zfa ?_)
    first | (refine Ox.skip rfl rfl ?_) | (refine Ox.val rfl rfl zrs ?_)
    first | (refine Ox.skip rfl rfl ?_) | (refine Ox.pure rfl rfl (rp_lenS rfl rfl rfl) ?_)
    first | (refine Ox.skip rfl rfl ?_) | (refine Ox.pure rfl rfl zbc ?_)
    refine Ox.pure rfl rfl zpk ?_
    refine Ox.pure rfl rfl zmv ?_
    first | (refine Ox.skip rfl rfl ?_) | (refine Ox.pure rfl rfl zfa ?_)
    first | (refine Ox.skip rfl rfl ?_) | (refine Ox.val rfl rfl zrs ?_)
    first | (refine Ox.skip rfl rfl ?_) | (refine Ox.pure rfl rfl zmv ?_)
    first | (refine Ox.skip rfl rfl ?_) | (refine Ox.pure rfl rfl (rp_indexAddr no.toNat rfl rfl rfl rfl rfl (by assumption) (by omega) hi) ?_)
    first | (refine Ox.skip rfl rfl ?_) | (refine Ox.val rfl rfl (rv_load rfl rfl (fun u hu => hL u zxc)) ?_)
    first | (refine Ox.skip rfl rfl ?_) | (refine Ox.pure rfl rfl (rp_not rfl rfl) ?_)
    refine Ox.pure rfl rfl zpk ?_
    refine Ox.pure rfl rfl zas ?_
    refine Ox.fin ?_
    refine zrt ?_
    exact endE_ret [_] ⟨rfl, trivial⟩ ⟨zxc, congrArg Value.bool (decide_eq_false (fun h => by have := h.2.2; rw [hdo] at this; cases this)).symm⟩
  | false =>
    rw [hb] at hL hdo
    refine ztx ?_
    refine Ox.act rfl rfl (acts_box rfl rfl) ?_
    rintro vb2 wb2 ⟨eb2, bb2, rfl, hbb2, hBb2⟩
    first | (have hCb2 : Cells wb2 ⟨bb2, 0, none⟩ [_, _, _, _, _] := hBb2.cells) | have hCb2 := Blk.cellsL hBb2
    have hlb2 := hBb2.lt
    have hzb2 := eb2.size
    refine Ox.pure rfl rfl zas ?_
    refine Ox.fin ?_
    refine ztx ?_
    refine Ox.pure rfl rfl zmv ?_
    refine Ox.pure rfl rfl zbc ?_
    refine Ox.pure rfl rfl zmv ?_
    first | (refine Ox.skip rfl rfl ?_) | (refine Ox.pure rfl rfl zmv ?_)
    first | (refine Ox.skip rfl rfl ?_) | (refine Ox.pure rfl rfl zfa ?_)
    first | (refine Ox.skip rfl rfl ?_) | (refine Ox.val rfl rfl zrs ?_)
    first | (refine Ox.skip rfl rfl ?_) | (refine Ox.pure rfl rfl (rp_lenS rfl rfl rfl) ?_)
    first | (refine Ox.skip rfl rfl ?_) | (refine Ox.pure rfl rfl zbc ?_)
    refine Ox.pure rfl rfl zpk ?_
    refine Ox.pure rfl rfl zmv ?_
    first | (refine Ox.skip rfl rfl ?_) | (refine Ox.pure rfl rfl zfa ?_)
    first | (refine Ox.skip rfl rfl ?_) | (refine Ox.val rfl rfl zrs ?_)
    first | (refine Ox.skip rfl rfl ?_) | (refine Ox.pure rfl rfl zmv ?_)
    first | (refine Ox.skip rfl rfl ?_) | (refine Ox.pure rfl rfl (rp_indexAddr no.toNat rfl rfl rfl rfl rfl (by assumption) (by omega) hi) ?_)
    first | (refine Ox.skip rfl rfl ?_) | (refine Ox.val rfl rfl (rv_load rfl rfl (fun u hu => hL u zxc)) ?_)
    first | (refine Ox.skip rfl rfl ?_) | (refine Ox.pure rfl rfl (rp_not rfl rfl) ?_)
    refine Ox.pure rfl rfl zpk ?_
    refine Ox.pure rfl rfl zas ?_
    refine Ox.fin ?_
    refine zrt ?_
    exact endE_ret [_] ⟨rfl, trivial⟩ ⟨zxc, congrArg Value.bool (decide_eq_true ⟨h0, by omega, hdo⟩).symm⟩

theorem length_at_r (s : Bs) (no : Int) (w : World) (hin : BsIn s w) (hn : no < (s.bls.length : Int)) :
    Calls Try.prog 42 #[.agg (bvc s).toArray, .int .i64 no] w (Ret fun r w' => Ext [] w w' ∧ r = .int .i64 (lenB s.br no : Int)) := by
  have hp1 := hin.bls.ptr
  have hr1 := hin.bls.row
  have hf1 := hin.bls.few
  refine calls_of_Sx (args := [.agg (bvc s).toArray, .int .i64 no]) Try.func42 rfl rfl ?_
  by_cases h0 : no < 0
  · have hl : lenB s.br no = s.base.length := by unfold lenB; rw [if_pos h0]; rfl
    refine ztx ?_
    refine Ox.act rfl rfl (acts_box rfl rfl) ?_
    rintro vb2 wb2 ⟨eb2, bb2, rfl, hbb2, hBb2⟩
    first | (have hCb2 : Cells wb2 ⟨bb2, 0, none⟩ [_, _, _, _, _] := hBb2.cells) | have hCb2 := Blk.cellsL hBb2
    have hlb2 := hBb2.lt
    have hzb2 := eb2.size
    refine Ox.pure rfl rfl zas ?_
    refine Ox.fin ?_
    refine ztx ?_
    refine Ox.pure rfl rfl zmv ?_
    refine Ox.pure rfl rfl zbc ?_
    refine Ox.fin ?_
    refine zct ?_
    refine ztx ?_
    refine Ox.pure rfl rfl zfa ?_
    refine Ox.val rfl rfl zrs ?_
    refine Ox.pure rfl rfl (rp_lenS rfl rfl rfl) ?_
    refine Ox.pure rfl rfl zas ?_
    refine Ox.fin ?_
    refine zrt ?_
    exact endE_ret [_] ⟨rfl, trivial⟩ ⟨zxc, by rw [hl]; rfl⟩
  · have hi : no.toNat < s.bls.length := by omega
    have hl : lenB s.br no = s.bls[no.toNat].l.length := by unfold lenB; rw [if_neg h0]; show (brB s.br no.toNat).length = _; rw [brB_eq hi]
    have hL : ∀ u, Ext [] w u → Ld Try.prog u 59 (s.A1.add (no.toNat * 1 + 0)) (.slice s.bls[no.toNat].p s.bls[no.toNat].l.length s.bls[no.toNat].c) := fun u hu => ld_field blc_len (hr1.ext0 hu) hi 0 rfl (by decide) rfl
    refine ztx ?_
    refine Ox.act rfl rfl (acts_box rfl rfl) ?_
    rintro vb2 wb2 ⟨eb2, bb2, rfl, hbb2, hBb2⟩
    first | (have hCb2 : Cells wb2 ⟨bb2, 0, none⟩ [_, _, _, _, _] := hBb2.cells) | have hCb2 := Blk.cellsL hBb2
    have hlb2 := hBb2.lt
    have hzb2 := eb2.size
    refine Ox.pure rfl rfl zas ?_
    refine Ox.fin ?_
    refine ztx ?_
    refine Ox.pure rfl rfl zmv ?_
    refine Ox.pure rfl rfl zbc ?_
    refine Ox.fin ?_
    refine zcf ?_
    refine zsk ?_
    refine ztx ?_
    refine Ox.pure rfl rfl zfa ?_
    refine Ox.val rfl rfl zrs ?_
    refine Ox.pure rfl rfl zmv ?_
    refine Ox.pure rfl rfl (rp_indexAddr no.toNat rfl rfl rfl rfl rfl (by assumption) (by omega) hi) ?_
    refine Ox.val rfl rfl (rv_load rfl rfl (fun u hu => hL u zxc)) ?_
    refine Ox.pure rfl rfl (rp_lenS rfl rfl rfl) ?_
    refine Ox.pure rfl rfl zas ?_
    refine Ox.fin ?_
    refine zrt ?_
    exact endE_ret [_] ⟨rfl, trivial⟩ ⟨zxc, by rw [hl]; rfl⟩

theorem open_at_r (s : Bs) (no : Int) (w : World) (hin : BsIn s w) (hd : s.done.length = s.bls.length) :
    Calls Try.prog 40 #[.agg (bvc s).toArray, .int .i64 no] w (Ret fun r w' => Ext [] w w' ∧ r = .bool (decide (OpenB s.br no))) := by
  have hp4 := hin.done.ptr
  have hr4 := hin.done.row
  have hf4 := hin.done.few
  have hbl := br_len s
  refine calls_of_Sx (args := [.agg (bvc s).toArray, .int .i64 no]) Try.func40 rfl rfl ?_
  by_cases h0 : 0 ≤ no; rotate_left
  · refine ztx ?_
    refine Ox.act rfl rfl (acts_box rfl rfl) ?_
    rintro vb2 wb2 ⟨eb2, bb2, rfl, hbb2, hBb2⟩
    first | (have hCb2 : Cells wb2 ⟨bb2, 0, none⟩ [_, _, _, _, _] := hBb2.cells) | have hCb2 := Blk.cellsL hBb2
    have hlb2 := hBb2.lt
    have hzb2 := eb2.size
    refine Ox.pure rfl rfl zas ?_
    refine Ox.fin ?_
    refine ztx ?_
    refine Ox.pure rfl rfl zmv ?_
    refine Ox.pure rfl rfl zbc ?_
    refine Ox.pure rfl rfl zmv ?_
    first | (refine Ox.skip rfl rfl ?_) | (refine Ox.pure rfl rfl zmv ?_)
    first | (refine Ox.skip rfl rfl ?_) | (refine Ox.pure rfl rfl zfa ?_)
    first | (refine Ox.skip rfl rfl ?_) | (refine Ox.val rfl rfl zrs ?_)
    first | (refine Ox.skip rfl rfl ?_) | (refine Ox.pure rfl rfl (rp_lenS rfl rfl rfl) ?_)
    first | (refine Ox.skip rfl rfl ?_) | (refine Ox.pure rfl rfl zbc ?_)
    refine Ox.pure rfl rfl zpk ?_
    refine Ox.pure rfl rfl zmv ?_
    first | (refine Ox.skip rfl rfl ?_) | (refine Ox.pure rfl rfl zfa ?_)
    first | (refine Ox.skip rfl rfl ?_) | (refine Ox.val rfl rfl zrs ?_)
    first | (refine Ox.skip rfl rfl ?_) | (refine Ox.pure rfl rfl zmv ?_)
    first | (refine Ox.skip rfl rfl ?_) | (refine Ox.pure rfl rfl zix ?_)
    first | (refine Ox.skip rfl rfl ?_) | (refine Ox.val rfl rfl zrs ?_)
    first | (refine Ox.skip rfl rfl ?_) | (refine Ox.pure rfl rfl (rp_not rfl rfl) ?_)
    refine Ox.pure rfl rfl zpk ?_
    refine Ox.pure rfl rfl zas ?_
    refine Ox.fin ?_
    refine zrt ?_
    exact endE_ret [_] ⟨rfl, trivial⟩ ⟨zxc, congrArg Value.bool (decide_eq_false (fun h => h0 h.1)).symm⟩
  by_cases h1 : no < (s.bls.length : Int); rotate_left
  · refine ztx ?_
    refine Ox.act rfl rfl (acts_box rfl rfl) ?_
    rintro vb2 wb2 ⟨eb2, bb2, rfl, hbb2, hBb2⟩
    first | (have hCb2 : Cells wb2 ⟨bb2, 0, none⟩ [_, _, _, _, _] := hBb2.cells) | have hCb2 := Blk.cellsL hBb2
    have hlb2 := hBb2.lt
    have hzb2 := eb2.size
    refine Ox.pure rfl rfl zas ?_
    refine Ox.fin ?_
    refine ztx ?_
    refine Ox.pure rfl rfl zmv ?_
    refine Ox.pure rfl rfl zbc ?_
    refine Ox.pure rfl rfl zmv ?_
    first | (refine Ox.skip rfl rfl ?_) | (refine Ox.pure rfl rfl zmv ?_)
    first | (refine Ox.skip rfl rfl ?_) | (refine Ox.pure rfl rfl zfa ?_)
    first | (refine Ox.skip rfl rfl ?_) | (refine Ox.val rfl rfl zrs ?_)
    first | (refine Ox.skip rfl rfl ?_) | (refine Ox.pure rfl rfl (rp_lenS rfl rfl rfl) ?_)
    first | (refine Ox.skip rfl rfl ?_) | (refine Ox.pure rfl rfl zbc ?_)
    refine Ox.pure rfl rfl zpk ?_
    refine Ox.pure rfl rfl zmv ?_
    first | (refine Ox.skip rfl rfl ?_) | (refine Ox.pure rfl rfl zfa ?_)
    first | (refine Ox.skip rfl rfl ?_) | (refine Ox.val rfl rfl zrs ?_)
    first | (refine Ox.skip rfl rfl ?_) | (refine Ox.pure rfl rfl zmv ?_)
    first | (refine Ox.skip rfl rfl ?_) | (refine Ox.pure rfl rfl zix ?_)
    first | (refine Ox.skip rfl rfl ?_) | (refine Ox.val rfl rfl zrs ?_)
    first | (refine Ox.skip rfl rfl ?_) | (refine Ox.pure rfl rfl (rp_not rfl rfl) ?_)
    refine Ox.pure rfl rfl zpk ?_
    refine Ox.pure rfl rfl zas ?_
    refine Ox.fin ?_
    refine zrt ?_
    exact endE_ret [_] ⟨rfl, trivial⟩ ⟨zxc, congrArg Value.bool (decide_eq_false (fun h => h1 (by have := h.2.1; omega))).symm⟩
  have hi : no.toNat < s.done.length := by omega
  have hdo := doneB_eq (s := s) hi
  have hL : ∀ u, Ext [] w u → Ld Try.prog u 4 (s.A4.add (no.toNat * 1 + 0)) (.bool s.done[no.toNat]) := fun u hu => ld_field boc_len (hr4.ext0 hu) hi 0 rfl (by decide) rfl
  cases hb : s.done[no.toNat] with
  | true =>
    rw [hb] at hL hdo
    refine ztx ?_
    refine Ox.act rfl rfl (acts_box rfl rfl) ?_
    rintro vb2 wb2 ⟨eb2, bb2, rfl, hbb2, hBb2⟩
    first | (have hCb2 : Cells wb2 ⟨bb2, 0, none⟩ [_, _, _, _, _] := hBb2.cells) | have hCb2 := Blk.cellsL hBb2
    have hlb2 := hBb2.lt
    have hzb2 := eb2.size
    refine Ox.pure rfl rfl zas ?_
    refine Ox.fin ?_
    refine ztx ?_
    refine Ox.pure rfl rfl zmv ?_
    refine Ox.pure rfl rfl zbc ?_
    refine Ox.pure rfl rfl zmv ?_
    first | (refine Ox.skip rfl rfl ?_) | (refine Ox.pure rfl rfl zmv ?_)
    first | (refine Ox.skip rfl rfl ?_) | (refine Ox.pure rfl rfl zfa ?_)
    first | (refine Ox.skip rfl rfl ?_) | (refine Ox.val rfl rfl zrs ?_)
    first | (refine Ox.skip rfl rfl ?_) | (refine Ox.pure rfl rfl (rp_lenS rfl rfl rfl) ?_)
    first | (refine Ox.skip rfl rfl ?_) | (refine Ox.pure rfl rfl zbc ?_)
    refine Ox.pure rfl rfl zpk ?_
    refine Ox.pure rfl rfl zmv ?_
    first | (refine Ox.skip rfl rfl ?_) | (refine Ox.pure rfl rfl zfa ?_)
    first | (refine Ox.skip rfl rfl ?_) | (refine Ox.val rfl rfl zrs ?_)
    first | (refine Ox.skip rfl rfl ?_) | (refine Ox.pure rfl rfl zmv ?_)
    first | (refine Ox.skip rfl rfl ?_) | (refine Ox.pure rfl rfl (rp_indexAddr no.toNat rfl rfl rfl rfl rfl (by assumption) (by omega) hi) ?_)
    first | (refine Ox.skip rfl rfl ?_) | (refine Ox.val rfl rfl (rv_load rfl rfl (fun u hu => hL u zxc)) ?_)
    first | (refine Ox.skip rfl rfl ?_) | (refine Ox.pure rfl rfl (rp_not rfl rfl) ?_)
    refine Ox.pure rfl rfl zpk ?_
    refine Ox.pure rfl rfl zas ?_
    refine Ox.fin ?_
    refine zrt ?_
    exact endE_ret [_] ⟨rfl, trivial⟩ ⟨zxc, congrArg Value.bool (decide_eq_false (fun h => by have := h.2.2; rw [hdo] at this; cases this)).symm⟩
  | false =>
    rw [hb] at hL hdo
    refine ztx ?_
    refine Ox.act rfl rfl (acts_box rfl rfl) ?_
    rintro vb2 wb2 ⟨eb2, bb2, rfl, hbb2, hBb2⟩
    first | (have hCb2 : Cells wb2 ⟨bb2, 0, none⟩ [_, _, _, _, _] := hBb2.cells) | have hCb2 := Blk.cellsL hBb2
    have hlb2 := hBb2.lt
    have hzb2 := eb2.size
    refine Ox.pure rfl rfl zas ?_
    refine Ox.fin ?_
    refine ztx ?_
    refine Ox.pure rfl rfl zmv ?_
    refine Ox.pure rfl rfl zbc ?_
    refine Ox.pure rfl rfl zmv ?_
    first | (refine Ox.skip rfl rfl ?_) | (refine Ox.pure rfl rfl zmv ?_)
    first | (refine Ox.skip rfl rfl ?_) | (refine Ox.pure rfl rfl zfa ?_)
    first | (refine Ox.skip rfl rfl ?_) | (refine Ox.val rfl rfl zrs ?_)
    first | (refine Ox.skip rfl rfl ?_) | (refine Ox.pure rfl rfl (rp_lenS rfl rfl rfl) ?_)
    first | (refine Ox.skip rfl rfl ?_) | (refine Ox.pure rfl rfl zbc ?_)
    refine Ox.pure rfl rfl zpk ?_
    refine Ox.pure rfl rfl zmv ?_
    first | (refine Ox.skip rfl rfl ?_) | (refine Ox.pure rfl rfl zfa ?_)
    first | (refine Ox.skip rfl rfl ?_) | (refine Ox.val rfl rfl zrs ?_)
    first | (refine Ox.skip rfl rfl ?_) | (refine Ox.pure rfl rfl zmv ?_)
    first | (refine Ox.skip rfl rfl ?_) | (refine Ox.pure rfl rfl (rp_indexAddr no.toNat rfl rfl rfl rfl rfl (by assumption) (by omega) hi) ?_)
    first | (refine Ox.skip rfl rfl ?_) | (refine Ox.val rfl rfl (rv_load rfl rfl (fun u hu => hL u zxc)) ?_)
    first | (refine Ox.skip rfl rfl ?_) | (refine Ox.pure rfl rfl (rp_not rfl rfl) ?_)
    refine Ox.pure rfl rfl zpk ?_
    refine Ox.pure rfl rfl zas ?_
    refine Ox.fin ?_
    refine zrt ?_
    exact endE_ret [_] ⟨rfl, trivial⟩ ⟨zxc, congrArg Value.bool (decide_eq_true ⟨h0, by omega, hdo⟩).symm⟩

end Go.Proofs.Ytfgckcochilpkaa

/- Branches' walks: the facts of a branch. -/
set_option linter.unusedVariables false
set_option maxRecDepth 100000
set_option maxHeartbeats 4000000
set_option linter.unusedSimpArgs false
namespace Go.Proofs.Ytfgckcochilpkaa
open Go Go.Eng

structure Small (s : Bs) : Prop where
  base : s.base.length ≤ 1000
  brs : ∀ i, (brB s.br i).length ≤ 1000
theorem cr_part {w : World} {q : Option Addr} {B : Addr} {cs : List Cr} {d : Nat} (hs : SlV cc w q B cs d) {lo n : Nat} (h : lo + n ≤ cs.length) : SlV cc w (if d = lo then q else q.map (·.add (lo * 6))) (B.add (lo * 6)) ((cs.drop lo).take n) (d - lo) := by
  have hle := hs.le
  have hsm := hs.small
  have hfe := hs.few
  have hl : ((cs.drop lo).take n).length = n := by rw [List.length_take, List.length_drop]; omega
  refine ⟨fun h0 => ?_, ?_, by omega, by omega, by omega⟩
  · rw [if_neg (by omega), hs.ptr (by omega)]; rfl
  · rw [← rowsV_take cc_len, ← rowsV_drop cc_len]
    exact (hs.row.drop _).take _
theorem fc_head {w : World} {q : Option Addr} {B : Addr} {l : List Fct} {d : Nat} (hs : SlV fc w q B l d) {n : Nat} (h : n ≤ l.length) : SlV fc w (if n = 0 then q else q.map (·.add (0 * 8))) (B.add (0 * 8)) (l.take n) n := by
  have hle := hs.le
  have hsm := hs.small
  have hfe := hs.few
  have hl : (l.take n).length = n := by rw [List.length_take]; omega
  refine ⟨fun h0 => ?_, ?_, by omega, by omega, by omega⟩
  · rw [if_neg (by omega), hs.ptr (by omega)]; rfl
  · have := (hs.row.drop (0 * 8)).take (n * 8)
    rwa [Nat.zero_mul, List.drop_zero, rowsV_take fc_len] at this

theorem with_at (s : Bs) (hf : Formed s.br) (hck : checkL s.base = 0) (hsm : Small s) (b2 b6 : Nat) : ∀ (k many : Nat) (w : World), k ≤ s.bls.length → many ≤ lenK s.br k → BsIn s w → Cells w ⟨b2, 0, none⟩ (bvc s) → Cells w ⟨b6, 0, none⟩ [.func (.func 64) #[] #[.pointer (some ⟨b2, 0, none⟩), .pointer (some ⟨b6, 0, none⟩)]] →
    Calls Try.prog 64 (#[.int .i64 ((k : Int) - 1), .int .i64 (many : Int)] ++ #[.pointer (some ⟨b2, 0, none⟩), .pointer (some ⟨b6, 0, none⟩)]) w (Ret fun r w' => Ext [] w w' ∧ RRec w' r (withB s.br ((k : Int) - 1) many)) := by
  intro k
  induction k using Nat.strongRecOn with
  | _ k ih =>
  intro many w hk hm hin h2 h6
  show Calls Try.prog 64 #[.int .i64 ((k : Int) - 1), .int .i64 (many : Int), .pointer (some ⟨b2, 0, none⟩), .pointer (some ⟨b6, 0, none⟩)] w _
  have hbl := br_len s
  refine calls_of_Sx (args := [.int .i64 ((k : Int) - 1), .int .i64 (many : Int), .pointer (some ⟨b2, 0, none⟩), .pointer (some ⟨b6, 0, none⟩)]) Try.func64 rfl rfl ?_
  rcases Nat.eq_zero_or_pos k with h0 | h0
  · subst h0
    have hmb : many ≤ s.base.length := hm
    have hle := hin.base.le
    have hlt : (s.base.take many).length = many := by rw [List.length_take]; omega
    have hsl := fc_head hin.base hmb
    refine ztx ?_
    refine Ox.pure rfl rfl zas ?_
    refine Ox.pure rfl rfl zas ?_
    refine Ox.fin ?_
    refine ztx ?_
    refine Ox.pure rfl rfl zmv ?_
    refine Ox.pure rfl rfl zbc ?_
    refine Ox.fin ?_
    refine zct ?_
    refine ztx ?_
    refine Ox.pure rfl rfl zfa ?_
    refine Ox.val rfl rfl zrs ?_
    refine Ox.pure rfl rfl zmv ?_
    refine Ox.pure rfl rfl zmv ?_
    refine Ox.pure rfl rfl (rp_slice3 0 many many rfl rfl rfl rfl rfl rfl rfl (.inl ⟨rfl, rfl⟩) ⟨_, rfl⟩ ⟨_, rfl⟩ (Nat.zero_le _) (Nat.le_refl _) (by omega)) ?_
    refine Ox.pure rfl rfl zas ?_
    refine Ox.pure rfl rfl zas ?_
    refine Ox.fin ?_
    refine zrt ?_
    refine endE_ret [.slice (if many = 0 then s.p0 else s.p0.map (·.add (0 * 8))) many many, .int .i64 0] ⟨rfl, rfl, trivial⟩ ⟨zxc, ?_⟩
    rw [withB_base (by omega)]
    refine ⟨_, _, many, ?_, hsl.ext0 zxc⟩
    show _ = Value.tuple #[.slice _ (s.base.take many).length many, .int .i64 0]
    rw [hlt]; rfl
  obtain ⟨i, rfl⟩ : ∃ i, k = i + 1 := ⟨k - 1, by omega⟩
  have hi : i < s.br.brs.length := by omega
  obtain ⟨f1, f2, f3, f4, f5⟩ := id hf
  obtain ⟨⟨g1, g2⟩, g3, g4⟩ := f5 i hi
  have hip : i < s.par.length := by have : s.par.length = s.br.brs.length := f2; omega
  have hik : i < s.fks.length := by have : s.fks.length = s.br.brs.length := f3; omega
  have hib : i < s.bls.length := by omega
  obtain ⟨k', hk'⟩ : ∃ k' : Nat, parB s.br i = (k' : Int) - 1 := ⟨(parB s.br i + 1).toNat, by omega⟩
  obtain ⟨m', hm'⟩ : ∃ m' : Nat, fkB s.br i = (m' : Int) := ⟨(fkB s.br i).toNat, by omega⟩
  have hmk : m' ≤ lenK s.br k' := by rw [lenB_K, hk', show ((k' : Int) - 1 + 1).toNat = k' by omega] at g4; omega
  have hpp := hin.par.ptr
  have hpr := hin.par.row
  have hkp := hin.fks.ptr
  have hkr := hin.fks.row
  have hbp := hin.bls.ptr
  have hbr := hin.bls.row
  have hLp : ∀ u, Ext [] w u → Ld Try.prog u 3 (s.A2.add (i * 1 + 0)) (.int .i64 ((k' : Int) - 1)) := fun u hu => by
    rw [← hk', parB_eq hip]; exact ld_field ic_len (hpr.ext0 hu) hip 0 rfl (by decide) rfl
  have hLk : ∀ u, Ext [] w u → Ld Try.prog u 3 (s.A3.add (i * 1 + 0)) (.int .i64 (m' : Int)) := fun u hu => by
    rw [← hm', fkB_eq hik]; exact ld_field ic_len (hkr.ext0 hu) hik 0 rfl (by decide) rfl
  have hLb : ∀ u, Ext [] w u → Ld Try.prog u 59 (s.A1.add (i * 1 + 0)) (.slice s.bls[i].p s.bls[i].l.length s.bls[i].c) := fun u hu => ld_field blc_len (hbr.ext0 hu) hib 0 rfl (by decide) rfl
  obtain ⟨Ab, hsb⟩ := hin.sub _ (List.getElem_mem hib)
  have hbe := brB_eq (s := s) hib
  have hmb : many ≤ s.bls[i].l.length := by have : many ≤ (brB s.br i).length := hm; rwa [hbe] at this
  have hble := hsb.le
  have htl : (s.bls[i].l.take many).length = many := by rw [List.length_take]; omega
  have hT := cr_part hsb (lo := 0) (n := many) (by omega)
  rw [List.drop_zero] at hT
  have hwl := withN_length (b := s.br) (M := 1000) hsm.base hsm.brs k' k' m'
  have hk64 : k' ≤ 64 := by omega
  have hbl2 := hsm.brs i
  rw [hbe] at hbl2
  have hwl2 : (withB s.br ((k' : Int) - 1) m').1.length ≤ 65000 := by
    unfold withB
    rw [show ((k' : Int) - 1 + 1).toNat = k' by omega]
    have : (k' + 1) * 1000 ≤ 65 * 1000 := Nat.mul_le_mul_right _ (by omega)
    omega
  have hwc : checkL (withB s.br ((k' : Int) - 1) m').1 = 0 := withN_check hck _ _ _
  have hrec : ∀ u (l3 : List Fct) (p3 : Option Addr) (A3 : Addr) (c3 : Nat), Ext [] w u → SlV fc u p3 A3 l3 c3 → checkL l3 = 0 → l3.length ≤ 65000 → Calls Try.prog 44 #[.slice p3 l3.length c3, .slice (if s.bls[i].c = 0 then s.bls[i].p else s.bls[i].p.map (·.add (0 * 6))) (many - 0) (s.bls[i].c - 0)] u (Ret fun r w' => Ext [] u w' ∧ RRec w' r (recL l3 (s.bls[i].l.take many))) := fun u l3 p3 A3 c3 hu hs3 hc3 hl3 => by
    have h9 := record_at l3 (s.bls[i].l.take many) p3 _ A3 _ c3 _ u hs3 (hT.ext0 hu) hc3 (by omega)
    rw [htl] at h9
    exact h9
  have hstep : withB s.br (((i + 1 : Nat) : Int) - 1) many = if (withB s.br ((k' : Int) - 1) m').2 ≠ 0 then ([], (withB s.br ((k' : Int) - 1) m').2) else recL (withB s.br ((k' : Int) - 1) m').1 (s.bls[i].l.take many) := by
    rw [show (((i + 1 : Nat) : Int) - 1) = (i : Int) by omega, withB_step hf hi many, hk', hm', hbe, Int.toNat_natCast]
  by_cases hz : (withB s.br ((k' : Int) - 1) m').2 = 0; rotate_left
  · rw [if_pos hz] at hstep
    refine ztx ?_
    refine Ox.pure rfl rfl zas ?_
    refine Ox.pure rfl rfl zas ?_
    refine Ox.fin ?_
    refine ztx ?_
    refine Ox.pure rfl rfl zmv ?_
    refine Ox.pure rfl rfl zbc ?_
    refine Ox.fin ?_
    refine zcf ?_
    refine zsk ?_
    (repeat refine Sx.seq ?_)
    refine Sx.walkR rfl (fun _ _ _ _ h => h) [0, 1, 2, 3, 4, 5, 6, 7, 8, 9, 10, 11, 12, 13, 14, 15, 16] [0, 1, 2, 3, 4, 5, 6, 7, 8, 9, 10, 12, 13, 14, 15, 16] (0) (by kernel_rfl) ?_
    intro hq w1 e1; have hz1 := e1.size
    refine Wx.val hq rfl rfl rfl rfl ([]) zrs ?_
    refine Wx.pure hq rfl rfl rfl rfl zfa ?_
    refine Wx.val hq rfl rfl rfl rfl ([]) zrs ?_
    refine Wx.pure hq rfl rfl rfl rfl zmv ?_
    refine Wx.pure hq rfl rfl rfl rfl (rp_indexAddr i rfl rfl rfl rfl rfl (by assumption) (by omega) hip) ?_
    refine Wx.val hq rfl rfl rfl rfl ([]) (rv_load rfl rfl (fun u hu => hLp u zxc)) ?_
    refine Wx.pure hq rfl rfl rfl rfl zfa ?_
    refine Wx.val hq rfl rfl rfl rfl ([]) zrs ?_
    refine Wx.pure hq rfl rfl rfl rfl zmv ?_
    refine Wx.pure hq rfl rfl rfl rfl (rp_indexAddr i rfl rfl rfl rfl rfl (by assumption) (by omega) hik) ?_
    refine Wx.val hq rfl rfl rfl rfl ([]) (rv_load rfl rfl (fun u hu => hLk u zxc)) ?_
    refine Wx.actNew rfl rfl rfl rfl (acts_callv rfl rfl rfl rfl (ih k' (by omega) m' _ (by omega) hmk (hin.ext0 zxc) (h2.ext0 zxc) (h6.ext0 zxc))) ?_
    rintro vu3 wu3 eu3 ⟨p3, A3, c3, rfl, hs3⟩
    have hzu3 := eu3.size
    refine Wx.pure hq rfl rfl rfl rfl zmv ?_
    refine Wx.pure hq rfl rfl rfl rfl (rp_extract rfl rfl rfl) ?_
    refine Wx.pure hq rfl rfl rfl rfl (rp_extract rfl rfl rfl) ?_
    refine Wx.pure hq rfl rfl rfl rfl zas ?_
    refine Wx.pure hq rfl rfl rfl rfl zas ?_
    refine Wx.fin ?_
    refine ztx ?_
    refine Ox.pure rfl rfl zmv ?_
    refine Ox.pure rfl rfl zbc ?_
    refine Ox.fin ?_
    refine zct ?_
    refine ztx ?_
    refine Ox.pure rfl rfl zmv ?_
    refine Ox.pure rfl rfl zas ?_
    refine Ox.pure rfl rfl zas ?_
    refine Ox.fin ?_
    refine zrt ?_
    exact endE_ret [.slice none 0 0, .int .i64 (withB s.br ((k' : Int) - 1) m').2] ⟨rfl, rfl, trivial⟩ ⟨zxc, by rw [hstep]; exact ⟨none, ⟨0, 0, none⟩, 0, rfl, SlV.nil _ _⟩⟩
  · rw [if_neg (fun h => h hz)] at hstep
    refine ztx ?_
    refine Ox.pure rfl rfl zas ?_
    refine Ox.pure rfl rfl zas ?_
    refine Ox.fin ?_
    refine ztx ?_
    refine Ox.pure rfl rfl zmv ?_
    refine Ox.pure rfl rfl zbc ?_
    refine Ox.fin ?_
    refine zcf ?_
    refine zsk ?_
    (repeat refine Sx.seq ?_)
    refine Sx.walkR rfl (fun _ _ _ _ h => h) [0, 1, 2, 3, 4, 5, 6, 7, 8, 9, 10, 11, 12, 13, 14, 15, 16] [0, 1, 2, 3, 4, 5, 6, 7, 8, 9, 10, 12, 13, 14, 15, 16] (0) (by kernel_rfl) ?_
    intro hq w2 e2; have hz2 := e2.size
    refine Wx.val hq rfl rfl rfl rfl ([]) zrs ?_
    refine Wx.pure hq rfl rfl rfl rfl zfa ?_
    refine Wx.val hq rfl rfl rfl rfl ([]) zrs ?_
    refine Wx.pure hq rfl rfl rfl rfl zmv ?_
    refine Wx.pure hq rfl rfl rfl rfl (rp_indexAddr i rfl rfl rfl rfl rfl (by assumption) (by omega) hip) ?_
    refine Wx.val hq rfl rfl rfl rfl ([]) (rv_load rfl rfl (fun u hu => hLp u zxc)) ?_
    refine Wx.pure hq rfl rfl rfl rfl zfa ?_
    refine Wx.val hq rfl rfl rfl rfl ([]) zrs ?_
    refine Wx.pure hq rfl rfl rfl rfl zmv ?_
    refine Wx.pure hq rfl rfl rfl rfl (rp_indexAddr i rfl rfl rfl rfl rfl (by assumption) (by omega) hik) ?_
    refine Wx.val hq rfl rfl rfl rfl ([]) (rv_load rfl rfl (fun u hu => hLk u zxc)) ?_
    refine Wx.actNew rfl rfl rfl rfl (acts_callv rfl rfl rfl rfl (ih k' (by omega) m' _ (by omega) hmk (hin.ext0 zxc) (h2.ext0 zxc) (h6.ext0 zxc))) ?_
    rintro vu3 wu3 eu3 ⟨p3, A3, c3, rfl, hs3⟩
    have hzu3 := eu3.size
    refine Wx.pure hq rfl rfl rfl rfl zmv ?_
    refine Wx.pure hq rfl rfl rfl rfl (rp_extract rfl rfl rfl) ?_
    refine Wx.pure hq rfl rfl rfl rfl (rp_extract rfl rfl rfl) ?_
    refine Wx.pure hq rfl rfl rfl rfl zas ?_
    refine Wx.pure hq rfl rfl rfl rfl zas ?_
    refine Wx.fin ?_
    refine ztx ?_
    refine Ox.pure rfl rfl zmv ?_
    refine Ox.pure rfl rfl zbc ?_
    refine Ox.fin ?_
    refine zcf ?_
    refine zsk ?_
    refine ztx ?_
    refine Ox.pure rfl rfl zmv ?_
    refine Ox.pure rfl rfl zfa ?_
    refine Ox.val rfl rfl zrs ?_
    refine Ox.pure rfl rfl zmv ?_
    refine Ox.pure rfl rfl (rp_indexAddr i rfl rfl rfl rfl rfl (by assumption) (by omega) hib) ?_
    refine Ox.val rfl rfl (rv_load rfl rfl (fun u hu => hLb u zxc)) ?_
    refine Ox.pure rfl rfl zmv ?_
    refine Ox.pure rfl rfl (rp_sliceS 0 many rfl rfl rfl rfl rfl rfl (.inl ⟨rfl, rfl⟩) (.inr ⟨_, rfl⟩) (Nat.zero_le _) (by omega)) ?_
    refine Ox.act rfl rfl (acts_call rfl rfl rfl (hrec _ _ p3 A3 c3 zxc (hs3.ext0 zxc) hwc hwl2)) ?_
    rintro v3 w3 ⟨e3, p8, A8, c8, rfl, hs8⟩
    have hz3 := e3.size
    refine Ox.pure rfl rfl (rp_extract rfl rfl rfl) ?_
    refine Ox.pure rfl rfl (rp_extract rfl rfl rfl) ?_
    refine Ox.pure rfl rfl zas ?_
    refine Ox.pure rfl rfl zas ?_
    refine Ox.fin ?_
    refine zrt ?_
    exact endE_ret [.slice p8 (recL (withB s.br ((k' : Int) - 1) m').1 (s.bls[i].l.take many)).1.length c8, .int .i64 (recL (withB s.br ((k' : Int) - 1) m').1 (s.bls[i].l.take many)).2] ⟨rfl, rfl, trivial⟩ ⟨zxc, by rw [hstep]; exact ⟨p8, A8, c8, rfl, hs8.ext0 zxc⟩⟩

theorem of_br (s : Bs) (hf : Formed s.br) (hck : checkL s.base = 0) (hsm : Small s) (k : Nat) (hk : k ≤ s.bls.length) (w : World) (hin : BsIn s w) :
    Calls Try.prog 43 #[.agg (bvc s).toArray, .int .i64 ((k : Int) - 1)] w (Ret fun r w' => Ext [] w w' ∧ RRec w' r (ofB s.br ((k : Int) - 1))) := by
  refine calls_of_Sx (args := [.agg (bvc s).toArray, .int .i64 ((k : Int) - 1)]) Try.func43 rfl rfl ?_
  refine ztx ?_
  refine Ox.act rfl rfl (acts_box rfl rfl) ?_
  rintro vb2 wb2 ⟨eb2, bb2, rfl, hbb2, hBb2⟩
  first | (have hCb2 : Cells wb2 ⟨bb2, 0, none⟩ [_, _, _, _, _] := hBb2.cells) | have hCb2 := Blk.cellsL hBb2
  have hlb2 := hBb2.lt
  have hzb2 := eb2.size
  refine Ox.pure rfl rfl zas ?_
  refine Ox.pure rfl rfl zas ?_
  refine Ox.fin ?_
  refine ztx ?_
  refine Ox.act rfl rfl (acts_alloc rfl rfl) ?_
  rintro vb6 wb6 ⟨eb6, bb6, rfl, hbb6, hBb6⟩
  first | (have hCb6 : Cells wb6 ⟨bb6, 0, none⟩ [_] := hBb6.cells) | have hCb6 := Blk.cellsL hBb6
  have hlb6 := hBb6.lt
  have hzb6 := eb6.size
  refine Ox.fin ?_
  refine ztx ?_
  refine Ox.pure rfl rfl (rp_makeFunc rfl rfl rfl) ?_
  refine Ox.act rfl rfl (acts_store_all rfl rfl rfl (hBb6.ext (X := []) zxc (by simp)) rfl rfl rfl (by (first | assumption | exact List.all_eq_true.mp rfl | simp [Value.cells, Value.oneCell']))) ?_
  rintro vs6 ws6 ⟨rfl, qs6, hBs6⟩
  have es6 : Ext [] w ws6 := Ext.renew zxc qs6 (by omega)
  have e2s6 : Ext [] wb2 ws6 := Ext.renew zxc qs6 (by omega)
  have hCs6 : Cells ws6 ⟨bb6, 0, none⟩ [.func (.func 64) #[] #[.pointer (some ⟨bb2, 0, none⟩), .pointer (some ⟨bb6, 0, none⟩)]] := hBs6.cells
  refine Ox.fin ?_
  have hC2 : Cells ws6 ⟨bb2, 0, none⟩ (bvc s) := hCb2.ext0 e2s6
  (repeat refine Sx.seq ?_)
  refine Sx.walkR rfl (fun _ _ _ _ h => h) [0, 1, 2, 3, 4, 5, 6, 7, 8, 9] [0, 1, 2, 3, 6, 7, 8, 9] (0) (by kernel_rfl) ?_
  intro hq w4 e4; have hz4 := e4.size
  refine Wx.val hq rfl rfl rfl rfl ([]) zrs ?_
  refine Wx.pure hq rfl rfl rfl rfl zmv ?_
  refine Wx.val hq rfl rfl rfl rfl ([]) zra ?_
  refine Wx.pure hq rfl rfl rfl rfl zmv ?_
  refine Wx.actNew rfl rfl rfl rfl (acts_call rfl rfl rfl (length_at_p s ((k : Int) - 1) _ (hin.ext0 zxc) (by omega))) ?_
  rintro v5 w5 e5 rfl
  have hz5 := e5.size
  refine Wx.actNew rfl rfl rfl rfl (acts_callv rfl rfl rfl rfl (with_at s hf hck hsm bb2 bb6 k (lenB s.br ((k : Int) - 1)) _ hk (by rw [lenB_K, show ((k : Int) - 1 + 1).toNat = k by omega]; exact Nat.le_refl _) (hin.ext0 zxc) (hC2.ext0 zxc) (hCs6.ext0 zxc))) ?_
  rintro v6 w6 e6 ⟨p5, A5, c5, rfl, hs5⟩
  have hz6 := e6.size
  refine Wx.pure hq rfl rfl rfl rfl (rp_extract rfl rfl rfl) ?_
  refine Wx.pure hq rfl rfl rfl rfl (rp_extract rfl rfl rfl) ?_
  refine Wx.pure hq rfl rfl rfl rfl zas ?_
  refine Wx.pure hq rfl rfl rfl rfl zas ?_
  refine Wx.fin ?_
  refine zrt ?_
  exact endE_ret [.slice p5 (ofB s.br ((k : Int) - 1)).1.length c5, .int .i64 (ofB s.br ((k : Int) - 1)).2] ⟨rfl, rfl, trivial⟩ ⟨zxc, p5, A5, c5, rfl, hs5.ext0 zxc⟩

end Go.Proofs.Ytfgckcochilpkaa
