/- Texts of one proof, put together: EngA, EngF, EngW, EngO, EngM, EngT. -/
import Derived.Below
import Derived.Orders
import Derived.Tactics
import Derived.Deep.LoopGhost
import Derived.OrdersIn
import Derived.TacticsIn
import Derived.RangeFuncRecord
import Derived.OrdersHeld
import Derived.WalkKit
import Derived.Deep.AppendSrc
import Derived.Laws.CopyOwn
import Derived.Laws.IdiomStrings
import Derived.Laws.MakeOwn
import Derived.Laws.BytesString
import Derived.KernelRfl
/- The engine, part one: worlds that extend one another, an environment of known temporaries, and the rules of code over it. -/
set_option linter.unusedVariables false
namespace Go.Eng
open Go

/-! ## Worlds -/

/-- Nothing that was there has changed, but for the blocks in X. -/
structure Ext (X : List Nat) (w w' : World) : Prop where
  os : w'.os = w.os
  tape : w'.tape = w.tape
  output : w'.output = w.output
  size : w.heap.size ≤ w'.heap.size
  keep : ∀ k, k < w.heap.size → k ∉ X → w'.heap[k]? = w.heap[k]?
  drawn : w.drawn ≤ w'.drawn

theorem Ext.refl (X : List Nat) (w : World) : Ext X w w := ⟨rfl, rfl, rfl, Nat.le_refl _, fun _ _ _ => rfl, Nat.le_refl _⟩
theorem Ext.trans {X : List Nat} {a b c : World} (h : Ext X a b) (k : Ext X b c) : Ext X a c :=
  ⟨k.os.trans h.os, k.tape.trans h.tape, k.output.trans h.output, Nat.le_trans h.size k.size,
    fun i hi hx => (k.keep i (Nat.lt_of_lt_of_le hi h.size) hx).trans (h.keep i hi hx), Nat.le_trans h.drawn k.drawn⟩
theorem Ext.mono {X Y : List Nat} {a b : World} (h : Ext X a b) (hs : ∀ k, k ∈ X → k ∈ Y) : Ext Y a b :=
  ⟨h.os, h.tape, h.output, h.size, fun i hi hx => h.keep i hi fun hm => hx (hs i hm), h.drawn⟩
theorem Ext.up {X : List Nat} {a b : World} (h : Ext [] a b) : Ext X a b := h.mono (by simp)
theorem Ext.below {w w' : World} (h : Ext [] w w') : Go.RowKit.Below w.heap.size w w' :=
  ⟨h.os, h.tape, h.output, h.size, fun k hk => h.keep k hk (by simp)⟩
/-- What only touched new blocks left the old ones alone. -/
theorem Ext.fresh {X : List Nat} {w w' : World} (h : Ext X w w') (hx : ∀ k, k ∈ X → w.heap.size ≤ k) : Ext [] w w' :=
  ⟨h.os, h.tape, h.output, h.size, fun k hk _ => h.keep k hk fun hm => by have := hx k hm; omega, h.drawn⟩
/-- Joined: what the second changes was free to change, or is new. -/
theorem Ext.join {X Y : List Nat} {a b c : World} (h : Ext X a b) (k : Ext Y b c) (hY : ∀ y, y ∈ Y → y ∈ X ∨ a.heap.size ≤ y) : Ext X a c :=
  ⟨k.os.trans h.os, k.tape.trans h.tape, k.output.trans h.output, Nat.le_trans h.size k.size, fun j hj hx => (k.keep j (Nat.lt_of_lt_of_le hj h.size) fun hm => by
    rcases hY j hm with h1 | h1
    · exact hx h1
    · omega).trans (h.keep j hj hx), Nat.le_trans h.drawn k.drawn⟩
theorem Ext.draw (X : List Nat) (w : World) : Ext X w { w with drawn := w.drawn + 1 } := ⟨rfl, rfl, rfl, Nat.le_refl _, fun _ _ _ => rfl, Nat.le_succ _⟩
theorem Ext.push (X : List Nat) (w : World) (o : Obj) : Ext X w { w with heap := w.heap.push o } :=
  ⟨rfl, rfl, rfl, by simp, fun k hk _ => by simp [Array.getElem?_push, Nat.ne_of_lt hk], Nat.le_refl _⟩
theorem Ext.set {X : List Nat} (w : World) (a : Addr) (v : Value) (h : a.block ∈ X) : Ext X w (w.setCell a v) :=
  ⟨rfl, rfl, rfl, by simp [World.setCell], fun k _ hx => by
    simp only [World.setCell, Array.getElem?_modify]
    rw [if_neg (fun e : a.block = k => hx (by rw [← e]; exact h))], Nat.le_refl _⟩

theorem Ext.cell {X : List Nat} {w w' : World} (h : Ext X w w') {a : Addr} {v : Value} (hc : w.cell? a = some v) (hx : a.block ∉ X) : w'.cell? a = some v := by
  have hlt : a.block < w.heap.size := by
    rcases Nat.lt_or_ge a.block w.heap.size with h1 | h1
    · exact h1
    · simp [World.cell?, Array.getElem?_eq_none h1] at hc
  have := h.keep a.block hlt hx
  unfold World.cell? at hc ⊢
  rw [this]
  exact hc
theorem Ext.cell0 {w w' : World} (h : Ext [] w w') {a : Addr} {v : Value} (hc : w.cell? a = some v) : w'.cell? a = some v := h.cell hc (by simp)

/-! ## The environment -/

abbrev Env := List (Nat × Value)

def get : Env → Nat → Option Value
  | [], _ => none
  | (k, v) :: r, t => match Nat.beq k t with | true => some v | false => get r t

def ev (E : Env) : Operand → Option Value
  | .tmp t => get E t
  | .const v => some v
  | .global g => some (.pointer (some ⟨g, 0, none⟩))
  | .func f => some (.func (.func f) #[] #[])

def evs (E : Env) : List Operand → Option (List Value)
  | [] => some []
  | x :: r => match ev E x, evs E r with
    | some v, some l => some (v :: l)
    | _, _ => none

def putE (E : Env) (d : Option Tmp) (v : Value) : Env :=
  match d with
  | some t => (t, v) :: E
  | none => E

def dstOk (n : Nat) : Option Tmp → Bool
  | some t => Nat.blt t n
  | none => true

structure Agr (n : Nat) (E : Env) (a : Act) : Prop where
  size : a.tmps.size = n
  val : ∀ t v, get E t = some v → a.tmps[t]? = some v

theorem get_cons (k t : Nat) (v : Value) (E : Env) : get ((k, v) :: E) t = if k = t then some v else get E t := by
  simp only [get]
  by_cases h : k = t
  · subst h; simp
  · have : Nat.beq k t = false := by
      cases hb : Nat.beq k t
      · rfl
      · exact absurd (Nat.eq_of_beq_eq_true hb) h
    simp [this, h]

theorem Agr.put {n : Nat} {E : Env} {a : Act} (h : Agr n E a) {d : Option Tmp} (hd : dstOk n d = true) (v : Value) : Agr n (putE E d v) (a.put d v) := by
  cases d with
  | none => exact h
  | some t =>
    have ht : t < n := by simpa [dstOk, Nat.blt_eq] using hd
    refine ⟨by simp [Act.put, h.size], fun s u hs => ?_⟩
    simp only [putE, get_cons] at hs
    simp only [Act.put, Array.getElem?_setIfInBounds]
    by_cases he : t = s
    · subst he
      simp only [if_true] at hs
      simp [h.size, ht, Option.some.inj hs]
    · simp only [he, if_false] at hs ⊢
      exact h.val s u hs

theorem Agr.weaken {n : Nat} {E E' : Env} {a : Act} (h : Agr n E a) (hs : ∀ t v, get E' t = some v → get E t = some v) : Agr n E' a :=
  ⟨h.size, fun t v ht => h.val t v (hs t v ht)⟩

theorem Agr.eval {n : Nat} {E : Env} {a : Act} (h : Agr n E a) {x : Operand} {v : Value} (hx : ev E x = some v) : a.eval x = v := by
  cases x with
  | tmp t => simp only [ev] at hx; simp [Act.eval, h.val t v hx]
  | const u => simpa [ev, Act.eval] using hx
  | global g => simpa [ev, Act.eval] using hx
  | func f => simpa [ev, Act.eval] using hx

theorem Agr.evals {n : Nat} {E : Env} {a : Act} (h : Agr n E a) : ∀ {xs : List Operand} {vs : List Value}, evs E xs = some vs → xs.map a.eval = vs
  | [], vs, hx => by simp [evs] at hx; simp [hx]
  | x :: r, vs, hx => by
    simp only [evs] at hx
    split at hx
    · rename_i v l h1 h2
      simp only [Option.some.injEq] at hx
      subst hx
      simp [h.eval h1, h.evals h2]
    · cases hx

/-! ## Code -/

abbrev PostE := Exit → Env → World → Prop

def lift (n : Nat) (ds : List Deferred) (Q : PostE) : Exit → Act → World → Prop := fun e a w => ∃ E, Agr n E a ∧ a.defers = ds ∧ Q e E w

/-- The widest fence, for an activation (none) or for a round of loop l. -/
def wideR (ro : Option Nat) : Fence := { Fence.wide with round := ro }
theorem wideR_room (ro : Option Nat) (k : Nat) : (wideR ro).room k := fun _ h => by cases h

/-- From every frame that agrees with E the code leads to Q. -/
def Sx (ro : Option Nat) (P : Program) (n : Nat) (ds : List Deferred) (c : Code) (Q : PostE) (E : Env) (w : World) : Prop :=
  ∀ a, Agr n E a → a.defers = ds → c.wpIn (wideR ro) 0 P (lift n ds Q) a w

theorem Sx.wp {P : Program} {n : Nat} {ds : List Deferred} {c : Code} {Q : PostE} {E : Env} {w : World} (h : Sx none P n ds c Q E w) {a : Act} (ha : Agr n E a) (hd : a.defers = ds) : c.wp P (lift n ds Q) a w :=
  wpIn_wide.1 (show c.wpIn Fence.wide 0 P (lift n ds Q) a w from h a ha hd)

theorem wpIn_loop_num {F : Fence} {rm : Nat} {P : Program} {Q : Exit → Act → World → Prop} {a : Act} {w : World} {c : Code} (I : Nat → Act → World → Prop) (n₀ : Nat) (h₀ : I n₀ a w)
    (round : ∀ n a w, I n a w → c.wpIn F rm P (Exit.then (fun a' w' => ∃ n', n' < n ∧ I n' a' w') Q) a w) : (Code.loop c).wpIn F rm P Q a w := by
  refine wpIn_loop (fun a w => ∃ n, I n a w) (fun a w => leastOf (fun n => I n a w)) ⟨n₀, h₀⟩ ?_
  intro a w hI
  refine wpIn_mono (round _ a w (leastOf_spec hI).1) ?_
  intro e a' w' hq
  cases e with
  | normal =>
    obtain ⟨n', hlt, hI'⟩ := hq
    exact show (∃ n, I n a' w') ∧ leastOf (fun n => I n a' w') < leastOf (fun n => I n a w) from ⟨⟨n', hI'⟩, Nat.lt_of_le_of_lt ((leastOf_spec ⟨n', hI'⟩).2 n' hI') hlt⟩
  | _ => exact hq

def thenE (K : Env → World → Prop) (Q : PostE) : PostE
  | .normal, E, w => K E w
  | e, E, w => Q e E w

def blockE (id : Nat) (Q : PostE) : PostE
  | .exit j, E, w => match Nat.beq j id with | true => Q .normal E w | false => Q (.exit j) E w
  | e, E, w => Q e E w

section
variable {ro : Option Nat} {P : Program} {n : Nat} {ds : List Deferred} {Q : PostE} {E : Env} {w : World}

theorem Sx.mono {c : Code} {Q' : PostE} (h : Sx ro P n ds c Q E w) (hq : ∀ e E w, Q e E w → Q' e E w) : Sx ro P n ds c Q' E w :=
  fun a ha hd => wpIn_mono (h a ha hd) fun e a' w' ⟨E', h1, h2, h3⟩ => ⟨E', h1, h2, hq e E' w' h3⟩
theorem Sx.weaken {c : Code} {E' : Env} (h : Sx ro P n ds c Q E' w) (hs : ∀ t v, get E' t = some v → get E t = some v) : Sx ro P n ds c Q E w :=
  fun a ha hd => h a (ha.weaken hs) hd
theorem Sx.skip (h : Q .normal E w) : Sx ro P n ds .skip Q E w := fun a ha hd => wpIn_skip ⟨E, ha, hd, h⟩
theorem Sx.label {l : Nat} (h : Q .normal E w) : Sx ro P n ds (.label l) Q E w := fun a ha hd => wpIn_label ⟨E, ha, hd, h⟩
theorem Sx.ret (h : Q .ret E w) : Sx ro P n ds .ret Q E w := fun a ha hd => wpIn_ret ⟨E, ha, hd, h⟩
theorem Sx.exit {id : Nat} (h : Q (.exit id) E w) : Sx ro P n ds (.exit id) Q E w := fun a ha hd => wpIn_exit ⟨E, ha, hd, h⟩
theorem Sx.seq {x y : Code} (h : Sx ro P n ds x (thenE (Sx ro P n ds y Q) Q) E w) : Sx ro P n ds (.seq x y) Q E w :=
  fun a ha hd => wpIn_seq (wpIn_mono (h a ha hd) fun e a' w' ⟨E', h1, h2, h3⟩ => by
    cases e <;> first | exact h3 a' h1 h2 | exact ⟨E', h1, h2, h3⟩)
theorem Sx.cond {c : Operand} {x y : Code} {b : Bool} (hc : ev E c = some (.bool b)) (ht : b = true → Sx ro P n ds x Q E w) (hf : b = false → Sx ro P n ds y Q E w) :
    Sx ro P n ds (.cond c x y) Q E w :=
  fun a ha hd => wpIn_cond_split (ha.eval hc) (fun h => ht h a ha hd) (fun h => hf h a ha hd)
theorem Sx.cond_dec {c : Operand} {x y : Code} {p : Prop} [Decidable p] (hc : ev E c = some (.bool (decide p))) (ht : p → Sx ro P n ds x Q E w) (hf : ¬ p → Sx ro P n ds y Q E w) :
    Sx ro P n ds (.cond c x y) Q E w :=
  Sx.cond hc (fun h => ht (of_decide_eq_true h)) (fun h => hf (of_decide_eq_false h))
theorem Sx.cond_true {c : Operand} {x y : Code} (hc : ev E c = some (.bool true)) (ht : Sx ro P n ds x Q E w) : Sx ro P n ds (.cond c x y) Q E w :=
  Sx.cond hc (fun _ => ht) (fun h => by cases h)
theorem Sx.cond_false {c : Operand} {x y : Code} (hc : ev E c = some (.bool false)) (hf : Sx ro P n ds y Q E w) : Sx ro P n ds (.cond c x y) Q E w :=
  Sx.cond hc (fun h => by cases h) (fun _ => hf)
theorem Sx.block {id : Nat} {c : Code} (h : Sx ro P n ds c (blockE id Q) E w) : Sx ro P n ds (.block id c) Q E w :=
  fun a ha hd => wpIn_block (wpIn_mono (h a ha hd) fun e a' w' ⟨E', h1, h2, h3⟩ => by
    cases e with
    | exit j =>
      simp only [Exit.inBlock]
      simp only [blockE] at h3
      by_cases hj : j = id
      · subst hj; simp at h3; simp; exact ⟨E', h1, h2, h3⟩
      · have hb : Nat.beq j id = false := by
          cases hb : Nat.beq j id
          · rfl
          · exact absurd (Nat.eq_of_beq_eq_true hb) hj
        rw [hb] at h3
        simp only [hj, if_false]
        exact ⟨E', h1, h2, h3⟩
    | _ => exact ⟨E', h1, h2, h3⟩)
/-- A loop: an invariant on environment and world, and a measure. The end of a round may know more than the invariant names. -/
theorem Sx.loop {c : Code} {ι : Type} (I : ι → Env → World → Prop) (μ : ι → Nat) (i₀ : ι) {E₀ : Env} (hs : ∀ t v, get E₀ t = some v → get E t = some v) (h₀ : I i₀ E₀ w)
    (round : ∀ i E w, I i E w → Sx ro P n ds c (thenE (fun E' w' => ∃ j E'', (∀ t v, get E'' t = some v → get E' t = some v) ∧ I j E'' w' ∧ μ j < μ i) Q) E w) :
    Sx ro P n ds (.loop c) Q E w := by
  intro a ha hd
  refine wpIn_loop_num (fun k a w => a.defers = ds ∧ ∃ i E, Agr n E a ∧ I i E w ∧ μ i = k) (μ i₀) ⟨hd, i₀, E₀, ha.weaken hs, h₀, rfl⟩ fun k a w ⟨hd, i, E, h1, h2, h3⟩ => ?_
  refine wpIn_mono (round i E w h2 a h1 hd) fun e a' w' ⟨E', g1, g2, g3⟩ => ?_
  cases e with
  | normal =>
    obtain ⟨j, E'', k1, k2, k3⟩ := g3
    exact ⟨μ j, by omega, g2, j, E'', g1.weaken k1, k2, rfl⟩
  | _ => exact ⟨E', g1, g2, g3⟩

end

/-! ## A call of a function -/

def entryEnv : Nat → List Value → Env
  | _, [] => []
  | k, v :: r => (k, v) :: entryEnv (k + 1) r

theorem get_entry : ∀ (k : Nat) (vs : List Value) (t : Nat) (v : Value), get (entryEnv k vs) t = some v → k ≤ t ∧ vs[t - k]? = some v
  | k, [], t, v, h => by cases h
  | k, u :: r, t, v, h => by
    simp only [entryEnv, get_cons] at h
    by_cases hk : k = t
    · subst hk; simp at h; simp [h]
    · simp only [hk, if_false] at h
      have := get_entry (k + 1) r t v h
      refine ⟨by omega, ?_⟩
      have h2 : t - k = (t - (k + 1)) + 1 := by omega
      rw [h2]; simpa using this.2

/-- A variable of type t is read at address a. -/
def Ld (P : Program) (w : World) (t : TypeId) (a : Addr) (v : Value) : Prop := (loadVar t a).run P w = .ok v w

/-- How a function's results are read out of the environment. -/
def resOK (P : Program) (E : Env) (w : World) : List ResultVar → List Value → Prop
  | [], [] => True
  | .tmp t :: r, v :: l => get E t = some v ∧ resOK P E w r l
  | .cell a t :: r, v :: l => (∃ p, get E a = some (.pointer (some p)) ∧ Ld P w t p v) ∧ resOK P E w r l
  | _, _ => False

def resV : List Value → Value
  | [v] => v
  | l => .tuple l.toArray

/-- What a body owes at its end. -/
def endE (fn : Func) (P : Program) (R : Ending → World → Prop) : PostE
  | .ret, E, w | .normal, E, w => ∃ v, (∀ tmps : Array Value, (∀ t v, get E t = some v → tmps[t]? = some v) → (results fn tmps).run P w = .ok v w) ∧ R (.returned v) w
  | .panic chain, _, w => R (.panicked chain) w
  | _, _, _ => False

theorem calls_of_Sx {P : Program} {f : FuncId} {fn : Func} {c : Code} {args : List Value} {w : World} {R : Ending → World → Prop}
    (hf : P.funcs[f]? = some fn) (hb : fn.body = some c) (hn : Nat.ble args.length fn.ntmps = true) (h : Sx none P fn.ntmps [] c (endE fn P R) (entryEnv 0 args) w) : Calls P f args.toArray w R := by
  have hn' : args.length ≤ fn.ntmps := Nat.le_of_ble_eq_true hn
  refine calls_of_wp hf hb (wp_mono (h.wp ⟨?_, ?_⟩ rfl) ?_)
  · simp; omega
  · intro t v ht
    have := get_entry 0 args t v ht
    have h2 : args[t]? = some v := by simpa using this.2
    have h3 : t < args.length := by
      rcases Nat.lt_or_ge t args.length with h4 | h4
      · exact h4
      · rw [List.getElem?_eq_none h4] at h2; cases h2
    rw [Array.getElem?_append_left (by simpa using h3)]
    simpa using h2
  · rintro e a' w' ⟨E', h1, h2, h3⟩
    cases e with
    | normal => obtain ⟨v, hv, hR⟩ := h3; exact ⟨h2, v, hv _ h1.val, hR⟩
    | ret => obtain ⟨v, hv, hR⟩ := h3; exact ⟨h2, v, hv _ h1.val, hR⟩
    | panic chain => exact ⟨h2, h3⟩
    | exit id => exact h3
    | goto l => exact h3
    | outgrown => exact h3.elim

theorem results_run {fn : Func} {P : Program} {w : World} {E : Env} {vs : List Value} (hr : resOK P E w fn.results.toList vs) :
    ∀ tmps : Array Value, (∀ t v, get E t = some v → tmps[t]? = some v) → (results fn tmps).run P w = .ok (resV vs) w := by
  intro tmps ht
  have key : ∀ (rs : List ResultVar) (vs : List Value), resOK P E w rs vs →
      (rs.mapM (m := Sem) fun | .tmp t => pure (tmps.getD t undef) | .cell a t => do loadVar t (← asAddr (tmps.getD a undef))).run P w = .ok vs w := by
    intro rs
    induction rs with
    | nil => intro vs h; cases vs <;> simp_all [resOK]
    | cons r rs ih =>
      intro vs h
      cases vs with
      | nil => cases r <;> simp [resOK] at h
      | cons v l =>
        cases r with
        | tmp t =>
          obtain ⟨h1, h2⟩ := h
          have h5 : tmps.getD t undef = v := by
            rw [Array.getD_eq_getD_getElem?, ht t v h1]; rfl
          simp only [List.mapM_cons, Sem.run_bind, Sem.run_pure, Result.andThen_ok, h5, ih l h2]
        | cell a t =>
          obtain ⟨⟨p, h1, h3⟩, h2⟩ := h
          have h5 : tmps.getD a undef = .pointer (some p) := by
            rw [Array.getD_eq_getD_getElem?, ht a _ h1]; rfl
          have h6 : (asAddr (tmps.getD a undef)).run P w = .ok p w := by rw [h5]; rfl
          unfold Ld at h3
          simp only [List.mapM_cons, Sem.run_bind, Sem.run_pure, Result.andThen_ok, h6, h3, ih l h2]
  have hl := key fn.results.toList vs hr
  unfold results
  have harr : fn.results = fn.results.toList.toArray := by simp
  rw [harr, List.mapM_toArray]
  rw [Sem.run_bind, Sem.run_map]
  refine Eq.trans (congrArg (fun r : Result (List Value) => (r.andThen _).andThen _) hl) ?_
  rcases vs with _ | ⟨v, _ | ⟨u, l⟩⟩ <;> simp [resV]

theorem endE_ret {fn : Func} {P : Program} {R : Ending → World → Prop} {E : Env} {w : World} (vs : List Value) (hr : resOK P E w fn.results.toList vs) (h : R (.returned (resV vs)) w) :
    endE fn P R .ret E w := ⟨_, results_run hr, h⟩
theorem endE_normal {fn : Func} {P : Program} {R : Ending → World → Prop} {E : Env} {w : World} (vs : List Value) (hr : resOK P E w fn.results.toList vs) (h : R (.returned (resV vs)) w) :
    endE fn P R .normal E w := ⟨_, results_run hr, h⟩

end Go.Eng

/- The engine, part two: a region whose operations only read, compute, make new memory or call functions that do no more: which operations come before which; frames by what has been written. -/
set_option linter.unusedVariables false
namespace Go.Eng
open Go

/-! ## Which operations come before which -/

def maskOf (acc : List Nat) (o : Oper) : Nat :=
  o.after.toList.foldl (fun s e => bif Region.binds .any e then s ||| 2 ^ e.on ||| acc.getD e.on 0 else s) 0

def masksGo : List Oper → List Nat → List Nat
  | [], acc => acc
  | o :: r, acc => masksGo r (acc ++ [maskOf acc o])

def masks (ops : List Oper) : List Nat := masksGo ops []
def anc (ops : List Oper) (k j : Nat) : Bool := ((masks ops).getD k 0).testBit j

theorem masksGo_spec : ∀ (l : List Oper) (acc : List Nat), (masksGo l acc).length = acc.length + l.length ∧ (∀ i, i < acc.length → (masksGo l acc)[i]? = acc[i]?) ∧
    ∀ i o, l[i]? = some o → (masksGo l acc)[acc.length + i]? = some (maskOf ((masksGo l acc).take (acc.length + i)) o)
  | [], acc => ⟨by simp [masksGo], fun i _ => rfl, fun i o h => by simp at h⟩
  | o :: r, acc => by
    obtain ⟨h1, h2, h3⟩ := masksGo_spec r (acc ++ [maskOf acc o])
    refine ⟨by simp only [masksGo]; rw [h1]; simp; omega, fun i hi => ?_, fun i p hp => ?_⟩
    · simp only [masksGo]
      rw [h2 i (by simp; omega), List.getElem?_append_left hi]
    · simp only [masksGo]
      cases i with
      | zero =>
        simp only [List.getElem?_cons_zero, Option.some.injEq] at hp
        subst hp
        rw [h2 _ (by simp)]
        have : (masksGo r (acc ++ [maskOf acc o])).take (acc.length + 0) = acc := by
          apply List.ext_getElem?
          intro j
          by_cases hj : j < acc.length
          · rw [List.getElem?_take_of_lt (by omega), h2 j (by simp; omega), List.getElem?_append_left hj]
          · rw [List.getElem?_eq_none (by simp; omega), List.getElem?_eq_none (by omega)]
        rw [this]
        simp
      | succ i =>
        have := h3 i p (by simpa using hp)
        simp only [List.length_append, List.length_cons, List.length_nil] at this
        rw [show acc.length + (i + 1) = acc.length + (0 + 1) + i by omega]
        exact this

theorem maskOf_bit (acc : List Nat) (j : Nat) : ∀ (es : List Edge) (s : Nat), (es.foldl (fun s e => bif Region.binds .any e then s ||| 2 ^ e.on ||| acc.getD e.on 0 else s) s).testBit j = true →
    s.testBit j = true ∨ ∃ e ∈ es, Region.binds .any e = true ∧ (e.on = j ∨ (acc.getD e.on 0).testBit j = true)
  | [], s, h => .inl h
  | e :: es, s, h => by
    rcases maskOf_bit acc j es _ h with h1 | ⟨e', he', h2⟩
    · cases hb : Region.binds .any e with
      | false => simp only [hb, cond_false] at h1; exact .inl h1
      | true =>
        simp only [hb, cond_true, Nat.testBit_or, Bool.or_eq_true, Nat.testBit_two_pow, decide_eq_true_eq] at h1
        rcases h1 with (h1 | h1) | h1
        · exact .inl h1
        · exact .inr ⟨e, .head _, hb, .inl h1⟩
        · exact .inr ⟨e, .head _, hb, .inr h1⟩
    · exact .inr ⟨e', .tail _ he', h2⟩

theorem anc_spec {ops : List Oper} {k j : Nat} (h : anc ops k j = true) : ∃ o, ops[k]? = some o ∧ ∃ e ∈ o.after, Region.binds .any e = true ∧ (e.on = j ∨ (e.on < k ∧ anc ops e.on j = true)) := by
  obtain ⟨h1, _, h3⟩ := masksGo_spec ops []
  simp only [List.length_nil, Nat.zero_add] at h1 h3
  unfold anc masks at *
  rcases Nat.lt_or_ge k ops.length with hk | hk
  · obtain ⟨o, ho⟩ : ∃ o, ops[k]? = some o := ⟨_, List.getElem?_eq_getElem hk⟩
    refine ⟨o, ho, ?_⟩
    rw [List.getD_eq_getElem?_getD, h3 k o ho] at h
    rcases maskOf_bit _ j _ _ h with h4 | ⟨e, he, hb, h5⟩
    · simp at h4
    · refine ⟨e, by simpa using he, hb, h5.imp id fun h6 => ?_⟩
      rcases Nat.lt_or_ge e.on k with h7 | h7
      · refine ⟨h7, ?_⟩
        rw [List.getD_eq_getElem?_getD] at h6 ⊢
        rwa [List.getElem?_take_of_lt h7] at h6
      · rw [List.getD_eq_getElem?_getD, List.getElem?_eq_none (by simp; omega)] at h6
        simp at h6
  · rw [List.getD_eq_getElem?_getD, List.getElem?_eq_none (by omega)] at h
    simp at h

/-- Every edge leads back; two operations of which none comes before the other have no temporary in common (but for reading). -/
def flowOk (ops : List Oper) : Bool :=
  Region.noSelect ops.toArray &&
  ops.zipIdx.all fun (o, k) => o.after.toList.all (fun e => bif Region.binds .any e then Nat.blt e.on k else true) &&
    ops.zipIdx.all fun (p, i) => bif Nat.blt i k then anc ops k i || p.apart ops.toArray o else true

theorem flowOk_edge {ops : List Oper} (h : flowOk ops = true) {k : Nat} {o : Oper} (ho : ops[k]? = some o) {e : Edge} (he : e ∈ o.after) (hb : Region.binds .any e = true) : e.on < k := by
  simp only [flowOk, Bool.and_eq_true, List.all_eq_true] at h
  have := (h.2 (o, k) (List.mem_iff_getElem?.2 ⟨k, by simp [ho]⟩)).1 e (by simpa using he)
  simpa [hb, Nat.blt_eq] using this
theorem flowOk_apart {ops : List Oper} (h : flowOk ops = true) {i k : Nat} {p o : Oper} (hp : ops[i]? = some p) (ho : ops[k]? = some o) (hik : i < k) : anc ops k i = true ∨ p.apart ops.toArray o = true := by
  simp only [flowOk, Bool.and_eq_true, List.all_eq_true] at h
  have := (h.2 (o, k) (List.mem_iff_getElem?.2 ⟨k, by simp [ho]⟩)).2 (p, i) (List.mem_iff_getElem?.2 ⟨i, by simp [hp]⟩)
  have hb : Nat.blt i k = true := by simpa [Nat.blt_eq] using hik
  simpa [hb] using this

/-! ## Frames by what has been written -/

def runPuts (f : Nat → Option Value) : Nat → List Oper → Act → Act
  | _, [], a => a
  | k, o :: r, a => runPuts f (k + 1) r (match f k with | some v => a.put o.dst v | none => a)

def agreeOn (L : List Tmp) (a b : Act) : Prop := ∀ t ∈ L, a.tmps[t]? = b.tmps[t]?

theorem put_size (a : Act) (d : Option Tmp) (v : Value) : (a.put d v).tmps.size = a.tmps.size := by cases d <;> simp [Act.put]
theorem put_defers (a : Act) (d : Option Tmp) (v : Value) : (a.put d v).defers = a.defers := by cases d <;> rfl

theorem put_get (a : Act) (d : Option Tmp) (v : Value) (t : Tmp) : (a.put d v).tmps[t]? = if d = some t ∧ t < a.tmps.size then some v else a.tmps[t]? := by
  cases d with
  | none => simp [Act.put]
  | some s =>
    simp only [Act.put, Array.getElem?_setIfInBounds, Option.some.injEq]
    by_cases h : s = t
    · subst h
      by_cases h2 : s < a.tmps.size <;> simp [h2]
    · simp [h]

theorem runPuts_size (f : Nat → Option Value) : ∀ (l : List Oper) (k : Nat) (a : Act), (runPuts f k l a).tmps.size = a.tmps.size ∧ (runPuts f k l a).defers = a.defers
  | [], k, a => ⟨rfl, rfl⟩
  | o :: r, k, a => by
    simp only [runPuts]
    have := runPuts_size f r (k + 1) (match f k with | some v => a.put o.dst v | none => a)
    refine ⟨this.1.trans ?_, this.2.trans ?_⟩ <;> split <;> simp [put_size, put_defers]

theorem runPuts_agree {f g : Nat → Option Value} {L : List Tmp} : ∀ (l : List Oper) (k : Nat) (a b : Act),
    (∀ j o, l[j]? = some o → f (k + j) = g (k + j) ∨ ∀ d, o.dst = some d → d ∉ L) → agreeOn L a b → a.tmps.size = b.tmps.size → agreeOn L (runPuts f k l a) (runPuts g k l b)
  | [], k, a, b, _, h, _ => h
  | o :: r, k, a, b, hfg, h, hs => by
    simp only [runPuts]
    refine runPuts_agree r (k + 1) _ _ (fun j p hp => ?_) ?_ ?_
    · have := hfg (j + 1) p (by simpa using hp)
      rwa [show k + (j + 1) = k + 1 + j by omega] at this
    · intro t ht
      rcases hfg 0 o rfl with h1 | h1
      · simp only [Nat.add_zero] at h1
        rw [h1]
        split
        · rw [put_get, put_get, hs, h t ht]
        · exact h t ht
      · have hne : o.dst ≠ some t := fun e => h1 t e ht
        have e1 : (match f k with | some v => a.put o.dst v | none => a).tmps[t]? = a.tmps[t]? := by
          split
          · rw [put_get, if_neg (fun c => hne c.1)]
          · rfl
        have e2 : (match g k with | some v => b.put o.dst v | none => b).tmps[t]? = b.tmps[t]? := by
          split
          · rw [put_get, if_neg (fun c => hne c.1)]
          · rfl
        rw [e1, e2]; exact h t ht
    · have e1 : ∀ (c : Act) (x : Option Value), (match x with | some v => c.put o.dst v | none => c).tmps.size = c.tmps.size := fun c x => by cases x <;> simp [put_size]
      rw [e1, e1]; exact hs

theorem runPuts_ext {f g : Nat → Option Value} : ∀ (l : List Oper) (k : Nat) (a : Act), (∀ j, j < l.length → f (k + j) = g (k + j)) → runPuts f k l a = runPuts g k l a
  | [], k, a, _ => rfl
  | o :: r, k, a, h => by
    have h0 := h 0 (by simp)
    simp only [Nat.add_zero] at h0
    simp only [runPuts, h0]
    exact runPuts_ext r (k + 1) _ fun j hj => by have := h (j + 1) (by simp; omega); rwa [show k + (j + 1) = k + 1 + j by omega] at this

theorem runPuts_put {f : Nat → Option Value} {d : Option Tmp} {v : Value} : ∀ (l : List Oper) (k : Nat) (a : Act), (∀ j o, l[j]? = some o → f (k + j) ≠ none → ∀ t, d = some t → o.dst ≠ some t) →
    runPuts f k l (a.put d v) = (runPuts f k l a).put d v
  | [], k, a, _ => rfl
  | o :: r, k, a, h => by
    simp only [runPuts]
    have ih : ∀ a, runPuts f (k + 1) r (a.put d v) = (runPuts f (k + 1) r a).put d v := fun a => runPuts_put r (k + 1) a fun j p hp hf => h (j + 1) p (by simpa using hp) (by rwa [show k + (j + 1) = k + 1 + j by omega])
    cases hf : f k with
    | none => simp only []; exact ih a
    | some u =>
      simp only []
      rw [Act.put_comm a v u (h 0 o rfl (by simp [hf]))]
      exact ih _

theorem runPuts_set {f : Nat → Option Value} {i : Nat} {v : Value} {oi : Oper} : ∀ (l : List Oper) (k : Nat) (a : Act), k ≤ i → l[i - k]? = some oi → f i = none →
    (∀ j o, l[j]? = some o → i < k + j → f (k + j) ≠ none → ∀ t, oi.dst = some t → o.dst ≠ some t) →
    runPuts (fun j => if j = i then some v else f j) k l a = (runPuts f k l a).put oi.dst v
  | [], k, a, _, h, _, _ => by simp at h
  | o :: r, k, a, hk, hi, hf, h => by
    simp only [runPuts]
    by_cases hki : k = i
    · subst hki
      simp only [Nat.sub_self, List.getElem?_cons_zero, Option.some.injEq] at hi
      subst hi
      simp only [if_true, hf]
      rw [runPuts_ext (g := f) r (k + 1) _ (fun j hj => by rw [if_neg (by omega)])]
      exact runPuts_put r (k + 1) a fun j p hp hf' => h (j + 1) p (by simpa using hp) (by omega) (by rwa [show k + (j + 1) = k + 1 + j by omega])
    · rw [if_neg hki]
      exact runPuts_set r (k + 1) _ (by omega) (by rw [show i - k = (i - (k + 1)) + 1 by omega] at hi; simpa using hi) hf fun j p hp hlt hf' => h (j + 1) p (by simpa using hp) (by omega) (by rwa [show k + (j + 1) = k + 1 + j by omega])

theorem exec_agree {ops : Array Oper} {o : Oper} (hs : ∀ cs b, o.op ≠ .select cs b) {a b : Act} (h : agreeOn (o.looksAt ops) a b) : execOp a.eval o = execOp b.eval o :=
  execOp_congr o hs fun x hx => by
    cases x with
    | tmp t =>
      have := h t (List.mem_append_left _ (List.mem_filterMap.2 ⟨.tmp t, by simpa using hx, rfl⟩))
      simp only [Act.eval, Array.getD_eq_getD_getElem?, this]
    | _ => rfl

theorem wanted_agree {ops : Array Oper} {o : Oper} {a b : Act} (h : agreeOn (o.looksAt ops) a b) : Region.wanted o (yielded ops a.tmps) = Region.wanted o (yielded ops b.tmps) := by
  unfold Region.wanted
  cases hg : o.guard with
  | none => rfl
  | some g =>
    obtain ⟨j, want⟩ := g
    simp only
    have : yielded ops a.tmps j = yielded ops b.tmps j := by
      unfold yielded
      cases hd : (ops[j]?).bind (·.dst) with
      | none => rfl
      | some d =>
        have := h d (List.mem_append_right _ (by simp [hg, hd]))
        simp only [Option.bind_some, this]
    rw [this]


/-! ## The walk in the order of the text -/

def wantedE (ops : List Oper) (E : Env) : Option (Nat × Bool) → Option Bool
  | none => some true
  | some (j, want) => match (ops[j]?).bind (·.dst) with
    | none => some false
    | some d => match get E d with
      | some (.bool b) => some (b == want)
      | some (.int _ _) | some (.tuple _) | some (.string _) | some (.pointer _) | some (.slice _ _ _) => some false
      | _ => none

theorem wanted_of_E {ops : List Oper} {n : Nat} {E : Env} {o : Oper} {b : Bool} {a : Act} (h : wantedE ops E o.guard = some b) (ha : Agr n E a) : Region.wanted o (yielded ops.toArray a.tmps) = b := by
  unfold Region.wanted
  cases hg : o.guard with
  | none => rw [hg] at h; simpa [wantedE] using h
  | some g =>
    obtain ⟨j, want⟩ := g
    rw [hg] at h
    simp only [wantedE] at h
    simp only [yielded, List.getElem?_toArray]
    cases hd : (ops[j]?).bind (·.dst) with
    | none => rw [hd] at h; simp at h; simp [← h]
    | some d =>
      rw [hd] at h
      simp only at h
      simp only [Option.bind_some]
      cases hv : get E d with
      | none => rw [hv] at h; simp at h
      | some v =>
        rw [hv] at h
        rw [ha.val d v hv]
        cases v <;> simp at h <;> simp [← h]

theorem closed_anc {ops : List Oper} {S : Nat → Bool} (hc : ∀ k o, ops[k]? = some o → S k = true → ∀ e ∈ o.after, Region.binds .any e = true → S e.on = true) :
    ∀ (k : Nat), (∀ o, ops[k]? = some o → ∀ e ∈ o.after, Region.binds .any e = true → S e.on = true) → ∀ j, anc ops k j = true → S j = true := by
  intro k
  induction k using Nat.strongRecOn with
  | _ k ih =>
    intro he j hj
    obtain ⟨o, ho, e, hme, hb, h1⟩ := anc_spec hj
    have hS := he o ho e hme hb
    rcases h1 with h1 | ⟨h1, h2⟩
    · rw [← h1]; exact hS
    · exact ih e.on h1 (fun o' ho' e' he' hb' => hc e.on o' ho' hS e' he' hb') j h2

end Go.Eng

/- The engine, part three: a region that draws its order, walked in one order: what only reads is taken as soon as it may come up, what acts comes in its turn, alone. -/
set_option linter.unusedVariables false
namespace Go.Eng
open Go

/-- What has been taken first: the operation's number, and the worlds in which it yields what it yielded: those that extend a world but for some blocks. -/
abbrev Pend := List (Nat × List Nat × World)

/-- What may still be due behind operation k. -/
def dropP (ops : List Oper) (k : Nat) (pend : Pend) : Pend := pend.filter fun p => !anc ops k p.1

def Pend.ok (pend : Pend) (w : World) : Prop := ∀ p ∈ pend, Ext p.2.1 p.2.2 w

/-! ## One operation, clean -/

/-- What follows an operation, by what it yields. -/
def uponE (P : Program) (o : Oper) (a : Act) (next : Act → World → Prop) (Q : Exit → Act → World → Prop) : Result Next → Prop
  | .ok (.value v) w' => next (a.put o.dst v) w'
  | .ok .skip w' => next (a.put o.dst undef) w'
  | .ok (.enter f args) w' => Calls P f args w' fun
      | .returned v, w'' => next (a.put o.dst v) w''
      | .panicked chain, w'' => Q (.panic chain) a w''
      | .outgrown, _ => False
  | .ok (.round l f tmps assign body) w' => RoundIn Fence.wide 0 P l f tmps assign body w' fun
      | .returned v, w'' => next (a.put o.dst v) w''
      | .panicked chain, w'' => Q (.panic chain) a w''
      | .outgrown, _ => False
  | .halt (.panic v) w' => Q (.panic [{ v, recovered := false }]) a w'
  | _ => False

def stepE (P : Program) (ops : Array Oper) (Q : Exit → Act → World → Prop) (i : Nat) (K : Act → World → Prop) (a : Act) (w : World) : Prop :=
  match ops[i]? with
  | none => K a w
  | some o => if Region.wanted o (yielded ops a.tmps) then uponE P o a K Q ((execOp a.eval o).run P w) else K (a.put o.dst undef) w

def listE (P : Program) (ops : Array Oper) (Q : Exit → Act → World → Prop) : List Oper → Act → World → Prop
  | [], a, w => Q .normal a w
  | o :: rest, a, w => if Region.wanted o (yielded ops a.tmps) then uponE P o a (listE P ops Q rest) Q ((execOp a.eval o).run P w) else listE P ops Q rest (a.put o.dst undef) w

section
variable {P : Program} {Q : Exit → Act → World → Prop} {K K' : Act → World → Prop} {a : Act} {w : World} {o : Oper}

theorem uponE_mono {r : Result Next} (h : ∀ a w, K a w → K' a w) (hh : uponE P o a K Q r) : uponE P o a K' Q r := by
  cases r with
  | ok x w' =>
    cases x <;> simp only [uponE] at hh ⊢ <;>
      first
        | exact h _ _ hh
        | exact Calls.mono hh (fun e w'' he => by cases e <;> first | exact h _ _ he | exact he)
        | exact RoundIn.mono hh (fun e w'' he => by cases e <;> first | exact h _ _ he | exact he)
  | halt x w' => cases x <;> simp only [uponE] at hh ⊢ <;> exact hh

theorem stepE_mono {ops : Array Oper} {i : Nat} (h : ∀ a w, K a w → K' a w) (hh : stepE P ops Q i K a w) : stepE P ops Q i K' a w := by
  unfold stepE at *
  split
  · exact h _ _ (by simpa [*] using hh)
  · rename_i o ho
    simp only [ho] at hh
    split
    · rename_i hw; simp only [hw, if_true] at hh; exact uponE_mono h hh
    · rename_i hw; simp only [hw] at hh; exact h _ _ hh

/-- What is clean holds in a round's frame as everywhere. -/
theorem uponE_wpIn (ro : Option Nat) (hh : uponE P o a K Q ((execOp a.eval o).run P w)) : o.wpIn (wideR ro) 0 P a w K Q := by
  refine ⟨fun _ _ => trivial, ?_⟩
  have key : ∀ r : Result Next, uponE P o a K Q r → o.uponIn (wideR ro) 0 P a K Q r := fun r hr => by
    cases r with
    | ok x w' =>
      cases x <;> simp only [uponE] at hr <;> simp only [Oper.uponIn] <;>
        first
          | exact hr
          | exact hr.elim
          | exact ⟨fun h => absurd h (by simp [wideR, Fence.wide]), show CallsIn Fence.wide 0 P _ _ _ _ from callsIn_wide.2 (Calls.mono hr (fun e w'' he => by cases e <;> first | exact he | exact he.elim))⟩
          | exact ⟨fun h => absurd h (by simp [wideR, Fence.wide]), show RoundIn Fence.wide 0 P _ _ _ _ _ _ _ from RoundIn.mono hr (fun e w'' he => by cases e <;> first | exact he | exact he.elim)⟩
    | halt x w' => cases x <;> simp only [uponE] at hr <;> first | exact hr | exact hr.elim
  cases hd : o.op with
  | defer c =>
    cases ro with
    | none => exact key _ hh
    | some l =>
      have he : (execOp a.eval o).run P w = (do pure (Next.defer (← resolve a.eval c o.type)) : Sem Next).run P w := by simp only [execOp, hd]
      rw [he, Sem.run_bind] at hh
      have hs : Oper.semAt (some l) a.eval o = (do Instr.deferInRound l (← resolve a.eval c o.type); pure .skip) := by simp only [Oper.semAt, hd]
      show o.uponIn (wideR (some l)) 0 P a K Q ((Oper.semAt (some l) a.eval o).run P w)
      rw [hs, Sem.run_bind]
      cases hr : (resolve a.eval c o.type).run P w with
      | ok d w' => rw [hr] at hh; simp [uponE] at hh
      | halt x w' => rw [hr] at hh; exact key _ hh
  | _ =>
    have hs : Oper.semAt ro a.eval o = execOp a.eval o := Oper.semAt_eq ro a.eval o (fun c hc => by rw [hd] at hc; cases hc)
    show o.uponIn (wideR ro) 0 P a K Q ((Oper.semAt ro a.eval o).run P w)
    rw [hs]
    exact key _ hh

theorem listE_wpIn (ro : Option Nat) {ops : Array Oper} : ∀ (l : List Oper) (a : Act) (w : World), listE P ops Q l a w → wpListIn (wideR ro) 0 P ops Q l a w
  | [], _, _, h => h
  | o :: rest, a, w, h => by
    unfold listE at h
    unfold wpListIn
    split
    · rename_i hw; simp only [hw, if_true] at h
      exact uponE_wpIn ro (uponE_mono (fun a w h => listE_wpIn ro rest a w h) h)
    · rename_i hw; simp only [hw] at h
      exact ⟨fun _ _ => trivial, listE_wpIn ro rest _ _ h⟩

theorem stepE_wpIn (ro : Option Nat) {ops : Array Oper} {i : Nat} (h : stepE P ops Q i K a w) : wpOpIn (wideR ro) 0 P ops Q i K a w := by
  unfold stepE at h
  unfold wpOpIn
  split
  · simpa [*] using h
  · rename_i o ho
    simp only [ho] at h
    split
    · rename_i hw; simp only [hw, if_true] at h; exact uponE_wpIn ro h
    · rename_i hw; simp only [hw] at h; exact ⟨fun _ _ => trivial, h⟩

theorem yieldsIf_stepE {ops : Array Oper} {S : World → Prop} {i : Nat} {v : Value} (hi : ops[i]? = some o) (hy : YieldsIf P ops S o v a) (hS : S w) (h : K (a.put o.dst v) w) : Go.Eng.stepE P ops Q i K a w := by
  unfold Go.Eng.stepE
  simp only [hi]
  rcases hy with ⟨hw, hv⟩ | ⟨hw, rfl⟩
  · simp only [hw, if_true, hv w hS, uponE]; exact h
  · simp only [hw, Bool.false_eq_true, if_false]; exact h

theorem stepE_putIf {ops : Array Oper} {S : World → Prop} {j : Nat} {oi oj : Oper} {v : Value} (hj : ops[j]? = some oj) (hap : oi.apart ops oj = true)
    (hsi : ∀ cs b, oi.op ≠ .select cs b) (hsj : ∀ cs b, oj.op ≠ .select cs b)
    (hQ : ∀ c a w, Q (.panic c) (a.put oi.dst v) w → Q (.panic c) a w)
    (hy : YieldsIf P ops S oi v a) (h : stepE P ops Q j K (a.put oi.dst v) w) :
    stepE P ops Q j (fun a' w' => YieldsIf P ops S oi v a' ∧ K (a'.put oi.dst v) w') a w := by
  obtain ⟨h1, h2, h3⟩ := Oper.apart_spec hap
  have keep : ∀ (a : Act), YieldsIf P ops S oi v a → ∀ u, YieldsIf P ops S oi v (a.put oj.dst u) := fun a hy u =>
    hy.of_same (execOp_put oi hsi a oj.dst u h3) (wanted_put oi a oj.dst u h3)
  unfold stepE at *
  simp only [hj] at *
  rw [wanted_put oj a oi.dst v h1] at h
  split
  · rename_i hw
    simp only [hw, if_true] at h
    rw [execOp_put oj hsj a oi.dst v h1] at h
    generalize (execOp a.eval oj).run P w = r at *
    cases r with
    | ok n w' =>
      cases n <;> simp only [uponE] at h ⊢
      case value u => exact ⟨keep a hy u, by rw [← Act.put_comm a v u h2]; exact h⟩
      case skip => exact ⟨keep a hy _, by rw [← Act.put_comm a v undef h2]; exact h⟩
      case enter f args =>
        refine Calls.mono h fun e w'' he => ?_
        cases e with
        | returned u => exact ⟨keep a hy u, by rw [← Act.put_comm a v u h2]; exact he⟩
        | panicked c => exact hQ _ _ _ he
        | outgrown => exact he
      case round l f tmps as bd =>
        refine RoundIn.mono h fun e w'' he => ?_
        cases e with
        | returned u => exact ⟨keep a hy u, by rw [← Act.put_comm a v u h2]; exact he⟩
        | panicked c => exact hQ _ _ _ he
        | outgrown => exact he
    | halt x w' =>
      cases x <;> simp only [uponE] at h ⊢
      case panic u => exact hQ _ _ _ h
  · rename_i hw
    simp only [hw] at h
    exact ⟨keep a hy _, by rw [← Act.put_comm a v undef h2]; exact h⟩
end

section
variable {P : Program} {ops : List Oper} {Q : Exit → Act → World → Prop}

def wpAnyG (P : Program) (ops : List Oper) (Q : Exit → Act → World → Prop) : Nat → Pend → Array Bool → Act → World → Prop
  | 0, _, listed, a, w => Region.ready .any ops.toArray listed = [] ∧ Q .normal a w
  | fuel + 1, pend, listed, a, w =>
    (Region.ready .any ops.toArray listed = [] → Q .normal a w) ∧
    ∀ i ∈ Region.ready .any ops.toArray listed, stepE P ops.toArray Q i (fun a' w' => (dropP ops i pend).ok w' ∧ wpAnyG P ops Q fuel (dropP ops i pend) (listed.setIfInBounds i true) a' w') a w

theorem wpAny_of_G (ro : Option Nat) : ∀ (fuel : Nat) (pend : Pend) (listed : Array Bool) (a : Act) (w : World), wpAnyG P ops Q fuel pend listed a w → wpAnyIn (wideR ro) 0 P .any ops.toArray Q fuel listed a w
  | 0, _, _, _, _, h => h
  | fuel + 1, _, _, _, _, h => ⟨h.1, fun i hi => wpOpIn_mono (fun a' w' h' => wpAny_of_G ro fuel _ _ a' w' h'.2) (stepE_wpIn ro (h.2 i hi))⟩

theorem dropP_sub {k : Nat} {p p' : Pend} (h : ∀ x ∈ p', x ∈ p) : ∀ x ∈ dropP ops k p', x ∈ dropP ops k p := fun x hx => by
  simp only [dropP, List.mem_filter] at hx ⊢
  exact ⟨h x hx.1, hx.2⟩

theorem wpAnyG_weak : ∀ (fuel : Nat) (pend pend' : Pend) (listed : Array Bool) (a : Act) (w : World), (∀ x ∈ pend', x ∈ pend) → wpAnyG P ops Q fuel pend listed a w → wpAnyG P ops Q fuel pend' listed a w
  | 0, _, _, _, _, _, _, h => h
  | fuel + 1, pend, pend', listed, a, w, hs, h => ⟨h.1, fun i hi => stepE_mono (fun a' w' h' => ⟨fun x hx => h'.1 x (dropP_sub hs x hx), wpAnyG_weak fuel _ _ _ _ _ (dropP_sub hs) h'.2⟩) (h.2 i hi)⟩

def Closed (ops : List Oper) (listed : Array Bool) : Prop := ∀ (k : Nat) (o : Oper), ops[k]? = some o → listed.getD k false = true → ∀ e ∈ o.after, Region.binds .any e = true → listed.getD e.on false = true

theorem Closed.set {listed : Array Bool} (h : Closed ops listed) {i : Nat} (hi : i ∈ Region.ready .any ops.toArray listed) : Closed ops (listed.setIfInBounds i true) := by
  obtain ⟨h0, o, ho, hall⟩ := mem_ready.1 hi
  intro k p hp hk e he hb
  by_cases hki : i = k
  · subst hki
    have : ops[i]? = some o := by simpa using ho
    rw [hp] at this
    obtain rfl := Option.some.inj this
    exact getD_set_true (hall e he hb)
  · rw [getD_set_ne false hki] at hk
    exact getD_set_true (h k p hp hk e he hb)

theorem Closed.no_anc {listed : Array Bool} (h : Closed ops listed) {i j : Nat} (hi : listed.getD i false = false) (hj : j ∈ Region.ready .any ops.toArray listed) : anc ops j i = false := by
  cases h1 : anc ops j i with
  | false => rfl
  | true =>
    obtain ⟨h0, o, ho, hall⟩ := mem_ready.1 hj
    have := closed_anc (S := fun k => listed.getD k false) h j (fun o' ho' e he hb => by
      have h2 : ops[j]? = some o := by simpa using ho
      rw [ho'] at h2
      obtain rfl := Option.some.inj h2
      exact hall e he hb) i h1
    rw [hi] at this
    cases this

theorem wpAnyG_first {i : Nat} {oi : Oper} {v : Value} {add : Pend} (hi : ops[i]? = some oi) (hsel : ∀ (j : Nat) (o : Oper) cs b, ops.toArray[j]? = some o → o.op ≠ .select cs b)
    (hQ : ∀ c a w, Q (.panic c) (a.put oi.dst v) w → Q (.panic c) a w) (hadd : ∀ p ∈ add, p.1 = i) :
    ∀ (fuel : Nat) (pend : Pend) (listed : Array Bool) (a : Act) (w : World), Closed ops listed → listed.getD i false = false →
      (∀ j oj, ops.toArray[j]? = some oj → j ≠ i → listed.getD j true = false → (∀ e ∈ oj.after, Region.binds .any e = true → e.on ≠ i) → oi.apart ops.toArray oj = true) →
      i ∈ Region.ready .any ops.toArray listed → YieldsIf P ops.toArray add.ok oi v a → add.ok w → pend.ok w →
      wpAnyG P ops Q fuel (add ++ pend) (listed.setIfInBounds i true) (a.put oi.dst v) w → wpAnyG P ops Q (fuel + 1) pend listed a w := by
  have hi' : ops.toArray[i]? = some oi := by simpa using hi
  have here : ∀ (fuel : Nat) (pend : Pend) (listed : Array Bool) (a : Act) (w : World), YieldsIf P ops.toArray add.ok oi v a → add.ok w → pend.ok w →
      wpAnyG P ops Q fuel (add ++ pend) (listed.setIfInBounds i true) (a.put oi.dst v) w →
      stepE P ops.toArray Q i (fun a' w' => (dropP ops i pend).ok w' ∧ wpAnyG P ops Q fuel (dropP ops i pend) (listed.setIfInBounds i true) a' w') a w := by
    intro fuel pend listed a w hy hS hP H
    refine yieldsIf_stepE hi' hy hS ⟨fun p hp => hP p ((List.mem_filter.1 hp).1), wpAnyG_weak fuel _ _ _ _ _ (fun x hx => List.mem_append_right _ ((List.mem_filter.1 hx).1)) H⟩
  intro fuel
  induction fuel with
  | zero =>
    intro pend listed a w _ _ _ hr hy hS hP H
    refine ⟨fun h => (by rw [h] at hr; cases hr), fun j hj => ?_⟩
    by_cases hji : j = i
    · subst hji; exact here _ _ _ _ _ hy hS hP H
    · have := ready_mono hj hji
      rw [H.1] at this
      cases this
  | succ fuel ih =>
    intro pend listed a w hcl hun0 hfree hr hy hS hP H
    refine ⟨fun h => (by rw [h] at hr; cases hr), fun j hj => ?_⟩
    by_cases hji : j = i
    · subst hji; exact here _ _ _ _ _ hy hS hP H
    · have h1 := H.2 j (ready_mono hj hji)
      obtain ⟨hjun, oj, hoj, hall⟩ := mem_ready.1 hj
      have hnot : ∀ e ∈ oj.after, Region.binds .any e = true → e.on ≠ i := fun e he hb heq => by
        have h1 := hall e he hb
        rw [heq, hun0] at h1
        cases h1
      have h2 := stepE_putIf hoj (hfree j oj hoj hji hjun hnot) (fun cs b => hsel i oi cs b hi') (fun cs b => hsel j oj cs b hoj) hQ hy h1
      have hfree' : ∀ k ok, ops.toArray[k]? = some ok → k ≠ i → (listed.setIfInBounds j true).getD k true = false →
          (∀ e ∈ ok.after, Region.binds .any e = true → e.on ≠ i) → oi.apart ops.toArray ok = true := fun k ok hk hki hun hno => by
        refine hfree k ok hk hki ?_ hno
        by_cases hjk : j = k
        · subst hjk; exact hjun
        · rw [getD_set_ne true hjk] at hun; exact hun
      have hno := hcl.no_anc hun0 hj
      have hdrop : dropP ops j (add ++ pend) = add ++ dropP ops j pend := by
        simp only [dropP, List.filter_append]
        congr 1
        exact List.filter_eq_self.2 fun p hp => by rw [hadd p hp, hno]; rfl
      rw [hdrop] at h2
      refine stepE_mono (fun a' w' h3 => ?_) h2
      obtain ⟨h4, h5, h6⟩ := h3
      refine ⟨fun p hp => h5 p (List.mem_append_right _ hp), ih _ (listed.setIfInBounds j true) a' w' (hcl.set hj) (by rw [getD_set_ne false hji]; exact hun0) hfree' (ready_mono hr (Ne.symm hji)) h4
        (fun p hp => h5 p (List.mem_append_left _ hp)) (fun p hp => h5 p (List.mem_append_right _ hp)) ?_⟩
      rw [Array.setIfInBounds_comm _ _ hji]
      exact h6

/-! ## The order in which a region is walked -/

def listedOf (ops : List Oper) : List Nat → Array Bool
  | [] => Array.replicate ops.length false
  | i :: r => (listedOf ops r).setIfInBounds i true

/-- `dets`: what is taken first; all else must come alone. `done` has the latest first. -/
def walkOk (ops : List Oper) (dets : List Nat) (m : Nat) : (done todo : List Nat) → Bool
  | done, [] => match m with
    | 0 => (Region.ready .any ops.toArray (listedOf ops done)).isEmpty
    | _ + 1 => true
  | done, i :: r =>
    (bif dets.contains i then (Region.ready .any ops.toArray (listedOf ops done)).contains i && Region.free .any ops.toArray (listedOf ops done) i
      else Region.ready .any ops.toArray (listedOf ops done) == [i]) && walkOk ops dets m (i :: done) r

/-- The walk stands behind `done`, before `todo`. -/
def Wx (P : Program) (n : Nat) (ds : List Deferred) (ops : List Oper) (Q : PostE) (dets : List Nat) (done todo : List Nat) (m : Nat) (pend : Pend) (E : Env) (w : World) : Prop :=
  Region.noSelect ops.toArray = true → walkOk ops dets m done todo = true → Closed ops (listedOf ops done) → pend.ok w → ∀ a, Agr n E a → a.defers = ds → wpAnyG P ops (lift n ds Q) (todo.length + m) pend (listedOf ops done) a w

end

/-- A post that does not ask for the environment at a panic. -/
def Calm (Q : PostE) : Prop := ∀ c E E' w, Q (.panic c) E w → Q (.panic c) E' w

/-- In every world that extends w but for X, from every frame that agrees with E, the operation yields v. -/
def RunV (P : Program) (n : Nat) (E : Env) (o : Oper) (X : List Nat) (w : World) (v : Value) : Prop :=
  ∀ a u, Ext X w u → Agr n E a → (execOp a.eval o).run P u = .ok (.value v) u

section
variable {P : Program} {n : Nat} {ds : List Deferred} {ops : List Oper} {Q : PostE} {dets done todo : List Nat} {m : Nat} {pend : Pend} {E : Env} {w : World}

theorem Wx.nil (h : Q .normal E w) : Wx P n ds ops Q dets done [] 0 pend E w := by
  intro hs hw hc hp a ha hd
  simp only [walkOk, List.isEmpty_iff] at hw
  exact ⟨hw, E, ha, hd, h⟩

theorem Wx.pair {i : Nat} {o : Oper} (hcalm : Calm Q) (ho : ops[i]? = some o) (hdet : dets.contains i = true)
    {v : Value} (add : Pend) (hadd : ∀ p ∈ add, p.1 = i) (hy : ∀ a, Agr n E a → a.defers = ds → YieldsIf P ops.toArray add.ok o v a) (hX : add.ok w) (hd : dstOk n o.dst = true)
    (h : Wx P n ds ops Q dets (i :: done) todo m (add ++ pend) (putE E o.dst v) w) : Wx P n ds ops Q dets done (i :: todo) m pend E w := by
  intro hs hw hc hp a ha hds
  rw [show (i :: todo).length + m = (todo.length + m) + 1 by simp; omega]
  simp only [walkOk, hdet, cond_true, Bool.and_eq_true] at hw
  obtain ⟨⟨hr, hf⟩, hw⟩ := hw
  have hr' : i ∈ Region.ready .any ops.toArray (listedOf ops done) := by simpa using hr
  have ho' : ops.toArray[i]? = some o := by simpa using ho
  have hun : (listedOf ops done).getD i false = false := by
    have h1 := (mem_ready.1 hr').1
    rcases Nat.lt_or_ge i (listedOf ops done).size with h' | h'
    · simp [h'] at h1 ⊢; exact h1
    · simp [Array.getElem?_eq_none h'] at h1
  refine wpAnyG_first (add := add) ho (Region.noSelect_spec hs) ?_ hadd (todo.length + m) pend (listedOf ops done) a w hc hun (Region.free_spec ho' hf) hr' (hy a ha hds) hX hp ?_
  · rintro c a' w' ⟨E', h1, h2, h3⟩
    exact ⟨[], ⟨by rw [← h1.size, put_size], fun t v ht => by cases ht⟩, by rw [← put_defers a' o.dst v]; exact h2, hcalm _ _ _ _ h3⟩
  · have hp' : Pend.ok (add ++ pend) w := fun p hp' => by
      rcases List.mem_append.1 hp' with hp' | hp'
      · exact hX p hp'
      · exact hp p hp'
    exact h hs hw (hc.set hr') hp' _ (ha.put hd v) (by rw [put_defers]; exact hds)

/-- What yields the same in whatever world extends this one, but for X. -/
theorem Wx.val {i : Nat} {o : Oper} (hcalm : Calm Q) (ho : ops[i]? = some o) (hdet : dets.contains i = true) (hd : dstOk n o.dst = true) (hg : wantedE ops E o.guard = some true)
    {v : Value} (X : List Nat) (hv : RunV P n E o X w v) (h : Wx P n ds ops Q dets (i :: done) todo m ((i, X, w) :: pend) (putE E o.dst v) w) : Wx P n ds ops Q dets done (i :: todo) m pend E w :=
  Wx.pair hcalm ho hdet [(i, X, w)] (fun p hp => by simp at hp; rw [hp]) (fun a ha _ => .inl ⟨wanted_of_E hg ha, fun u hu => hv a u (hu (i, X, w) (.head _)) ha⟩)
    (fun p hp => by simp at hp; subst hp; exact Ext.refl _ _) hd h

theorem Wx.skip {i : Nat} {o : Oper} (hcalm : Calm Q) (ho : ops[i]? = some o) (hdet : dets.contains i = true) (hd : dstOk n o.dst = true) (hg : wantedE ops E o.guard = some false)
    (h : Wx P n ds ops Q dets (i :: done) todo m pend (putE E o.dst undef) w) : Wx P n ds ops Q dets done (i :: todo) m pend E w :=
  Wx.pair hcalm ho hdet [] (fun p hp => by cases hp) (fun a ha _ => .inr ⟨wanted_of_E hg ha, rfl⟩) (fun p hp => by cases hp) hd h

/-- In whatever world at all. -/
def RunP (P : Program) (n : Nat) (E : Env) (o : Oper) (v : Value) : Prop := ∀ a u, Agr n E a → (execOp a.eval o).run P u = .ok (.value v) u

theorem RunP.runV {o : Oper} {v : Value} (h : RunP P n E o v) (X : List Nat) : RunV P n E o X w v := fun a u _ ha => h a u ha

/-- What yields the same in whatever world. -/
theorem Wx.pure {i : Nat} {o : Oper} (hcalm : Calm Q) (ho : ops[i]? = some o) (hdet : dets.contains i = true) (hd : dstOk n o.dst = true) (hg : wantedE ops E o.guard = some true)
    {v : Value} (hv : RunP P n E o v) (h : Wx P n ds ops Q dets (i :: done) todo m pend (putE E o.dst v) w) : Wx P n ds ops Q dets done (i :: todo) m pend E w :=
  Wx.pair hcalm ho hdet [] (fun p hp => by cases hp) (fun a ha _ => .inl ⟨wanted_of_E hg ha, fun u _ => hv a u ha⟩) (fun p hp => by cases hp) hd h

/-- What an operation that acts leads to: a value (or none), a call. -/
def Acts (P : Program) (n : Nat) (ds : List Deferred) (E : Env) (o : Oper) (w : World) (K : Value → World → Prop) (Q : PostE) : Prop :=
  ∀ a, Agr n E a → a.defers = ds →
    (∃ v w', (execOp a.eval o).run P w = .ok (.value v) w' ∧ K v w') ∨
    (∃ w', (execOp a.eval o).run P w = .ok .skip w' ∧ K undef w') ∨
    (∃ f args w1, (execOp a.eval o).run P w = .ok (.enter f args) w1 ∧ Calls P f args w1 fun e w' => match e with
      | .returned v => K v w'
      | .panicked c => Q (.panic c) [] w'
      | .outgrown => False) ∨
    (∃ v w', (execOp a.eval o).run P w = .halt (.panic v) w' ∧ Q (.panic [{ v, recovered := false }]) [] w') ∨
    (∃ l f tmps as bd w1, (execOp a.eval o).run P w = .ok (.round l f tmps as bd) w1 ∧ RoundIn Fence.wide 0 P l f tmps as bd w1 fun e w' => match e with
      | .returned v => K v w'
      | .panicked c => Q (.panic c) [] w'
      | .outgrown => False)

theorem Agr.none {a : Act} (h : a.tmps.size = n) : Agr n [] a := ⟨h, fun t v ht => by cases ht⟩

theorem wpOp_of_acts {i : Nat} {o : Oper} (ho : ops[i]? = some o) (hg : wantedE ops E o.guard = some true) {K : Value → World → Prop} (h : Acts P n ds E o w K Q) {a : Act} (ha : Agr n E a) (hd : a.defers = ds)
    {N : Act → World → Prop} (hN : ∀ v w', K v w' → N (a.put o.dst v) w') : stepE P ops.toArray (lift n ds Q) i N a w := by
  unfold stepE
  simp only [List.getElem?_toArray, ho, wanted_of_E hg ha, if_true]
  rcases h a ha hd with ⟨v, w', h1, h2⟩ | ⟨w', h1, h2⟩ | ⟨f, args, w1, h1, h2⟩ | ⟨v, w', h1, h2⟩ | ⟨l, f, tmps, as, bd, w1, h1, h2⟩
  · rw [h1]; exact hN v w' h2
  · rw [h1]; exact hN undef w' h2
  · rw [h1]
    simp only [uponE]
    refine h2.mono fun e w' he => ?_
    cases e with
    | returned v => exact hN v w' he
    | panicked c => exact ⟨[], Agr.none ha.size, hd, he⟩
    | outgrown => exact he.elim
  · rw [h1]
    exact ⟨[], Agr.none ha.size, hd, h2⟩
  · rw [h1]
    simp only [uponE]
    refine h2.mono fun e w' he => ?_
    cases e with
    | returned v => exact hN v w' he
    | panicked c => exact ⟨[], Agr.none ha.size, hd, he⟩
    | outgrown => exact he.elim

/-- What acts comes alone: what was taken before it must still yield what it yielded, unless it has come up for sure. -/
theorem Wx.act {i : Nat} {o : Oper} (ho : ops[i]? = some o) (hdet : dets.contains i = false) (hd : dstOk n o.dst = true) (hg : wantedE ops E o.guard = some true)
    (pend' : Pend) (hsub : ∀ p ∈ pend, anc ops i p.1 = true ∨ p ∈ pend') {K : Value → World → Prop} (hv : Acts P n ds E o w K Q)
    (h : ∀ v w', K v w' → (pend.ok w → pend'.ok w') ∧ Wx P n ds ops Q dets (i :: done) todo m pend' (putE E o.dst v) w') : Wx P n ds ops Q dets done (i :: todo) m pend E w := by
  intro hs hw hc hp a ha hds
  rw [show (i :: todo).length + m = (todo.length + m) + 1 by simp; omega]
  simp only [walkOk, hdet, cond_false, Bool.and_eq_true, beq_iff_eq] at hw
  obtain ⟨hr, hw⟩ := hw
  have hmem : i ∈ Region.ready .any ops.toArray (listedOf ops done) := by rw [hr]; simp
  refine ⟨fun h0 => (by rw [h0] at hr; cases hr), fun j hj => ?_⟩
  rw [hr, List.mem_singleton] at hj
  subst hj
  refine wpOp_of_acts ho hg hv ha hds fun v w' hK => ?_
  obtain ⟨h1, h2⟩ := h v w' hK
  have h3 := h1 hp
  have hdr : ∀ x ∈ dropP ops j pend, x ∈ pend' := fun x hx => by
    simp only [dropP, List.mem_filter, Bool.not_eq_true'] at hx
    rcases hsub x hx.1 with h4 | h4
    · rw [hx.2] at h4; cases h4
    · exact h4
  refine ⟨fun p hp' => h3 p (hdr p hp'), wpAnyG_weak _ _ _ _ _ _ hdr ?_⟩
  exact h2 hs hw (hc.set hmem) h3 _ (ha.put hd v) (by rw [put_defers]; exact hds)

/-- An operation that is not wanted, where none is taken first. -/
theorem Wx.actSkip {i : Nat} {o : Oper} (ho : ops[i]? = some o) (hdet : dets.contains i = false) (hd : dstOk n o.dst = true) (hg : wantedE ops E o.guard = some false)
    (h : Wx P n ds ops Q dets (i :: done) todo m pend (putE E o.dst undef) w) : Wx P n ds ops Q dets done (i :: todo) m pend E w := by
  intro hs hw hc hp a ha hds
  rw [show (i :: todo).length + m = (todo.length + m) + 1 by simp; omega]
  simp only [walkOk, hdet, cond_false, Bool.and_eq_true, beq_iff_eq] at hw
  obtain ⟨hr, hw⟩ := hw
  have hmem : i ∈ Region.ready .any ops.toArray (listedOf ops done) := by rw [hr]; simp
  refine ⟨fun h0 => (by rw [h0] at hr; cases hr), fun j hj => ?_⟩
  rw [hr, List.mem_singleton] at hj
  subst hj
  unfold stepE
  simp only [List.getElem?_toArray, ho, wanted_of_E hg ha, Bool.false_eq_true, if_false]
  have hdr : ∀ x ∈ dropP ops j pend, x ∈ pend := fun x hx => (List.mem_filter.1 hx).1
  exact ⟨fun p hp' => hp p (hdr p hp'), wpAnyG_weak _ _ _ _ _ _ hdr (h hs hw (hc.set hmem) hp _ (ha.put hd undef) (by rw [put_defers]; exact hds))⟩

/-- What acts and leaves all that was there alone keeps all that was taken. -/
theorem Wx.actNew {i : Nat} {o : Oper} (ho : ops[i]? = some o) (hdet : dets.contains i = false) (hd : dstOk n o.dst = true) (hg : wantedE ops E o.guard = some true)
    {K : Value → World → Prop} (hv : Acts P n ds E o w (fun v w' => Ext [] w w' ∧ K v w') Q)
    (h : ∀ v w', Ext [] w w' → K v w' → Wx P n ds ops Q dets (i :: done) todo m pend (putE E o.dst v) w') : Wx P n ds ops Q dets done (i :: todo) m pend E w :=
  Wx.act ho hdet hd hg pend (fun p hp => .inr hp) hv fun v w' ⟨h1, h2⟩ => ⟨fun hp p hp' => (hp p hp').trans h1.up, h v w' h1 h2⟩

/-- What acts behind all that was taken. -/
theorem Wx.actLast {i : Nat} {o : Oper} (ho : ops[i]? = some o) (hdet : dets.contains i = false) (hd : dstOk n o.dst = true) (hg : wantedE ops E o.guard = some true)
    (hall : pend.all (fun p => anc ops i p.1) = true) {K : Value → World → Prop} (hv : Acts P n ds E o w K Q)
    (h : ∀ v w', K v w' → Wx P n ds ops Q dets (i :: done) todo m [] (putE E o.dst v) w') : Wx P n ds ops Q dets done (i :: todo) m pend E w :=
  Wx.act ho hdet hd hg [] (fun p hp => .inl (List.all_eq_true.1 hall p hp)) hv fun v w' hK => ⟨fun _ p hp => (by cases hp), h v w' hK⟩

inductive PendK (ops : List Oper) (i : Nat) (Y : List Nat) : Pend → Pend → Prop
  | nil : PendK ops i Y [] []
  | drop {p : Nat × List Nat × World} {l l' : Pend} : anc ops i p.1 = true → PendK ops i Y l l' → PendK ops i Y (p :: l) l'
  | keep {p : Nat × List Nat × World} {l l' : Pend} : (∀ y, y ∈ Y → y ∈ p.2.1 ∨ p.2.2.heap.size ≤ y) → PendK ops i Y l l' → PendK ops i Y (p :: l) (p :: l')

theorem PendK.mem {i : Nat} {Y : List Nat} : ∀ {pend pend' : Pend}, PendK ops i Y pend pend' → (∀ p ∈ pend, anc ops i p.1 = true ∨ p ∈ pend') ∧ (∀ p ∈ pend', p ∈ pend ∧ ∀ y, y ∈ Y → y ∈ p.2.1 ∨ p.2.2.heap.size ≤ y)
  | _, _, .nil => ⟨fun p hp => (by cases hp), fun p hp => (by cases hp)⟩
  | _, _, .drop h k => ⟨fun p hp => (by
      rcases List.mem_cons.1 hp with rfl | hp
      · exact .inl h
      · exact k.mem.1 p hp), fun p hp => ⟨.tail _ (k.mem.2 p hp).1, (k.mem.2 p hp).2⟩⟩
  | _, _, .keep h k => ⟨fun p hp => (by
      rcases List.mem_cons.1 hp with rfl | hp
      · exact .inr (.head _)
      · exact (k.mem.1 p hp).imp id (.tail _)), fun p hp => (by
      rcases List.mem_cons.1 hp with rfl | hp
      · exact ⟨.head _, h⟩
      · exact ⟨.tail _ (k.mem.2 p hp).1, (k.mem.2 p hp).2⟩)⟩

/-- What acts on the blocks Y alone, and what was taken does not look there. -/
theorem Wx.actX {i : Nat} {o : Oper} (pend' : Pend) (ho : ops[i]? = some o) (hdet : dets.contains i = false) (hd : dstOk n o.dst = true) (hg : wantedE ops E o.guard = some true)
    (Y : List Nat) (hY : PendK ops i Y pend pend') {K : Value → World → Prop} (hv : Acts P n ds E o w K Q) (hK : ∀ v w', K v w' → Ext Y w w')
    (h : ∀ v w', K v w' → Wx P n ds ops Q dets (i :: done) todo m pend' (putE E o.dst v) w') : Wx P n ds ops Q dets done (i :: todo) m pend E w := by
  refine Wx.act ho hdet hd hg pend' hY.mem.1 hv fun v w' hk => ⟨fun hp p hp' => ?_, h v w' hk⟩
  obtain ⟨h1, h2⟩ := hY.mem.2 p hp'
  have e1 := hp p h1
  have e2 := hK v w' hk
  exact ⟨e2.os.trans e1.os, e2.tape.trans e1.tape, e2.output.trans e1.output, Nat.le_trans e1.size e2.size, fun j hj hx => (e2.keep j (Nat.lt_of_lt_of_le hj e1.size) fun hm => by
    rcases h2 j hm with h3 | h3
    · exact hx h3
    · omega).trans (e1.keep j hj hx), Nat.le_trans e1.drawn e2.drawn⟩

/-- One of two that may come up: what it leads to. -/
def Br (P : Program) (n : Nat) (ds : List Deferred) (ops : List Oper) (Q : PostE) (dets done : List Nat) (m : Nat) (pend : Pend) (E : Env) (w : World) (i : Nat) : Prop :=
  Region.noSelect ops.toArray = true → Closed ops (listedOf ops done) → i ∈ Region.ready .any ops.toArray (listedOf ops done) → pend.ok w → ∀ a, Agr n E a → a.defers = ds →
    stepE P ops.toArray (lift n ds Q) i (fun a' w' => (dropP ops i pend).ok w' ∧ wpAnyG P ops (lift n ds Q) m (dropP ops i pend) ((listedOf ops done).setIfInBounds i true) a' w') a w

theorem Br.mk {i : Nat} {o : Oper} (pend' : Pend) (ho : ops[i]? = some o) (hd : dstOk n o.dst = true) (hg : wantedE ops E o.guard = some true)
    (Y : List Nat) (hY : PendK ops i Y pend pend') {K : Value → World → Prop} (hv : Acts P n ds E o w K Q) (hK : ∀ v w', K v w' → Ext Y w w') (todo : List Nat) (m : Nat) {k : Nat} (hk : (todo.length + m == k && walkOk ops dets m (i :: done) todo) = true)
    (h : ∀ v w', K v w' → Wx P n ds ops Q dets (i :: done) todo m pend' (putE E o.dst v) w') : Br P n ds ops Q dets done k pend E w i := by
  intro hs hc hmem hp a ha hds
  simp only [Bool.and_eq_true, beq_iff_eq] at hk
  obtain ⟨rfl, hw⟩ := hk
  refine wpOp_of_acts ho hg hv ha hds fun v w' hk => ?_
  have e2 := hK v w' hk
  have hdr : ∀ x ∈ dropP ops i pend, x ∈ pend' := fun x hx => by
    simp only [dropP, List.mem_filter, Bool.not_eq_true'] at hx
    rcases hY.mem.1 x hx.1 with h4 | h4
    · rw [hx.2] at h4; cases h4
    · exact h4
  have h3 : pend'.ok w' := fun p hp' => by
    obtain ⟨h1, h2⟩ := hY.mem.2 p hp'
    have e1 := hp p h1
    exact ⟨e2.os.trans e1.os, e2.tape.trans e1.tape, e2.output.trans e1.output, Nat.le_trans e1.size e2.size, fun j hj hx => (e2.keep j (Nat.lt_of_lt_of_le hj e1.size) fun hm => by
      rcases h2 j hm with h3 | h3
      · exact hx h3
      · omega).trans (e1.keep j hj hx), Nat.le_trans e1.drawn e2.drawn⟩
  refine ⟨fun p hp' => h3 p (hdr p hp'), wpAnyG_weak _ _ _ _ _ _ hdr ?_⟩
  exact h v w' hk hs hw (hc.set hmem) h3 _ (ha.put hd v) (by rw [put_defers]; exact hds)

/-- Two acts may come up: both ways are walked. -/
theorem Wx.fork {i j : Nat} (hr : (Region.ready .any ops.toArray (listedOf ops done) == [i, j]) = true) (hi : Br P n ds ops Q dets done m pend E w i) (hj : Br P n ds ops Q dets done m pend E w j) :
    Wx P n ds ops Q dets done [] (m + 1) pend E w := by
  intro hs _ hc hp a ha hds
  have hr := eq_of_beq hr
  refine ⟨fun h0 => (by rw [h0] at hr; cases hr), fun k hk => ?_⟩
  have hk' := hk
  rw [hr] at hk'
  simp only [List.mem_cons, List.not_mem_nil, or_false] at hk'
  rcases hk' with rfl | rfl
  · have := hi hs hc hk hp a ha hds
    simpa using this
  · have := hj hs hc hk hp a ha hds
    simpa using this

end

/-! ## A region in the order of its text -/

/-- The walk stands before `l`. -/
def Ox (P : Program) (n : Nat) (ds : List Deferred) (ops : List Oper) (Q : PostE) (l : List Oper) (E : Env) (w : World) : Prop :=
  ∀ a, Agr n E a → a.defers = ds → listE P ops.toArray (lift n ds Q) l a w

section
variable {P : Program} {n : Nat} {ds : List Deferred} {ops : List Oper} {Q : PostE} {E : Env} {w : World} {o : Oper} {l : List Oper}

theorem Ox.nil (h : Q .normal E w) : Ox P n ds ops Q [] E w := fun a ha hd => ⟨E, ha, hd, h⟩

theorem Ox.act (hd : dstOk n o.dst = true) (hg : wantedE ops E o.guard = some true) {K : Value → World → Prop} (hv : Acts P n ds E o w K (fun e _ w' => Q e E w'))
    (h : ∀ v w', K v w' → Ox P n ds ops Q l (putE E o.dst v) w') : Ox P n ds ops Q (o :: l) E w := by
  intro a ha hds
  have hw := wanted_of_E hg ha
  unfold listE
  rw [if_pos hw]
  have hN : ∀ v w', K v w' → listE P ops.toArray (lift n ds Q) l (a.put o.dst v) w' := fun v w' hK => h v w' hK _ (ha.put hd v) (by rw [put_defers]; exact hds)
  rcases hv a ha hds with ⟨v, w', h1, h2⟩ | ⟨w', h1, h2⟩ | ⟨f, args, w1, h1, h2⟩ | ⟨v, w', h1, h2⟩ | ⟨l, f, tmps, as, bd, w1, h1, h2⟩
  · rw [h1]; exact hN v w' h2
  · rw [h1]; exact hN undef w' h2
  · rw [h1]
    simp only [uponE]
    refine h2.mono fun e w' he => ?_
    cases e with
    | returned v => exact hN v w' he
    | panicked c => exact ⟨E, ha, hds, he⟩
    | outgrown => exact he.elim
  · rw [h1]
    exact ⟨E, ha, hds, h2⟩
  · rw [h1]
    simp only [uponE]
    refine h2.mono fun e w' he => ?_
    cases e with
    | returned v => exact hN v w' he
    | panicked c => exact ⟨E, ha, hds, he⟩
    | outgrown => exact he.elim

theorem Ox.val (hd : dstOk n o.dst = true) (hg : wantedE ops E o.guard = some true) {v : Value} (hv : RunV P n E o [] w v) (h : Ox P n ds ops Q l (putE E o.dst v) w) : Ox P n ds ops Q (o :: l) E w :=
  Ox.act (K := fun u w' => u = v ∧ w' = w) hd hg (fun a ha _ => .inl ⟨v, w, hv a w (Ext.refl _ _) ha, rfl, rfl⟩) fun u w' ⟨h1, h2⟩ => by subst h1; subst h2; exact h

theorem Ox.skip (hd : dstOk n o.dst = true) (hg : wantedE ops E o.guard = some false) (h : Ox P n ds ops Q l (putE E o.dst undef) w) : Ox P n ds ops Q (o :: l) E w := by
  intro a ha hds
  have hw := wanted_of_E hg ha
  unfold listE
  rw [if_neg (by rw [hw]; simp)]
  exact h _ (ha.put hd undef) (by rw [put_defers]; exact hds)

end
end Go.Eng

/- The engine, part four: what each operation yields. -/
set_option linter.unusedVariables false
set_option linter.unusedSimpArgs false
namespace Go.Eng
open Go

section
variable {P : Program} {n : Nat} {ds : List Deferred} {ops : List Oper} {Q : PostE} {E : Env} {w : World} {o : Oper} {l : List Oper}

theorem Ox.pure (hd : dstOk n o.dst = true) (hg : wantedE ops E o.guard = some true) {v : Value} (hv : RunP P n E o v) (h : Ox P n ds ops Q l (putE E o.dst v) w) : Ox P n ds ops Q (o :: l) E w :=
  Ox.val hd hg (hv.runV []) h

def szOf (P : Program) (t : TypeId) : Option Nat := (P.info? t).map (·.size)
def byOf (P : Program) (t : TypeId) : Option Nat := (P.info? t).map (·.bytes)
def zrOf (P : Program) (t : TypeId) : Option Value := (P.info? t).bind (·.zero)
def aggOf (P : Program) (t : TypeId) : Option Bool := (P.underlying t).map fun d => match d with | .struct _ | .array _ _ => true | _ => false

theorem run_szOf {t m : Nat} (h : szOf P t = some m) (w : World) : (sizeOf t).run P w = .ok m w := by
  unfold szOf at h
  cases hi : P.info? t with
  | none => rw [hi] at h; cases h
  | some i => rw [hi] at h; simp at h; simp [sizeOf, typeInfo, hi, h]
theorem run_und {t : Nat} {d : TypeDesc} (h : P.underlying t = some d) (w : World) : (underlying t).run P w = .ok d w := by simp [underlying, h]
theorem run_agg {t : Nat} {b : Bool} (h : aggOf P t = some b) (w : World) : (isAgg t).run P w = .ok b w := by
  unfold aggOf at h
  cases hd : P.underlying t with
  | none => rw [hd] at h; cases h
  | some d =>
    rw [hd] at h
    simp only [Option.map_some, Option.some.injEq] at h
    unfold isAgg
    simp only [Sem.run_bind, run_und hd, Result.andThen_ok]
    cases d <;> simp at h <;> simp [← h]
theorem run_zero {t : Nat} {z : Value} (h : zrOf P t = some z) (w : World) : (zeroValue t).run P w = .ok z w := by
  unfold zrOf at h
  cases hi : P.info? t with
  | none => rw [hi] at h; cases h
  | some i => rw [hi] at h; simp at h; simp [zeroValue, typeInfo, hi, h]

theorem rp_move {x : Operand} {v : Value} (ho : o.op = .move x) (hx : ev E x = some v) : RunP P n E o v := by
  intro a u ha; simp [execOp, ho, ha.eval hx]
theorem rp_assign {x : Operand} {v : Value} (ho : o.op = .assign x) (hx : ev E x = some v) : RunP P n E o v := by
  intro a u ha; simp [execOp, ho, ha.eval hx]
theorem rp_pick_t {c x y : Operand} {v : Value} (ho : o.op = .pick c x y) (hc : ev E c = some (.bool true)) (hx : ev E x = some v) : RunP P n E o v := by
  intro a u ha; simp [execOp, ho, ha.eval hc, ha.eval hx, asBool]
theorem rp_pick_f {c x y : Operand} {v : Value} (ho : o.op = .pick c x y) (hc : ev E c = some (.bool false)) (hx : ev E y = some v) : RunP P n E o v := by
  intro a u ha; simp [execOp, ho, ha.eval hc, ha.eval hx, asBool]

/-! ### Numbers -/

def binI : BinOp → IntKind → Int → Int → Option Value
  | .add, k, a, b => some (.int k (k.wrap (a + b)))
  | .sub, k, a, b => some (.int k (k.wrap (a - b)))
  | .mul, k, a, b => some (.int k (k.wrap (a * b)))
  | .and, k, a, b => some (.int k (k.wrap (BitVec.ofInt k.bits a &&& BitVec.ofInt k.bits b).toNat))
  | .or, k, a, b => some (.int k (k.wrap (BitVec.ofInt k.bits a ||| BitVec.ofInt k.bits b).toNat))
  | .xor, k, a, b => some (.int k (k.wrap (BitVec.ofInt k.bits a ^^^ BitVec.ofInt k.bits b).toNat))
  | .eql, _, a, b => some (.bool (decide (a = b)))
  | .neq, _, a, b => some (.bool (decide (a ≠ b)))
  | .lss, _, a, b => some (.bool (decide (a < b)))
  | .leq, _, a, b => some (.bool (decide (a ≤ b)))
  | .gtr, _, a, b => some (.bool (decide (b < a)))
  | .geq, _, a, b => some (.bool (decide (b ≤ a)))
  | _, _, _, _ => none

theorem rp_bin {op : BinOp} {t t' : TypeId} {x y : Operand} {k : IntKind} {a b : Int} {v : Value} (ho : o.op = .binOp op t x y t') (hx : ev E x = some (.int k a)) (hy : ev E y = some (.int k b)) (hr : binI op k a b = some v) : RunP P n E o v := by
  intro f u hf
  have h1 := hf.eval hx
  have h2 := hf.eval hy
  have hg : ∀ op, eqGuard op t x y (.int k a) (.int k b) = Pure.pure () := fun op => by cases op <;> rfl
  simp only [execOp, ho, h1, h2, hg]
  cases op <;> simp only [binI, Option.some.injEq] at hr <;> first
    | (subst hr; simp [binOp, Op.intArith, Op.intBits, Op.intCmp]; done)
    | (subst hr; simp [binOp, Op.intArith, Op.intBits, Op.intCmp, bne]; done)
    | (cases hr; done)
    | (subst hr; simp [binOp, Op.intCmp]; rw [bne, Bool.beq_eq_decide_eq]; done)
    | (subst hr; simp only [binOp, ne_eq, not_true_eq_false, if_false, Op.intCmp]; simp [bne]; rfl)

theorem binI_fit_add {k : IntKind} {a b : Int} (h : k.wrap (a + b) = a + b) : binI .add k a b = some (.int k (a + b)) := by simp [binI, h]
theorem binI_fit_sub {k : IntKind} {a b : Int} (h : k.wrap (a - b) = a - b) : binI .sub k a b = some (.int k (a - b)) := by simp [binI, h]
theorem binI_fit_mul {k : IntKind} {a b : Int} (h : k.wrap (a * b) = a * b) : binI .mul k a b = some (.int k (a * b)) := by simp [binI, h]

theorem wrap64 {a : Int} (h : -9223372036854775808 ≤ a ∧ a ≤ 9223372036854775807) : IntKind.i64.wrap a = a := by
  unfold IntKind.wrap IntKind.bits IntKind.signed
  simp only
  obtain ⟨h1, h2⟩ := h
  by_cases h0 : 0 ≤ a
  · have h3 : a % (2 ^ 64 : Int) = a := Int.emod_eq_of_lt h0 (by omega)
    rw [h3]; simp; omega
  · have h3 : a % (2 ^ 64 : Int) = a + 2 ^ 64 := by omega
    rw [h3]; simp; omega
theorem wrapu64 {a : Int} (h : 0 ≤ a ∧ a ≤ 18446744073709551615) : IntKind.u64.wrap a = a := by
  unfold IntKind.wrap IntKind.bits IntKind.signed
  simp only
  have h3 : a % (2 ^ 64 : Int) = a := Int.emod_eq_of_lt h.1 (by omega)
  rw [h3]; simp
theorem wrapu8 {a : Int} (h : 0 ≤ a ∧ a ≤ 255) : IntKind.u8.wrap a = a := by
  unfold IntKind.wrap IntKind.bits IntKind.signed
  simp only
  have h3 : a % (2 ^ 8 : Int) = a := Int.emod_eq_of_lt h.1 (by omega)
  rw [h3]; simp
theorem wrapu32 {a : Int} (h : 0 ≤ a ∧ a ≤ 4294967295) : IntKind.u32.wrap a = a := by
  unfold IntKind.wrap IntKind.bits IntKind.signed
  simp only
  have h3 : a % (2 ^ 32 : Int) = a := Int.emod_eq_of_lt h.1 (by omega)
  rw [h3]; simp

theorem rp_shl {t t' : TypeId} {x y : Operand} {k k' : IntKind} {a b : Int} (m : Nat) (ho : o.op = .binOp .shl t x y t') (hx : ev E x = some (.int k a)) (hy : ev E y = some (.int k' b)) (hm : 0 ≤ b ∧ min b.toNat k.bits = m) :
    RunP P n E o (.int k (k.wrap (a * 2 ^ m))) := by
  intro f u hf
  have h3 : ¬ b < 0 := by omega
  simp [execOp, ho, hf.eval hx, hf.eval hy, eqGuard, binOp, Op.shift, h3, hm.2]
theorem rp_shr {t t' : TypeId} {x y : Operand} {k k' : IntKind} {a b : Int} (m : Nat) (ho : o.op = .binOp .shr t x y t') (hx : ev E x = some (.int k a)) (hy : ev E y = some (.int k' b)) (hm : 0 ≤ b ∧ min b.toNat k.bits = m) :
    RunP P n E o (.int k (a.fdiv (2 ^ m))) := by
  intro f u hf
  have h3 : ¬ b < 0 := by omega
  simp [execOp, ho, hf.eval hx, hf.eval hy, eqGuard, binOp, Op.shift, h3, hm.2]
theorem rp_quo {t t' : TypeId} {x y : Operand} {k : IntKind} {a b : Int} (ho : o.op = .binOp .quo t x y t') (hx : ev E x = some (.int k a)) (hy : ev E y = some (.int k b)) (hb : b ≠ 0) :
    RunP P n E o (.int k (k.wrap (a.tdiv b))) := by
  intro f u hf
  simp [execOp, ho, hf.eval hx, hf.eval hy, eqGuard, binOp, Op.intDiv, hb]
theorem rp_rem {t t' : TypeId} {x y : Operand} {k : IntKind} {a b : Int} (ho : o.op = .binOp .rem t x y t') (hx : ev E x = some (.int k a)) (hy : ev E y = some (.int k b)) (hb : b ≠ 0) :
    RunP P n E o (.int k (a.tmod b)) := by
  intro f u hf
  simp [execOp, ho, hf.eval hx, hf.eval hy, eqGuard, binOp, Op.intDiv, hb]
theorem rp_not {t : TypeId} {x : Operand} {b : Bool} (ho : o.op = .unOp .not t x) (hx : ev E x = some (.bool b)) : RunP P n E o (.bool (!b)) := by
  intro f u hf; simp [execOp, ho, hf.eval hx, Op.unary]
theorem rp_neg {t : TypeId} {x : Operand} {k : IntKind} {a : Int} (ho : o.op = .unOp .neg t x) (hx : ev E x = some (.int k a)) : RunP P n E o (.int k (k.wrap (0 - a))) := by
  intro f u hf; simp [execOp, ho, hf.eval hx, Op.unary, Op.intArith]
theorem rp_conv {s t : TypeId} {x : Operand} {k k' : IntKind} {a : Int} {d : TypeDesc} (ho : o.op = .convert s t x) (hs : P.underlying s = some d) (ht : P.underlying t = some (.int k')) (hx : ev E x = some (.int k a)) :
    RunP P n E o (.int k' (k'.wrap a)) := by
  intro f u hf; simp [execOp, ho, hf.eval hx, convert, run_und hs, run_und ht, Conv.intToInt]

/-! ### Booleans and strings -/

theorem run_eq_bool {t : TypeId} (ht : P.underlying t = some .bool) (a b : Bool) (u : World) : (Op.equal t (.bool a) (.bool b)).run P u = .ok (a == b) u := by
  unfold Op.equal Op.maxDepth
  rw [Op.equalIn]
  simp only [Sem.run_bind, run_und ht, Result.andThen_ok, Sem.run_pure]
theorem rp_eqb {t t' : TypeId} {x y : Operand} {a b : Bool} (ho : o.op = .binOp .eql t x y t') (ht : P.underlying t = some .bool) (hx : ev E x = some (.bool a)) (hy : ev E y = some (.bool b)) : RunP P n E o (.bool (a == b)) := by
  intro f u hf
  have hg : ∀ op, eqGuard op t x y (.bool a) (.bool b) = Pure.pure () := fun op => by cases op <;> rfl
  simp only [execOp, ho, hf.eval hx, hf.eval hy, hg, binOp, pure_bind, Sem.run_bind, run_eq_bool ht, Result.andThen_ok, Sem.run_pure]
theorem rp_neb {t t' : TypeId} {x y : Operand} {a b : Bool} (ho : o.op = .binOp .neq t x y t') (ht : P.underlying t = some .bool) (hx : ev E x = some (.bool a)) (hy : ev E y = some (.bool b)) : RunP P n E o (.bool (!(a == b))) := by
  intro f u hf
  have hg : ∀ op, eqGuard op t x y (.bool a) (.bool b) = Pure.pure () := fun op => by cases op <;> rfl
  simp only [execOp, ho, hf.eval hx, hf.eval hy, hg, binOp, pure_bind, Sem.run_bind, run_eq_bool ht, Result.andThen_ok, Sem.run_pure]

def binS : BinOp → ByteArray → ByteArray → Option Value
  | .eql, x, y => some (.bool (x.toList == y.toList))
  | .neq, x, y => some (.bool (!(x.toList == y.toList)))
  | .lss, x, y => some (.bool (Op.bytesLess x.toList y.toList))
  | .leq, x, y => some (.bool (Op.bytesLess x.toList y.toList || x.toList == y.toList))
  | .gtr, x, y => some (.bool !(Op.bytesLess x.toList y.toList || x.toList == y.toList))
  | .geq, x, y => some (.bool (!Op.bytesLess x.toList y.toList))
  | _, _, _ => none
theorem rp_binS {op : BinOp} {t t' : TypeId} {x y : Operand} {a b : ByteArray} {v : Value} (ho : o.op = .binOp op t x y t') (hx : ev E x = some (.string a)) (hy : ev E y = some (.string b)) (hr : binS op a b = some v) : RunP P n E o v := by
  intro f u hf
  have hg : ∀ op, eqGuard op t x y (.string a) (.string b) = Pure.pure () := fun op => by cases op <;> rfl
  simp only [execOp, ho, hf.eval hx, hf.eval hy, hg]
  cases op <;> simp only [binS, Option.some.injEq] at hr <;> first
    | (subst hr; simp [binOp, Op.stringOp]; done)
    | (cases hr; done)
theorem rp_addS {t t' : TypeId} {x y : Operand} {a b : ByteArray} (ho : o.op = .binOp .add t x y t') (hx : ev E x = some (.string a)) (hy : ev E y = some (.string b)) (hr : a.size + b.size ≤ 9223372036854775807) : RunP P n E o (.string (a ++ b)) := by
  intro f u hf
  have h1 : ¬ ((a.size + b.size : Nat) : Int) > 9223372036854775807 := by omega
  simp [execOp, ho, hf.eval hx, hf.eval hy, eqGuard, binOp, Op.stringOp] at *
  omega

/-! ### Tuples, functions, interfaces -/

theorem rp_extract {x : Operand} {i : Nat} {vs : Array Value} {v : Value} (ho : o.op = .extract x i) (hx : ev E x = some (.tuple vs)) (hi : vs[i]? = some v) : RunP P n E o v := by
  intro f u hf; simp [execOp, ho, hf.eval hx, Instr.extract, hi]
theorem rp_nilP {x : Operand} {A : Addr} (ho : o.op = .nilCheck x) (hx : ev E x = some (.pointer (some A))) : RunP P n E o (.pointer (some A)) := by
  intro f u hf; simp [execOp, ho, hf.eval hx]
theorem rp_nilF {x : Operand} {g : FuncId} {first cap : Array Value} (ho : o.op = .nilCheck x) (hx : ev E x = some (.func (.func g) first cap)) : RunP P n E o (.func (.func g) first cap) := by
  intro f u hf; simp [execOp, ho, hf.eval hx]
theorem rp_makeFunc {fn : Fn} {first cap : Array Operand} {vf vc : List Value} (ho : o.op = .makeFunc fn first cap) (hf' : evs E first.toList = some vf) (hc : evs E cap.toList = some vc) : RunP P n E o (.func fn vf.toArray vc.toArray) := by
  intro f u hf
  have h1 : first.map f.eval = vf.toArray := by rw [← hf.evals hf']; apply Array.ext'; rw [Array.toList_map]
  have h2 : cap.map f.eval = vc.toArray := by rw [← hf.evals hc]; apply Array.ext'; rw [Array.toList_map]
  simp [execOp, ho, Instr.makeFunc, h1, h2]
theorem rp_iface {t : TypeId} {x : Operand} {v : Value} {d : TypeDesc} (ho : o.op = .makeInterface t x) (ht : P.underlying t = some d) (hn : (match d with | .interface _ => false | _ => true) = true) (hx : ev E x = some v) : RunP P n E o (.iface t v) := by
  intro f u hf
  simp only [execOp, ho, hf.eval hx, Instr.makeInterface, Sem.run_bind, run_und ht, Result.andThen_ok]
  cases d <;> simp at hn <;> simp

/-! ### Addresses -/

theorem addr_add_add (A : Addr) (i j : Nat) : (A.add i).add j = A.add (i + j) := by
  unfold Addr.add
  by_cases hi : i = 0
  · subst hi; simp
  · by_cases hj : j = 0
    · subst hj; simp [hi]
    · have h : i + j ≠ 0 := by omega
      simp [hi, hj, Nat.add_assoc]
theorem addr_block (A : Addr) (i : Nat) : (A.add i).block = A.block := by unfold Addr.add; split <;> rfl

def fieldOf (P : Program) (t : TypeId) (i : Nat) : Option (TypeId × Nat) :=
  match P.underlying t with
  | some (.struct fs) => (fs[i]?).map fun f => (f.type, f.offset)
  | _ => none
theorem fieldOf_some {t : TypeId} {i : Nat} {ft off : Nat} (h : fieldOf P t i = some (ft, off)) : ∃ fs f, P.underlying t = some (.struct fs) ∧ fs[i]? = some f ∧ f.type = ft ∧ f.offset = off := by
  unfold fieldOf at h
  split at h
  · rename_i fs hfs
    cases hf : fs[i]? with
    | none => rw [hf] at h; cases h
    | some f => rw [hf] at h; simp at h; exact ⟨fs, f, hfs, hf, h.1, h.2⟩
  · cases h

theorem rp_fieldAddr {t : TypeId} {x : Operand} {i : Nat} {A : Addr} {ft off m : Nat} (ho : o.op = .fieldAddr t x i) (hf' : fieldOf P t i = some (ft, off)) (hm : szOf P ft = some (m + 1)) (hx : ev E x = some (.pointer (some A))) :
    RunP P n E o (.pointer (some (A.add off))) := by
  intro f u hf
  obtain ⟨fs, g, h1, h2, h3, h4⟩ := fieldOf_some hf'
  subst h3; subst h4
  simp [execOp, ho, hf.eval hx, Instr.fieldAt, run_und h1, h2, Instr.sureAddr, fieldPlace, run_szOf hm]

theorem rp_indexAddr {t e : TypeId} {x y : Operand} {k : IntKind} {i : Int} {p : Option Addr} {A : Addr} {len cap m : Nat} (j : Nat) (ho : o.op = .indexAddr t x y) (ht : P.underlying t = some (.slice e)) (hm : szOf P e = some m)
    (hx : ev E x = some (.slice p len cap)) (hy : ev E y = some (.int k i)) (hp : 0 < len → p = some A) (hj : i = (j : Int)) (hi : j < len) : RunP P n E o (.pointer (some (A.add (j * m)))) := by
  intro f u hf
  have hpA := hp (by omega)
  subst hj
  have h1 : ¬ (len : Int) ≤ j := by omega
  subst hpA
  simp [execOp, ho, hf.eval hx, hf.eval hy, Instr.indexAt, asIntOf, run_und ht, run_szOf hm]
  omega

theorem rp_indexArr {t e : TypeId} {x y : Operand} {k : IntKind} {i : Int} {A : Addr} {len m : Nat} (j : Nat) (ho : o.op = .indexAddr t x y) (ht : P.underlying t = some (.array len e)) (hm : szOf P e = some m)
    (hx : ev E x = some (.pointer (some A))) (hy : ev E y = some (.int k i)) (hj : i = (j : Int)) (hi : j < len) : RunP P n E o (.pointer (some (A.add (j * m)))) := by
  intro f u hf
  subst hj
  simp [execOp, ho, hf.eval hx, hf.eval hy, Instr.indexAt, asIntOf, run_und ht, run_szOf hm, Instr.sureAddr]
  omega

/-! ### Lengths -/

def cfor (o : Oper) (b : Builtin) (xs : List Operand) (ts : List TypeId) : Prop := o.op = .call { callee := .builtin b, args := xs.toArray, argTypes := ts.toArray }

theorem rp_lenS {x : Operand} {t e : TypeId} {p : Option Addr} {len cap : Nat} (ho : o.op = .call { callee := .builtin .len, args := #[x], argTypes := #[t] }) (ht : P.underlying t = some (.slice e)) (hx : ev E x = some (.slice p len cap)) :
    RunP P n E o (.int .i64 len) := by
  intro f u hf; simp [execOp, ho, resolve, invoke, builtin, hf.eval hx, Builtin.len_, run_und ht, goInt]
theorem rp_lenT {x : Operand} {t : TypeId} {s : ByteArray} (ho : o.op = .call { callee := .builtin .len, args := #[x], argTypes := #[t] }) (ht : P.underlying t = some .string) (hx : ev E x = some (.string s)) :
    RunP P n E o (.int .i64 s.size) := by
  intro f u hf; simp [execOp, ho, resolve, invoke, builtin, hf.eval hx, Builtin.len_, run_und ht, goInt]
theorem rp_lenA {x : Operand} {t e : TypeId} {m : Nat} {v : Value} (ho : o.op = .call { callee := .builtin .len, args := #[x], argTypes := #[t] }) (ht : P.underlying t = some (.array m e)) (hx : ev E x = some v) :
    RunP P n E o (.int .i64 m) := by
  intro f u hf; simp [execOp, ho, resolve, invoke, builtin, hf.eval hx, Builtin.len_, run_und ht, goInt]
theorem rp_max {x y : Operand} {t t' : TypeId} {k : IntKind} {a b : Int} (ho : o.op = .call { callee := .builtin .max, args := #[x, y], argTypes := #[t, t'] }) (hx : ev E x = some (.int k a)) (hy : ev E y = some (.int k b)) :
    RunP P n E o (.int k (max a b)) := by
  intro f u hf
  have : (if a < b then b else a) = max a b := by split <;> omega
  simp [execOp, ho, resolve, invoke, builtin, hf.eval hx, hf.eval hy, Builtin.max_, Builtin.max2, this]
theorem rp_min {x y : Operand} {t t' : TypeId} {k : IntKind} {a b : Int} (ho : o.op = .call { callee := .builtin .min, args := #[x, y], argTypes := #[t, t'] }) (hx : ev E x = some (.int k a)) (hy : ev E y = some (.int k b)) :
    RunP P n E o (.int k (min a b)) := by
  intro f u hf
  have : (if b < a then b else a) = min a b := by split <;> omega
  simp [execOp, ho, resolve, invoke, builtin, hf.eval hx, hf.eval hy, Builtin.min_, Builtin.min2, this]

/-! ### Slicing -/

theorem run_bound {x : Value} {k : IntKind} {i y : Nat} {c : BoundsCode} (hx : x = .int k (i : Int)) (hi : i ≤ y) (w : World) : (Instr.sliceBound x y c).run P w = .ok i w := by
  subst hx; simp [Instr.sliceBound, asIntOf]; omega

def optE (E : Env) : Option Operand → Option (Option Value)
  | none => some none
  | some x => (ev E x).map some

theorem optE_eval {a : Act} (ha : Agr n E a) {x : Option Operand} {v : Option Value} (h : optE E x = some v) : x.map a.eval = v := by
  cases x with
  | none => simpa [optE] using h
  | some x =>
    simp only [optE] at h
    cases hx : ev E x with
    | none => rw [hx] at h; cases h
    | some u => rw [hx] at h; simp at h; simp [ha.eval hx, h]

/-- x[lo:hi] of a slice. -/
theorem rp_sliceS {t e : TypeId} {x : Operand} {lo hi : Option Operand} {vl vh : Option Value} {p : Option Addr} {len cap m : Nat} (i j : Nat) (ho : o.op = .slice t x lo hi none) (ht : P.underlying t = some (.slice e)) (hm : szOf P e = some m)
    (hx : ev E x = some (.slice p len cap)) (hl : optE E lo = some vl) (hh : optE E hi = some vh)
    (hi' : (vl = none ∧ i = 0) ∨ ∃ k, vl = some (.int k (i : Int))) (hj' : (vh = none ∧ j = len) ∨ ∃ k, vh = some (.int k (j : Int))) (hij : i ≤ j) (hjc : j ≤ cap) :
    RunP P n E o (.slice (if cap = i then p else p.map (·.add (i * m))) (j - i) (cap - i)) := by
  intro f u hf
  have hb : ∀ u, (Instr.sliceBounds true len cap vl vh none).run P u = .ok (i, j, cap) u := by
    intro u
    unfold Instr.sliceBounds
    rcases hi' with ⟨rfl, rfl⟩ | ⟨k, rfl⟩ <;> rcases hj' with ⟨rfl, rfl⟩ | ⟨k', rfl⟩ <;> simp [run_bound rfl hij, run_bound rfl hjc]
  simp [execOp, ho, hf.eval hx, optE_eval hf hl, optE_eval hf hh, Instr.sliceAt, Instr.slice, run_und ht, run_szOf hm, hb]
/-- x[lo:hi:max] of a slice. -/
theorem rp_slice3 {t e : TypeId} {x : Operand} {lo hi mx : Option Operand} {vl vh vm : Option Value} {p : Option Addr} {len cap m : Nat} (i j c : Nat) (ho : o.op = .slice t x lo hi mx) (ht : P.underlying t = some (.slice e)) (hm : szOf P e = some m)
    (hx : ev E x = some (.slice p len cap)) (hl : optE E lo = some vl) (hh : optE E hi = some vh) (hmx : optE E mx = some vm)
    (hi' : (vl = none ∧ i = 0) ∨ ∃ k, vl = some (.int k (i : Int))) (hj' : ∃ k, vh = some (.int k (j : Int))) (hc' : ∃ k, vm = some (.int k (c : Int))) (hij : i ≤ j) (hjc : j ≤ c) (hcc : c ≤ cap) :
    RunP P n E o (.slice (if c = i then p else p.map (·.add (i * m))) (j - i) (c - i)) := by
  intro f u hf
  have hb : ∀ u, (Instr.sliceBounds true len cap vl vh vm).run P u = .ok (i, j, c) u := by
    intro u
    unfold Instr.sliceBounds
    obtain ⟨k', rfl⟩ := hj'
    obtain ⟨k'', rfl⟩ := hc'
    rcases hi' with ⟨rfl, rfl⟩ | ⟨k, rfl⟩ <;> simp [run_bound rfl hij, run_bound rfl hjc, run_bound rfl hcc]
  simp [execOp, ho, hf.eval hx, optE_eval hf hl, optE_eval hf hh, optE_eval hf hmx, Instr.sliceAt, Instr.slice, run_und ht, run_szOf hm, hb]
/-- s[lo:hi] of a string. -/
theorem rp_sliceT {t : TypeId} {x : Operand} {lo hi : Option Operand} {vl vh : Option Value} {s : ByteArray} (i j : Nat) (ho : o.op = .slice t x lo hi none) (ht : P.underlying t = some .string)
    (hx : ev E x = some (.string s)) (hl : optE E lo = some vl) (hh : optE E hi = some vh)
    (hi' : (vl = none ∧ i = 0) ∨ ∃ k, vl = some (.int k (i : Int))) (hj' : (vh = none ∧ j = s.size) ∨ ∃ k, vh = some (.int k (j : Int))) (hij : i ≤ j) (hjc : j ≤ s.size) :
    RunP P n E o (.string (s.extract i j)) := by
  intro f u hf
  have hb : ∀ u, (Instr.sliceBounds false s.size s.size vl vh none).run P u = .ok (i, j, s.size) u := by
    intro u
    unfold Instr.sliceBounds
    rcases hi' with ⟨rfl, rfl⟩ | ⟨k, rfl⟩ <;> rcases hj' with ⟨rfl, rfl⟩ | ⟨k', rfl⟩ <;> simp [run_bound rfl hij, run_bound rfl hjc]
  simp [execOp, ho, hf.eval hx, optE_eval hf hl, optE_eval hf hh, Instr.sliceAt, Instr.slice, run_und ht, hb]
/-- a[lo:hi] of an array. -/
theorem rp_sliceA {t e : TypeId} {x : Operand} {lo hi : Option Operand} {vl vh : Option Value} {A : Addr} {len m : Nat} (i j : Nat) (ho : o.op = .slice t x lo hi none) (ht : P.underlying t = some (.array len e)) (hm : szOf P e = some m)
    (hx : ev E x = some (.pointer (some A))) (hl : optE E lo = some vl) (hh : optE E hi = some vh)
    (hi' : (vl = none ∧ i = 0) ∨ ∃ k, vl = some (.int k (i : Int))) (hj' : (vh = none ∧ j = len) ∨ ∃ k, vh = some (.int k (j : Int))) (hij : i ≤ j) (hjc : j ≤ len) :
    RunP P n E o (.slice (some (if len = i then A else A.add (i * m))) (j - i) (len - i)) := by
  intro f u hf
  have hb : ∀ u, (Instr.sliceBounds false len len vl vh none).run P u = .ok (i, j, len) u := by
    intro u
    unfold Instr.sliceBounds
    rcases hi' with ⟨rfl, rfl⟩ | ⟨k, rfl⟩ <;> rcases hj' with ⟨rfl, rfl⟩ | ⟨k', rfl⟩ <;> simp [run_bound rfl hij, run_bound rfl hjc]
  simp [execOp, ho, hf.eval hx, optE_eval hf hl, optE_eval hf hh, Instr.sliceAt, Instr.sureAddr, run_und ht, run_szOf hm, hb]

end
end Go.Eng

/- The engine, part five: memory. Cells at an address; rows of the call's own; what allocates, loads, stores, appends, copies, calls. -/
set_option linter.unusedVariables false
set_option linter.unusedSimpArgs false
namespace Go.Eng
open Go

/-- The cells from A on. -/
def Cells (w : World) (A : Addr) (cs : List Value) : Prop := ∀ i v, cs[i]? = some v → w.cell? (A.add i) = some v

section
variable {P : Program} {n : Nat} {ds : List Deferred} {ops : List Oper} {Q : PostE} {E : Env} {w w' : World} {o : Oper} {l : List Oper} {A : Addr} {cs : List Value} {X : List Nat}

theorem addr_lit (b i : Nat) : (⟨b, 0, none⟩ : Addr).add i = ⟨b, i, none⟩ := by
  unfold Addr.add
  split
  · rename_i h; rw [h]
  · simp

theorem Cells.ext (h : Cells w A cs) (he : Ext X w w') (hx : A.block ∉ X) : Cells w' A cs := fun i v hi => he.cell (h i v hi) (by rw [addr_block]; exact hx)
theorem Cells.take (h : Cells w A cs) (k : Nat) : Cells w A (cs.take k) := fun i v hi => by
  rw [List.getElem?_take] at hi
  split at hi
  · exact h i v hi
  · cases hi
theorem Cells.ext0 (h : Cells w A cs) (he : Ext [] w w') : Cells w' A cs := h.ext he (by simp)
theorem Cells.part (h : Cells w A cs) {off m : Nat} {cs' : List Value} (hc : (cs.drop off).take m = cs') : Cells w (A.add off) cs' := fun i v hi => by
  rw [addr_add_add]
  refine h (off + i) v ?_
  rw [← hc, List.getElem?_take] at hi
  split at hi
  · rw [List.getElem?_drop] at hi; exact hi
  · cases hi
theorem Cells.drop (h : Cells w A cs) (k : Nat) : Cells w (A.add k) (cs.drop k) := h.part (off := k) (m := (cs.drop k).length) (by rw [List.take_length])
theorem addr_add0 (A : Addr) : A.add 0 = A := by simp [Addr.add]
theorem cells_nil (w : World) (A : Addr) : Cells w A [] := fun i v hi => by simp at hi
theorem Cells.lt (h : Cells w A cs) (hne : cs ≠ []) : A.block < w.heap.size := by
  cases cs with
  | nil => exact absurd rfl hne
  | cons v r =>
    have := h 0 v rfl
    exact World.block_lt_of_cell? w A (by simpa [Addr.add] using this)

/-! ### Loads -/

theorem ld_cell {t : TypeId} {v : Value} (ht : aggOf P t = some false) (hc : w.cell? A = some v) : Ld P w t A v := by
  simp [Ld, loadVar, run_agg ht, hc]
theorem ld_agg {t : TypeId} (ht : aggOf P t = some true) (hm : szOf P t = some cs.length) (hc : Cells w A cs) : Ld P w t A (.agg cs.toArray) := by
  have := run_loadCells_list (P := P) w A cs (fun j v hj => hc j v hj)
  simp [Ld, loadVar, run_agg ht, run_szOf hm, this]

theorem Cells.ld {t : TypeId} {v : Value} (h : Cells w A cs) (off : Nat) (ht : aggOf P t = some false) (hi : cs[off]? = some v) : Ld P w t (A.add off) v := ld_cell ht (h off v hi)
theorem Cells.ld0 {t : TypeId} {v : Value} (h : Cells w A cs) (ht : aggOf P t = some false) (hi : cs[0]? = some v) : Ld P w t A v := ld_cell ht (by simpa [Addr.add] using h 0 v hi)
theorem Cells.ldA {t : TypeId} (h : Cells w A cs) (ht : aggOf P t = some true) (hm : szOf P t = some cs.length) : Ld P w t A (.agg cs.toArray) := ld_agg ht hm h
theorem Cells.ldL {t m : TypeId} (h : Cells w A cs) (ht : aggOf P t = some true) (hm : szOf P t = some m) (hl : cs.length = m) : Ld P w t A (.agg cs.toArray) := ld_agg ht (hl ▸ hm) h
theorem Cells.ldP {t m : TypeId} {cs' : List Value} (h : Cells w A cs) (off : Nat) (ht : aggOf P t = some true) (hm : szOf P t = some m) (hc : (cs.drop off).take m = cs') (hl : cs'.length = m) : Ld P w t (A.add off) (.agg cs'.toArray) :=
  ld_agg ht (by rw [hm, hl]) (h.part hc)

theorem Cells.l1 {u : World} {t : TypeId} {v : Value} (h : Cells w A cs) (he : Ext [] w u) (off : Nat) (ht : aggOf P t = some false) (hi : cs[off]? = some v) : Ld P u t (A.add off) v := (h.ext0 he).ld off ht hi
theorem Cells.l0 {u : World} {t : TypeId} {v : Value} (h : Cells w A cs) (he : Ext [] w u) (ht : aggOf P t = some false) (hi : cs[0]? = some v) : Ld P u t A v := (h.ext0 he).ld0 ht hi
theorem Cells.lA {u : World} {t : TypeId} (h : Cells w A cs) (he : Ext [] w u) (ht : aggOf P t = some true) (hm : szOf P t = some cs.length) : Ld P u t A (.agg cs.toArray) := (h.ext0 he).ldA ht hm
theorem Cells.lL {u : World} {t m : TypeId} (h : Cells w A cs) (he : Ext [] w u) (ht : aggOf P t = some true) (hm : szOf P t = some m) (hl : cs.length = m) : Ld P u t A (.agg cs.toArray) := (h.ext0 he).ldL ht hm hl
theorem Cells.lP {u : World} {t m : TypeId} {cs' : List Value} (h : Cells w A cs) (he : Ext [] w u) (off : Nat) (ht : aggOf P t = some true) (hm : szOf P t = some m) (hc : (cs.drop off).take m = cs') (hl : cs'.length = m) : Ld P u t (A.add off) (.agg cs'.toArray) := (h.ext0 he).ldP off ht hm hc hl

theorem rv_load {t : TypeId} {x : Operand} {v : Value} (ho : o.op = .load t x) (hx : ev E x = some (.pointer (some A))) (h : ∀ u, Ext X w u → Ld P u t A v) : RunV P n E o X w v := by
  intro a u hu ha
  have := h u hu
  unfold Ld at this
  simp [execOp, ho, ha.eval hx, Instr.loadAt, Instr.sureAddr, this]

/-! ### New memory -/

/-- A block is known whole. -/
def Blk (w : World) (b : Nat) (t : TypeId) (cs : List Value) : Prop := w.heap[b]? = some (.cells cs.toArray t (0, 0))

theorem Blk.cells {b : Nat} {t : TypeId} (h : Blk w b t cs) : Cells w ⟨b, 0, none⟩ cs := fun i v hi => by
  have hadd : (⟨b, 0, none⟩ : Addr).add i = ⟨b, i, none⟩ := by unfold Addr.add; split <;> simp_all
  rw [hadd]
  unfold Blk at h
  simp [World.cell?, h, hi]
theorem Blk.ext {b : Nat} {t : TypeId} (h : Blk w b t cs) (he : Ext X w w') (hx : b ∉ X) : Blk w' b t cs := by
  unfold Blk at *
  have hlt : b < w.heap.size := by
    rcases Nat.lt_or_ge b w.heap.size with h1 | h1
    · exact h1
    · rw [Array.getElem?_eq_none h1] at h; cases h
  rw [he.keep b hlt hx]; exact h
theorem Blk.lt {b : Nat} {t : TypeId} (h : Blk w b t cs) : b < w.heap.size := by
  rcases Nat.lt_or_ge b w.heap.size with h1 | h1
  · exact h1
  · unfold Blk at h; rw [Array.getElem?_eq_none h1] at h; cases h
theorem Blk.push (w : World) (t : TypeId) (cs : List Value) : Blk { w with heap := w.heap.push (.cells cs.toArray t) } w.heap.size t cs := by simp [Blk]

/-- A new block, and where it lies. -/
abbrev NewBlk (w : World) (t : TypeId) (cs : List Value) : Value → World → Prop := fun v w' => Ext [] w w' ∧ ∃ b, v = .pointer (some ⟨b, 0, none⟩) ∧ w.heap.size ≤ b ∧ Blk w' b t cs

theorem acts_box {t : TypeId} {x : Operand} {v : Value} (ho : o.op = .box t x) (hx : ev E x = some v) : Acts P n ds E o w (NewBlk w t v.cells.toList) Q := by
  intro a ha _
  refine .inl ⟨_, { w with heap := w.heap.push (.cells v.cells t) }, ?_, Ext.push _ _ _, w.heap.size, rfl, Nat.le_refl _, ?_⟩
  · simp [execOp, ho, ha.eval hx, Instr.box, newVar, newRow]
  · have := Blk.push w t v.cells.toList
    simpa using this
theorem acts_alloc {t : TypeId} {z : Value} (ho : o.op = .alloc t) (hz : zrOf P t = some z) : Acts P n ds E o w (NewBlk w t z.cells.toList) Q := by
  intro a ha _
  refine .inl ⟨_, { w with heap := w.heap.push (.cells z.cells t) }, ?_, Ext.push _ _ _, w.heap.size, rfl, Nat.le_refl _, ?_⟩
  · simp [execOp, ho, Instr.alloc, run_zero hz, newVar, newRow]
  · have := Blk.push w t z.cells.toList
    simpa using this

/-! ### Stores into a block that is known whole -/

/-- cs with the cells from off on written over. -/
def over (cs : List Value) (off : Nat) (news : List Value) : List Value := cs.take off ++ news ++ cs.drop (off + news.length)

theorem over_length {off : Nat} {news : List Value} (h : off + news.length ≤ cs.length) : (over cs off news).length = cs.length := by simp [over]; omega

theorem setRow_ext (w : World) (b : Nat) (c : Array Value) (hX : b ∈ X) : Ext X w (w.setRow b c) :=
  ⟨rfl, rfl, rfl, by simp, fun k _ hk => setRow_other w b k _ (fun e => hk (e ▸ hX)), Nat.le_refl _⟩

theorem acts_store {t : TypeId} {x y : Operand} {v : Value} {b off : Nat} {bt : TypeId} (ho : o.op = .store t x y) (hx : ev E x = some (.pointer (some A))) (hA : A = (⟨b, 0, none⟩ : Addr).add off) (hy : ev E y = some v)
    (hm : szOf P t = some v.cells.size) (hB : Blk w b bt cs) (hfit : off + v.cells.size ≤ cs.length) (h1 : ∀ u ∈ v.cells.toList, u.oneCell' = true) :
    Acts P n ds E o w (fun u w' => u = undef ∧ Ext [b] w w' ∧ Blk w' b bt (over cs off v.cells.toList)) Q := by
  intro a ha _
  have hadd : A = ⟨b, off, none⟩ := by rw [hA]; unfold Addr.add; split <;> simp_all
  have hst := run_storeCells_at P b off bt v.cells.toList 0 cs.toArray w hB (by simpa using hfit) h1
  simp only [Nat.add_zero] at hst
  refine .inr (.inl ⟨w.setRow b (cs.take off ++ v.cells.toList ++ cs.drop (off + v.cells.toList.length)).toArray, ?_, rfl, setRow_ext w b _ (by simp), ?_⟩)
  · simp only [execOp, ho, ha.eval hx, ha.eval hy, Instr.storeAt, Instr.sureAddr, storeVar, Sem.run_bind, Sem.run_pure, Result.andThen_ok, run_szOf hm, ne_eq, not_true_eq_false, if_false, hadd, hst]
  · unfold Blk over
    have := setRow_heap w b cs.toArray (cs.take off ++ v.cells.toList ++ cs.drop (off + v.cells.toList.length)).toArray bt _ hB
    simpa using this

theorem over_all {news : List Value} (h : cs.length = news.length) : over cs 0 news = news := by simp [over, h]
/-- A whole block is written over. -/
theorem acts_store_all {t : TypeId} {x y : Operand} {v : Value} {b m : Nat} {bt : TypeId} (ho : o.op = .store t x y) (hx : ev E x = some (.pointer (some ⟨b, 0, none⟩))) (hy : ev E y = some v)
    (hB : Blk w b bt cs) (hm : szOf P t = some m) (hl : v.cells.size = m) (hcs : cs.length = m) (h1 : ∀ u ∈ v.cells.toList, u.oneCell' = true) :
    Acts P n ds E o w (fun u w' => u = undef ∧ Ext [b] w w' ∧ Blk w' b bt v.cells.toList) Q := by
  have h := acts_store (Q := Q) (ds := ds) (n := n) (off := 0) ho hx (addr_lit b 0).symm hy (hl ▸ hm) hB (by omega) h1
  rwa [over_all (by simp; omega)] at h
theorem Blk.cellsL {b : Nat} {t : TypeId} {c : List Value} (h : Blk w b t (Value.agg c.toArray).cells.toList) : Cells w ⟨b, 0, none⟩ c := h.cells
/-- What a new block's writing over leaves alone. -/
theorem Ext.renew {w0 : World} {b : Nat} (h0 : Ext [] w0 w) (h : Ext [b] w w') (hb : w0.heap.size ≤ b) : Ext [] w0 w' :=
  (h0.up.trans h).fresh (fun k hk => by simp at hk; omega)

/-! ### Slices -/

/-- A slice whose elements take sz cells each: n of them, the cells cs. -/
def Sl (w : World) (p : Option Addr) (A : Addr) (len : Nat) (cs : List Value) : Prop := (0 < len → p = some A) ∧ Cells w A cs

theorem Sl.ext0 {p : Option Addr} {len : Nat} (h : Sl w p A len cs) (he : Ext [] w w') : Sl w' p A len cs := ⟨h.1, h.2.ext0 he⟩

/-- What a source of append or copy yields. -/
structure Source (P : Program) (size : Nat) (tx : TypeId) (x : Value) (m : Nat) (news : List Value) (w : World) : Prop where
  src : Src P size tx x m news w

theorem source_slice {size : Nat} {tx e' : TypeId} {p : Option Addr} {m c : Nat} {news : List Value} (hk : P.underlying tx = some (.slice e')) (hl : news.length = m * size) (hp : 0 < m → p = some A) (hc : Cells w A news) (h1 : ∀ u ∈ news, u.oneCell' = true) :
    Src P size tx (.slice p m c) m news w := by
  rcases Nat.eq_zero_or_pos m with h0 | h0
  · subst h0
    have hn : news = [] := List.eq_nil_of_length_eq_zero (by simpa using hl)
    subst hn
    cases p with
    | none => exact Src.ofNil w hk c
    | some a => exact Src.ofSlice w hk a 0 c [] (by simp) (by simp) (by simp)
  · rw [hp h0]
    exact Src.ofSlice w hk A m c news hl hc h1

/-- append onto a row of the call's own. -/
theorem run_append_src (base : Nat) (t tx ty e : TypeId) (i : TypeInfo) (z : Value) (size bytes : Nat) (ht : P.underlying t = some (.slice e)) (hi : P.info? e = some i) (hz : i.zero = some z)
    (hsize : i.size = size) (hby : i.bytes = bytes) (hzs : z.cells.size = size) (hsz : 0 < size)
    (v : Value) (m : Nat) (xs : List Value) (k : Nat) (hown : w.ownsRow base e size v k xs)
    (x : Value) (news : List Value) (hs : Src P size tx x m news w)
    (h63 : k + m ≤ maxLen) (hbytes : (k + m) * bytes ≤ 140737488355328) (hbase : base ≤ w.heap.size) :
    ∃ v' w', (Builtin.append_ #[t, tx] ty #[v, x]).run P w = .ok v' w' ∧ w'.ownsRow base e size v' (k + m) (xs ++ news) ∧ Ext v.ownBlock.toList w w' ∧
      (v'.ownBlock = v.ownBlock ∨ v'.ownBlock = some w.heap.size) := by
  subst hsize
  subst hby
  have hl := hs.newsLen
  have hsmall : k + m ≤ 9223372036854775807 := by simp only [maxLen] at h63; omega
  have hlen : (xs ++ news).length = (k + m) * i.size := by rw [List.length_append, hown.1, hl, Nat.add_mul]
  have grown : ∀ (old : Nat), old < k + m → ∀ (row : Option Nat),
      (w.drew.alloc (.cells ((xs ++ news).toArray ++ Builtin.zeroCells z.cells (grownCap w (k + m) old e - (k + m))) e)).ownsRow base e i.size
        (.slice (some ⟨w.heap.size, 0, none⟩) (k + m) (grownCap w (k + m) old e)) (k + m) (xs ++ news) ∧
      Ext row.toList w (w.drew.alloc (.cells ((xs ++ news).toArray ++ Builtin.zeroCells z.cells (grownCap w (k + m) old e - (k + m))) e)) := by
    intro old ho row
    have hge := grownCap_ge w (k + m) old e
    have hcm : grownCap w (k + m) old e ≤ maxLen := grownCap_le_maxLen w (k + m) old e h63
    refine ⟨⟨hlen, .inr ⟨w.heap.size, _, _, rfl, hbase, heap_alloc_new w.drew _, hge, hcm, ?_, ?_⟩⟩, ⟨rfl, rfl, rfl, by simp, fun j hk _ => Go.heap_alloc_old w.drew _ hk, Nat.le_succ _⟩⟩
    · simp only [Array.size_append, List.size_toArray, size_zeroCells, hzs]
      rw [hlen, ← Nat.add_mul]
      congr 1
      omega
    · simp only [Array.toList_append, ← hlen]
      exact List.take_left
  rcases hown.2 with ⟨rfl, rfl⟩ | ⟨g, cap, cur, rfl, hbg, hg, hnc, hcm, hcs, htake⟩
  · have hx : xs = [] := List.eq_nil_of_length_eq_zero (by simpa using hown.1)
    subst hx
    by_cases hm : m = 0
    · subst hm
      have hn : news = [] := List.eq_nil_of_length_eq_zero (by simpa using hl)
      subst hn
      refine ⟨.slice none 0 0, w, ?_, World.ownsRow_nil w base e i.size, ⟨rfl, rfl, rfl, Nat.le_refl _, fun _ _ _ => rfl, Nat.le_refl _⟩, .inl rfl⟩
      have hs' := hs.cells
      rcases hs.kind with ⟨e', hk⟩ | hk <;>
        simp [Builtin.append_, run_underlying ht, run_underlying hk, sizeOf, typeInfo, hi, hs.len, hs']
    · have hr := run_append_grow_src (P := P) w t tx ty e i z ht hi hz none 0 0 [] (run_firstCells_none w.drew i.size 0 0 0) x m news hs (by omega) (by omega) (growslice_fits (by omega) (by simpa using hbytes))
      have hgr := grown 0 (by omega) (Value.ownBlock (.slice none 0 0))
      exact ⟨_, _, hr, hgr.1, hgr.2, .inr rfl⟩
  · by_cases hroom : k + m ≤ cap
    · have hfit : k * i.size + news.length ≤ cur.size := by rw [hl, hcs, ← Nat.add_mul]; exact Nat.mul_le_mul_right _ hroom
      have hst := run_storeCells_at P g (k * i.size) e news 0 cur w hg (by simpa using hfit) hs.one
      simp only [Nat.add_zero] at hst
      have hr : (Builtin.append_ #[t, tx] ty #[.slice (some ⟨g, 0, none⟩) k cap, x]).run P w =
          .ok (.slice (some ⟨g, 0, none⟩) (k + m) cap) (w.setRow g (cur.toList.take (k * i.size) ++ news ++ cur.toList.drop (k * i.size + news.length)).toArray) := by
        have hs' := hs.cells
        rcases hs.kind with ⟨e', hk⟩ | hk <;>
          simp [Builtin.append_, run_underlying ht, run_underlying hk, sizeOf, typeInfo, hi, hs.len, hroom, hs', Addr.add_lit, hst]
      refine ⟨_, _, hr, ⟨hlen, .inr ⟨g, cap, _, rfl, hbg, setRow_heap w g cur _ e _ hg, hroom, hcm, ?_, ?_⟩⟩, ⟨rfl, rfl, rfl, by simp, fun j _ hk => setRow_other w g j _ (fun e => hk (by simp [Value.ownBlock, e])), Nat.le_refl _⟩, .inl rfl⟩
      · simp only [List.size_toArray, List.length_append, List.length_take, List.length_drop, Array.length_toList]
        omega
      · rw [htake, ← hlen]
        exact List.take_left
    · have hold : (Builtin.firstCells i.size k (.slice (some ⟨g, 0, none⟩) k cap)).run P w.drew = .ok xs.toArray w.drew :=
        run_firstCells_some w.drew i.size k ⟨g, 0, none⟩ k cap xs hown.1 (by
          have := hown.cells (g := g) rfl
          simpa using this)
      have hr := run_append_grow_src (P := P) w t tx ty e i z ht hi hz (some ⟨g, 0, none⟩) k cap xs hold x m news hs (by omega) (by omega) (growslice_fits (by omega) hbytes)
      have hgr := grown cap (by omega) (Value.ownBlock (.slice (some ⟨g, 0, none⟩) k cap))
      exact ⟨_, _, hr, hgr.1, hgr.2, .inr rfl⟩

/-- append onto whatever slice that is full: a new row (or the same slice, where nothing is appended). -/
theorem run_append_full (base : Nat) (t tx ty e : TypeId) (i : TypeInfo) (z : Value) (size bytes : Nat) (ht : P.underlying t = some (.slice e)) (hi : P.info? e = some i) (hz : i.zero = some z)
    (hsize : i.size = size) (hby : i.bytes = bytes) (hzs : z.cells.size = size)
    (p : Option Addr) (k : Nat) (xs : List Value) (hp : 0 < k → p = some A) (hl : xs.length = k * size) (hxs : Cells w A xs)
    (x : Value) (m : Nat) (news : List Value) (hs : Src P size tx x m news w) (hm : 0 < m)
    (h63 : k + m ≤ maxLen) (hbytes : (k + m) * bytes ≤ 140737488355328) (hbase : base ≤ w.heap.size) :
    ∃ v' w', (Builtin.append_ #[t, tx] ty #[.slice p k k, x]).run P w = .ok v' w' ∧ w'.ownsRow base e size v' (k + m) (xs ++ news) ∧ Ext [] w w' ∧ v'.ownBlock = some w.heap.size := by
  subst hsize
  subst hby
  have hnl := hs.newsLen
  have hsmall : k + m ≤ 9223372036854775807 := by simp only [maxLen] at h63; omega
  have hlen : (xs ++ news).length = (k + m) * i.size := by rw [List.length_append, hl, hnl, Nat.add_mul]
  have hold : (Builtin.firstCells i.size k (.slice p k k)).run P w.drew = .ok xs.toArray w.drew := by
    rcases Nat.eq_zero_or_pos k with h0 | h0
    · subst h0
      have hn : xs = [] := List.eq_nil_of_length_eq_zero (by simpa using hl)
      subst hn
      cases p with
      | none => exact run_firstCells_none w.drew i.size 0 0 0
      | some a => exact run_firstCells_some w.drew i.size 0 a 0 0 [] (by simp) (by simp)
    · rw [hp h0]
      exact run_firstCells_some w.drew i.size k A k k xs hl (by
        have := hxs
        unfold Cells at this
        simpa using this)
  have hr := run_append_grow_src (P := P) w t tx ty e i z ht hi hz p k k xs hold x m news hs (by omega) (by omega) (growslice_fits (by omega) hbytes)
  have hge := grownCap_ge w (k + m) k e
  have hcm : grownCap w (k + m) k e ≤ maxLen := grownCap_le_maxLen w (k + m) k e h63
  refine ⟨_, _, hr, ⟨hlen, .inr ⟨w.heap.size, _, _, rfl, hbase, heap_alloc_new w.drew _, hge, hcm, ?_, ?_⟩⟩, ⟨rfl, rfl, rfl, by simp, fun j hk _ => Go.heap_alloc_old w.drew _ hk, Nat.le_succ _⟩, rfl⟩
  · simp only [Array.size_append, List.size_toArray, size_zeroCells, hzs]
    rw [hlen, ← Nat.add_mul]
    congr 1
    omega
  · simp only [Array.toList_append, ← hlen]
    exact List.take_left

/-- The facts of an element type, in one. -/
def elemOK (P : Program) (t e : TypeId) (size bytes : Nat) : Bool :=
  match P.underlying t, P.info? e with
  | some (.slice e'), some i => Nat.beq e' e && Nat.beq i.size size && Nat.beq i.bytes bytes && Nat.blt 0 size && (match i.zero with | some z => Nat.beq z.cells.size size | none => false)
  | _, _ => false

theorem elemOK_spec {t e : TypeId} {size bytes : Nat} (h : elemOK P t e size bytes = true) : ∃ i z, P.underlying t = some (.slice e) ∧ P.info? e = some i ∧ i.zero = some z ∧ i.size = size ∧ i.bytes = bytes ∧ z.cells.size = size ∧ 0 < size := by
  unfold elemOK at h
  split at h
  · rename_i e' i h1 h2
    simp only [Bool.and_eq_true] at h
    obtain ⟨⟨⟨⟨h3, h4⟩, h5⟩, h6⟩, h7⟩ := h
    cases hz : i.zero with
    | none => rw [hz] at h7; cases h7
    | some z =>
      rw [hz] at h7
      have he := Nat.eq_of_beq_eq_true h3
      subst he
      exact ⟨i, z, h1, h2, hz, Nat.eq_of_beq_eq_true h4, Nat.eq_of_beq_eq_true h5, Nat.eq_of_beq_eq_true h7, by simpa [Nat.blt_eq] using h6⟩
  · cases h

/-- A row of the call's own has grown (or not): k elements, the cells xs; nothing but its block has changed; it lies where it lay, or in a new block. -/
structure Grew (base : Nat) (e : TypeId) (size : Nat) (w : World) (v : Value) (k : Nat) (xs : List Value) (v' : Value) (w' : World) : Prop where
  own : w'.ownsRow base e size v' k xs
  ext : Ext v.ownBlock.toList w w'
  at_ : v'.ownBlock = v.ownBlock ∨ ∃ g, v'.ownBlock = some g ∧ w.heap.size ≤ g

/-- The row is kept where something else happened. -/
theorem own_keep {base : Nat} {e : TypeId} {size : Nat} {v : Value} {k : Nat} {xs : List Value} (h : w.ownsRow base e size v k xs) (he : Ext X w w') (hv : ∀ g, v.ownBlock = some g → g ∉ X) : w'.ownsRow base e size v k xs := by
  refine ⟨h.1, ?_⟩
  rcases h.2 with hn | ⟨g, cap, cur, rfl, hb, hgg, rest⟩
  · exact .inl hn
  · exact .inr ⟨g, cap, cur, rfl, hb, (he.keep g (Array.getElem?_eq_some_iff.1 hgg).1 (hv g rfl)).trans hgg, rest⟩
theorem own_keep0 {base : Nat} {e : TypeId} {size : Nat} {v : Value} {k : Nat} {xs : List Value} (h : w.ownsRow base e size v k xs) (he : Ext [] w w') : w'.ownsRow base e size v k xs := own_keep h he (by simp)

theorem Grew.refl {base : Nat} {e : TypeId} {size : Nat} {v : Value} {k : Nat} {xs : List Value} (h : w.ownsRow base e size v k xs) : Grew base e size w v k xs v w := ⟨h, Ext.refl _ _, .inl rfl⟩
theorem Grew.trans {base : Nat} {e : TypeId} {size : Nat} {v v1 v2 : Value} {k k1 : Nat} {xs xs1 : List Value} {w1 w2 : World} (h : Grew base e size w v k xs v1 w1) (h2 : Grew base e size w1 v1 k1 xs1 v2 w2) : Grew base e size w v k1 xs1 v2 w2 := by
  refine ⟨h2.own, ⟨h2.ext.os.trans h.ext.os, h2.ext.tape.trans h.ext.tape, h2.ext.output.trans h.ext.output, Nat.le_trans h.ext.size h2.ext.size, fun j hj hx => ?_, Nat.le_trans h.ext.drawn h2.ext.drawn⟩, ?_⟩
  · refine (h2.ext.keep j (Nat.lt_of_lt_of_le hj h.ext.size) fun hm => ?_).trans (h.ext.keep j hj hx)
    rcases h.at_ with h3 | ⟨g, h3, h4⟩
    · rw [h3] at hm; exact hx hm
    · rw [h3] at hm; simp at hm; omega
  · rcases h2.at_ with h3 | ⟨g, h3, h4⟩
    · rw [h3]; exact h.at_
    · exact .inr ⟨g, h3, Nat.le_trans h.ext.size h4⟩
theorem Grew.step {base : Nat} {e : TypeId} {size : Nat} {v v1 : Value} {k : Nat} {xs : List Value} {w1 w2 : World} (h : Grew base e size w v k xs v1 w1) (he : Ext [] w1 w2) : Grew base e size w v k xs v1 w2 :=
  h.trans ⟨own_keep0 h.own he, he.up, .inl rfl⟩
/-- What lies below the base, or was made before and is not the row's own, stays. -/
theorem Grew.ext0 {base : Nat} {e : TypeId} {size : Nat} {v v' : Value} {k : Nat} {xs : List Value} {w0 : World} (h : Grew base e size w v k xs v' w') (he : Ext [] w0 w) (hv : ∀ g, v.ownBlock = some g → w0.heap.size ≤ g) : Ext [] w0 w' :=
  ⟨h.ext.os.trans he.os, h.ext.tape.trans he.tape, h.ext.output.trans he.output, Nat.le_trans he.size h.ext.size, fun j hj hx =>
    (h.ext.keep j (Nat.lt_of_lt_of_le hj he.size) fun hm => by
      cases hb : v.ownBlock with
      | none => rw [hb] at hm; simp at hm
      | some g => rw [hb] at hm; simp at hm; have := hv g hb; omega).trans (he.keep j hj hx), Nat.le_trans he.drawn h.ext.drawn⟩
theorem Grew.blk {base : Nat} {e : TypeId} {size : Nat} {v v' : Value} {k : Nat} {xs : List Value} (h : Grew base e size w v k xs v' w') : ∀ y, y ∈ v'.ownBlock.toList → y ∈ v.ownBlock.toList ∨ w.heap.size ≤ y := fun y hy => by
  rcases h.at_ with h1 | ⟨g, h1, h2⟩
  · rw [h1] at hy; exact .inl hy
  · rw [h1] at hy; simp at hy; exact .inr (by omega)
theorem own_lt {base : Nat} {e : TypeId} {size : Nat} {v : Value} {k : Nat} {xs : List Value} (h : w.ownsRow base e size v k xs) : ∀ y, y ∈ v.ownBlock.toList → base ≤ y ∧ y < w.heap.size := fun y hy => h.lt y (by simpa using hy)
theorem own_base {base base' : Nat} {e : TypeId} {size : Nat} {v : Value} {k : Nat} {xs : List Value} (h : w.ownsRow base e size v k xs) (hb : base' ≤ base) : w.ownsRow base' e size v k xs := by
  refine ⟨h.1, h.2.imp id ?_⟩
  rintro ⟨g, cap, cur, h1, h2, h3⟩
  exact ⟨g, cap, cur, h1, Nat.le_trans hb h2, h3⟩
/-- The row that has nothing yet. -/
abbrev nilS : Value := .slice none 0 0
theorem own_built {base : Nat} {e : TypeId} {size b len : Nat} {xs : List Value} (hB : Blk w b e xs) (hb : base ≤ b) (hl : xs.length = len * size) (hm : len ≤ 140737488355328) : w.ownsRow base e size (.slice (some ⟨b, 0, none⟩) len len) len xs :=
  ⟨hl, .inr ⟨b, len, xs.toArray, rfl, hb, hB, Nat.le_refl _, by unfold maxLen; omega, by simpa using hl, by simp [← hl]⟩⟩
theorem grew_built {base : Nat} {e : TypeId} {size b len : Nat} {xs : List Value} (he : Ext [] w w') (hB : Blk w' b e xs) (hb : w.heap.size ≤ b) (hbase : base ≤ w.heap.size) (hl : xs.length = len * size) (hm : len ≤ 140737488355328) :
    Grew base e size w nilS len xs (.slice (some ⟨b, 0, none⟩) len len) w' := ⟨own_built hB (by omega) hl hm, he, .inr ⟨b, rfl, hb⟩⟩
theorem grew_nil (base : Nat) (e : TypeId) (size : Nat) (w : World) : Grew base e size w nilS 0 [] nilS w := Grew.refl (World.ownsRow_nil w base e size)
/-- A row of one's own, read. -/
theorem own_sl {base : Nat} {e : TypeId} {size : Nat} {v : Value} {k : Nat} {xs : List Value} (h : w.ownsRow base e size v k xs) :
    ∃ p cap A, v = .slice p k cap ∧ Sl w p A k xs ∧ k ≤ cap ∧ cap ≤ 9223372036854775807 ∧ (0 < k → base ≤ A.block ∧ A.block < w.heap.size) ∧ (∀ g, v.ownBlock = some g → A.block = g) := by
  obtain ⟨hl, h | ⟨g, cap, cur, rfl, hb, hg, hk, hc, hs, ht⟩⟩ := h
  · obtain ⟨rfl, rfl⟩ := h
    have : xs = [] := List.eq_nil_of_length_eq_zero (by omega)
    subst this
    exact ⟨none, 0, ⟨0, 0, none⟩, rfl, ⟨by simp, fun i v hi => by simp at hi⟩, by simp, by simp, by simp, fun g hg => by simp [Value.ownBlock] at hg⟩
  · refine ⟨_, cap, ⟨g, 0, none⟩, rfl, ⟨fun _ => rfl, ?_⟩, hk, by unfold maxLen at hc; omega, fun _ => ⟨hb, (Array.getElem?_eq_some_iff.1 hg).1⟩, fun g' hg' => by simpa [Value.ownBlock] using hg'⟩
    have hB : Blk w g e cur.toList := by simpa [Blk] using hg
    intro i v hi
    have hi' : cur.toList[i]? = some v := by
      rw [← ht, List.getElem?_take] at hi
      split at hi
      · exact hi
      · cases hi
    exact hB.cells i v hi'

theorem acts_append {x y : Operand} {t tx e : TypeId} {size bytes : Nat} {base : Nat} {v u : Value} {k m : Nat} {xs news : List Value}
    (ho : o.op = .call { callee := .builtin .append, args := #[x, y], argTypes := #[t, tx] }) (he : elemOK P t e size bytes = true)
    (hx : ev E x = some v) (hy : ev E y = some u) (hown : w.ownsRow base e size v k xs) (hs : Src P size tx u m news w)
    (hbytes : (k + m) * bytes ≤ 140737488355328) (h63 : k + m ≤ 140737488355328) (hbase : base ≤ w.heap.size) : Acts P n ds E o w (Grew base e size w v (k + m) (xs ++ news)) Q := by
  intro a ha _
  obtain ⟨i, z, h1, h2, h3, h4, h5, h6, h7⟩ := elemOK_spec he
  obtain ⟨v', w', hr, g1, g2, g3⟩ := run_append_src (P := P) (w := w) base t tx o.type e i z size bytes h1 h2 h3 h4 h5 h6 h7 v m xs k hown u news hs (by unfold maxLen; omega) hbytes hbase
  refine .inl ⟨v', w', ?_, g1, g2, g3.imp id fun h => ⟨_, h, Nat.le_refl _⟩⟩
  simp [execOp, ho, resolve, invoke, builtin, ha.eval hx, ha.eval hy, hr]

theorem acts_append_full {x y : Operand} {t tx e : TypeId} {size bytes : Nat} {p : Option Addr} {u : Value} {k m : Nat} {xs news : List Value}
    (ho : o.op = .call { callee := .builtin .append, args := #[x, y], argTypes := #[t, tx] }) (he : elemOK P t e size bytes = true)
    (hx : ev E x = some (.slice p k k)) (hy : ev E y = some u) (hp : 0 < k → p = some A) (hl : xs.length = k * size) (hc : Cells w A xs) (hs : Src P size tx u m news w) (hm : 0 < m)
    (hbytes : (k + m) * bytes ≤ 140737488355328) (h63 : k + m ≤ 140737488355328) (base : Nat) (hbase : base ≤ w.heap.size) :
    Acts P n ds E o w (fun v' w' => w'.ownsRow base e size v' (k + m) (xs ++ news) ∧ Ext [] w w') Q := by
  intro a ha _
  obtain ⟨i, z, h1, h2, h3, h4, h5, h6, h7⟩ := elemOK_spec he
  obtain ⟨v', w', hr, g1, g2, g3⟩ := run_append_full (P := P) (w := w) base t tx o.type e i z size bytes h1 h2 h3 h4 h5 h6 p k xs hp hl hc u m news hs hm (by unfold maxLen; omega) hbytes hbase
  refine .inl ⟨v', w', ?_, g1, g2⟩
  simp [execOp, ho, resolve, invoke, builtin, ha.eval hx, ha.eval hy, hr]

/-! ### Calls -/

def callable (P : Program) (g : FuncId) : Bool := (P.funcs[g]?).any fun fn => fn.body.isSome && fn.name != "runtime.NumGoroutine"

/-- It returns, and R holds of what it returns. -/
def Ret (R : Value → World → Prop) : Ending → World → Prop
  | .returned v, w => R v w
  | _, _ => False

theorem run_callFunc {g : FuncId} (hg : callable P g = true) (args : Array Value) (w : World) : (callFunc g args).run P w = .ok (.enter g args) w := by
  unfold callable at hg
  cases hf : P.funcs[g]? with
  | none => rw [hf] at hg; cases hg
  | some fn =>
    rw [hf] at hg
    simp only [Option.any_some, Bool.and_eq_true, bne_iff_ne, ne_eq] at hg
    have hb : fn.body.isNone = false := by
      cases hbo : fn.body <;> simp [hbo] at hg ⊢
    have hb' : fn.body ≠ none := fun e => by rw [e] at hb; cases hb
    simp [callFunc, hf, hg.2, hb']

theorem acts_call' {f : Operand} {g : FuncId} {first cap : Array Value} {xs : List Operand} {ts : Array TypeId} {vs : List Value} {R : Ending → World → Prop} {K : Value → World → Prop}
    (ho : o.op = .call { callee := .value f, args := xs.toArray, argTypes := ts }) (hf : ev E f = some (.func (.func g) first cap)) (hx : evs E xs = some vs) (hg : callable P g = true)
    (hc : Calls P g (first ++ vs.toArray ++ cap) w R) (hR : ∀ e w', R e w' → match e with | .returned v => K v w' | .panicked c => Q (.panic c) [] w' | .outgrown => False) : Acts P n ds E o w K Q := by
  intro a ha _
  refine .inr (.inr (.inl ⟨g, first ++ vs.toArray ++ cap, w, ?_, hc.mono hR⟩))
  have h1 : xs.toArray.map a.eval = vs.toArray := by rw [← ha.evals hx]; simp
  simp only [execOp, ho, resolve, Deferred.ofValue, ha.eval hf, h1, Sem.run_bind, Sem.run_pure, Result.andThen_ok, invoke, run_callFunc hg]

theorem acts_call {g : FuncId} {xs : List Operand} {ts : Array TypeId} {vs : List Value} {R : Value → World → Prop}
    (ho : o.op = .call { callee := .value (.func g), args := xs.toArray, argTypes := ts }) (hx : evs E xs = some vs) (hg : callable P g = true)
    (hc : Calls P g vs.toArray w (Ret R)) : Acts P n ds E o w R Q :=
  acts_call' (first := #[]) (cap := #[]) (R := Ret R) ho rfl hx hg (by simpa using hc) fun e w' h => by
    cases e with
    | returned v => exact h
    | panicked c => exact h.elim
    | outgrown => exact h.elim

theorem acts_callv {f : Operand} {g : FuncId} {cap : Array Value} {xs : List Operand} {ts : Array TypeId} {vs : List Value} {R : Value → World → Prop}
    (ho : o.op = .call { callee := .value f, args := xs.toArray, argTypes := ts }) (hf : ev E f = some (.func (.func g) #[] cap)) (hx : evs E xs = some vs) (hg : callable P g = true)
    (hc : Calls P g (vs.toArray ++ cap) w (Ret R)) : Acts P n ds E o w R Q :=
  acts_call' (first := #[]) (R := Ret R) ho hf hx hg (by simpa using hc) fun e w' h => by
    cases e with
    | returned v => exact h
    | panicked c => exact h.elim
    | outgrown => exact h.elim

/-- A call that may panic. -/
def RetOr (R : Value → World → Prop) (Z : List PanicEntry → World → Prop) : Ending → World → Prop
  | .returned v, w => R v w
  | .panicked c, w => Z c w
  | .outgrown, _ => False

theorem acts_call_or {g : FuncId} {xs : List Operand} {ts : Array TypeId} {vs : List Value} {R : Value → World → Prop} {Z : List PanicEntry → World → Prop}
    (ho : o.op = .call { callee := .value (.func g), args := xs.toArray, argTypes := ts }) (hx : evs E xs = some vs) (hg : callable P g = true)
    (hc : Calls P g vs.toArray w (RetOr R Z)) (hZ : ∀ c w', Z c w' → Q (.panic c) [] w') : Acts P n ds E o w R Q :=
  acts_call' (first := #[]) (cap := #[]) (R := RetOr R Z) ho rfl hx hg (by simpa using hc) fun e w' h => by
    cases e with
    | returned v => exact h
    | panicked c => exact hZ c w' h
    | outgrown => exact h.elim

/-- A call that panics for sure. -/
theorem acts_never {g : FuncId} {xs : List Operand} {ts : Array TypeId} {vs : List Value} {R : Value → World → Prop} {Z : List PanicEntry → World → Prop}
    (ho : o.op = .call { callee := .value (.func g), args := xs.toArray, argTypes := ts }) (hx : evs E xs = some vs) (hg : callable P g = true)
    (hc : Calls P g vs.toArray w (RetOr R Z)) (hZ : ∀ c w', (Z c w' → Q (.panic c) [] w')) (hR : ∀ v w', ¬ R v w') : Acts P n ds E o w (fun _ _ => False) Q :=
  acts_call' (first := #[]) (cap := #[]) (R := RetOr R Z) ho rfl hx hg (by simpa using hc) fun e w' h => by
    cases e with
    | returned v => exact (hR v w' h).elim
    | panicked c => exact hZ c w' h
    | outgrown => exact h.elim
theorem Acts.mono {K K' : Value → World → Prop} (h : Acts P n ds E o w K Q) (hk : ∀ v w', K v w' → K' v w') : Acts P n ds E o w K' Q := by
  intro a ha hd
  rcases h a ha hd with ⟨v, w', h1, h2⟩ | ⟨w', h1, h2⟩ | ⟨f, args, w1, h1, h2⟩ | ⟨v, w', h1, h2⟩ | ⟨l, f, tmps, asn, bd, w1, h1, h2⟩
  · exact .inl ⟨v, w', h1, hk _ _ h2⟩
  · exact .inr (.inl ⟨w', h1, hk _ _ h2⟩)
  · refine .inr (.inr (.inl ⟨f, args, w1, h1, h2.mono fun e w' he => ?_⟩))
    cases e with
    | returned v => exact hk _ _ he
    | panicked c => exact he
    | outgrown => exact he
  · exact .inr (.inr (.inr (.inl ⟨v, w', h1, h2⟩)))
  · refine .inr (.inr (.inr (.inr ⟨l, f, tmps, asn, bd, w1, h1, h2.mono fun e w' he => ?_⟩)))
    cases e with
    | returned v => exact hk _ _ he
    | panicked c => exact he
    | outgrown => exact he

theorem acts_panic {x : Operand} {t : TypeId} {v : Value} (ho : o.op = .panic x) (hx : ev E x = some (.iface t v)) (hQ : Q (.panic [{ v := .iface t v, recovered := false }]) [] w) {K : Value → World → Prop} : Acts P n ds E o w K Q := by
  intro a ha _
  refine .inr (.inr (.inr (.inl ⟨.iface t v, w, ?_, hQ⟩)))
  simp [execOp, ho, ha.eval hx, Instr.panic]

/-- What yields a value at once, as an act. -/
theorem acts_val {v : Value} (hv : RunV P n E o [] w v) : Acts P n ds E o w (fun u w' => u = v ∧ w' = w) Q :=
  fun a ha _ => .inl ⟨v, w, hv a w (Ext.refl _ _) ha, rfl, rfl⟩

/-! ### Literals -/

theorem over_set {L r : List Value} {k : Nat} {v : Value} (h : k + 1 + r.length ≤ L.length) : over (L.set k v) (k + 1) r = over L k (v :: r) := by
  have h1 : (L.set k v).take (k + 1) = L.take k ++ [v] := by
    apply List.ext_getElem?
    intro i
    rcases Nat.lt_trichotomy i k with h1 | h1 | h1
    · rw [List.getElem?_take_of_lt (by omega), List.getElem?_set_ne (by omega), List.getElem?_append_left (by simp; omega), List.getElem?_take_of_lt h1]
    · subst h1
      rw [List.getElem?_take_of_lt (by omega), List.getElem?_set_self (by omega), List.getElem?_append_right (by simp; omega)]
      have : min i L.length = i := by omega
      simp [this]
    · rw [List.getElem?_eq_none (by simp; omega), List.getElem?_eq_none (by simp; omega)]
  have h2 : (L.set k v).drop (k + 1 + r.length) = L.drop (k + (r.length + 1)) := by
    apply List.ext_getElem?
    intro i
    rw [List.getElem?_drop, List.getElem?_drop, List.getElem?_set_ne (by omega)]
    congr 1
    omega
  simp only [over, h1, h2, List.length_cons, List.append_assoc, List.cons_append, List.nil_append]

theorem fold_over (off : Nat) : ∀ (vs : List Value) (j : Nat) (cs : Array Value), off + j + vs.length ≤ cs.size →
    (vs.zipIdx j).foldl (fun cs (x : Value × Nat) => cs.setIfInBounds (off + x.2) x.1) cs = (over cs.toList (off + j) vs).toArray
  | [], j, cs, h => by simp [over]
  | v :: r, j, cs, h => by
    simp only [List.length_cons] at h
    simp only [List.zipIdx_cons, List.foldl_cons]
    rw [fold_over off r (j + 1) _ (by simp; omega), Array.toList_setIfInBounds, ← over_set (by simp; omega)]
    rfl

/-- The cells of a literal, part by part. -/
def fillL (place : Nat → Option (Nat × Nat)) : List Value → List (Nat × Value) → Option (List Value)
  | cs, [] => some cs
  | cs, (i, v) :: r => match place i with
    | none => none
    | some (off, size) => match Nat.beq v.cells.size size && Nat.ble (off + v.cells.size) cs.length with
      | true => fillL place (over cs off v.cells.toList) r
      | false => none

theorem fill_fillL {place : Nat → Option (Nat × Nat)} : ∀ (ps : List (Nat × Value)) (cs cs' : List Value), fillL place cs ps = some cs' → Instr.fill place cs.toArray ps = some cs'.toArray
  | [], cs, cs', h => by simp [fillL] at h; simp [Instr.fill, h]
  | (i, v) :: r, cs, cs', h => by
    simp only [fillL] at h
    cases hp : place i with
    | none => rw [hp] at h; cases h
    | some q =>
      obtain ⟨off, size⟩ := q
      rw [hp] at h
      simp only at h
      split at h
      · rename_i hb
        simp only [Bool.and_eq_true] at hb
        have h1 := Nat.eq_of_beq_eq_true hb.1
        have h2 := Nat.le_of_ble_eq_true hb.2
        have h3 : ¬ (v.cells.size ≠ size ∨ off + v.cells.size > cs.length) := by omega
        have h3' : (v.cells.size ≠ size || off + v.cells.size > cs.toArray.size) = false := by simp; omega
        have hf := fold_over off v.cells.toList 0 cs.toArray (by simpa using h2)
        simp only [Nat.add_zero] at hf
        simp only [Instr.fill, hp, h3', Bool.false_eq_true, if_false]
        have hz : v.cells.zipIdx.foldl (fun cs (x : Value × Nat) => cs.setIfInBounds (off + x.2) x.1) cs.toArray = (v.cells.toList.zipIdx 0).foldl (fun cs (x : Value × Nat) => cs.setIfInBounds (off + x.2) x.1) cs.toArray := by
          rw [← Array.foldl_toList, Array.toList_zipIdx]
        have := fill_fillL r (over cs off v.cells.toList) cs' h
        rw [← this]
        congr 1
        exact hz.trans hf
      · cases h

theorem evs_parts {a : Act} (ha : Agr n E a) : ∀ {ps : List (Nat × Operand)} {vs : List Value}, evs E (ps.map (·.2)) = some vs → ps.map (fun p => (p.1, a.eval p.2)) = (ps.map (·.1)).zip vs
  | [], vs, h => by simp [evs] at h; simp [h]
  | (i, x) :: r, vs, h => by
    simp only [List.map_cons, evs] at h
    split at h
    · rename_i v l h1 h2
      simp only [Option.some.injEq] at h
      subst h
      simp [ha.eval h1, evs_parts ha h2]
    · cases h

/-- The zeros of a new row. -/
def zerosL (z : List Value) (m : Nat) : List Value := (List.range m).map fun i => z.getD (i % z.length) undef

/-- `[]T{..}`. -/
theorem acts_buildSlice {t e : TypeId} {len sz : Nat} {z : Value} {ps : List (Nat × Operand)} {vs cs' : List Value} (ho : o.op = .buildSlice t len ps.toArray) (ht : P.underlying t = some (.slice e)) (hsz : szOf P e = some sz) (hz : zrOf P e = some z)
    (hx : evs E (ps.map (·.2)) = some vs) (hlen : Nat.ble (len * sz) 16777216 = true) (hzs : Nat.beq z.cells.size sz = true) (hfill : fillL (fun i => some (i * sz, sz)) (zerosL z.cells.toList (len * sz)) ((ps.map (·.1)).zip vs) = some cs') :
    Acts P n ds E o w (fun v w' => Ext [] w w' ∧ ∃ b, v = .slice (some ⟨b, 0, none⟩) len len ∧ w.heap.size ≤ b ∧ Blk w' b e cs') Q := by
  intro a ha _
  have h1 : ¬ len * sz > 2 ^ 24 := by have := Nat.le_of_ble_eq_true hlen; omega
  have h2 : ps.toArray.map (fun (i, x) => (i, a.eval x)) = ((ps.map (·.1)).zip vs).toArray := by
    rw [← evs_parts ha hx]; simp
  have hzs' := Nat.eq_of_beq_eq_true hzs
  have hzero : ∀ (zc : Array Value), (len * sz = 0 → zc = #[]) → (len * sz ≠ 0 → zc = z.cells) → (Array.range (len * sz)).map (fun i => zc[i % zc.size]!) = (zerosL z.cells.toList (len * sz)).toArray := by
    intro zc hc1 hc2
    by_cases h0 : len * sz = 0
    · simp [h0, zerosL, Array.range]
    · rw [hc2 h0]
      apply Array.ext'
      simp only [Array.toList_map, Array.toList_range, zerosL]
      apply List.map_congr_left
      intro i hi
      have hpos : 0 < z.cells.size := by
        rw [hzs']; exact Nat.pos_of_ne_zero fun h => h0 (by rw [h, Nat.mul_zero])
      have hlt : i % z.cells.size < z.cells.size := Nat.mod_lt _ hpos
      simp [hlt, List.getD]
  have hf := fill_fillL _ _ _ hfill
  refine .inl ⟨_, { w with heap := w.heap.push (.cells cs'.toArray e) }, ?_, Ext.push _ _ _, w.heap.size, rfl, Nat.le_refl _, Blk.push w e cs'⟩
  have hrun : (Instr.buildSlice t len ((ps.map (·.1)).zip vs).toArray).run P w = .ok (.slice (some ⟨w.heap.size, 0, none⟩) len len) { w with heap := w.heap.push (.cells cs'.toArray e) } := by
    by_cases h0 : len * sz = 0
    · have hz0 := hzero #[] (fun _ => rfl) (fun h => absurd h0 h)
      rw [h0] at hz0 hf h1
      simp only [Instr.buildSlice, Sem.run_bind, run_und ht, Result.andThen_ok, run_szOf hsz, h0, h1, if_false, Sem.run_pure, if_true]
      rw [hz0]
      simp only [hf, newRow, Sem.run_bind, run_newObj, Result.andThen_ok, Sem.run_pure]
    · have hz0 := hzero z.cells (fun h => absurd h h0) (fun _ => rfl)
      simp only [Instr.buildSlice, Sem.run_bind, run_und ht, Result.andThen_ok, run_szOf hsz, h1, if_false, Sem.run_pure, h0, run_zero hz]
      simp only [hz0, hf, newRow, Sem.run_bind, run_newObj, Result.andThen_ok, Sem.run_pure]
  simp only [execOp, ho, h2, Sem.run_bind, hrun, Result.andThen_ok, Sem.run_pure]

/-! ### Bytes and strings -/

def bytesV (l : List UInt8) : List Value := l.map fun b => .int .u8 (b.toNat : Int)

theorem bytesV_length (l : List UInt8) : (bytesV l).length = l.length := by simp [bytesV]
theorem bytesV_append (a b : List UInt8) : bytesV (a ++ b) = bytesV a ++ bytesV b := by simp [bytesV]
theorem bytesV_one (l : List UInt8) : ∀ u ∈ bytesV l, u.oneCell' = true := fun u hu => by
  obtain ⟨b, _, rfl⟩ := List.mem_map.1 hu; rfl


theorem source_string {tx : TypeId} {s : List UInt8} (hk : P.underlying tx = some .string) : Src P 1 tx (.string ⟨s.toArray⟩) s.length (bytesV s) w := by
  have h := Src.ofString w hk ⟨s.toArray⟩
  rw [show (ByteArray.mk s.toArray).size = s.length by simp [ByteArray.size]] at h
  exact h
theorem rp_buildA {t e : TypeId} {m sz : Nat} {z : Value} {ps : List (Nat × Operand)} {vs cs' : List Value} (ho : o.op = .build t ps.toArray) (ht : P.underlying t = some (.array m e)) (hsz : szOf P e = some sz) (hz : zrOf P t = some z)
    (hx : evs E (ps.map (·.2)) = some vs) (hfill : fillL (fun i => some (i * sz, sz)) z.cells.toList ((ps.map (·.1)).zip vs) = some cs') : RunP P n E o (.agg cs'.toArray) := by
  intro a u ha
  have h2 : ps.toArray.map (fun (i, x) => (i, a.eval x)) = ((ps.map (·.1)).zip vs).toArray := by
    rw [← evs_parts ha hx]; simp
  have hf := fill_fillL _ _ _ hfill
  simp only [Array.toArray_toList] at hf
  simp only [execOp, ho, h2, Instr.build, Sem.run_bind, run_zero hz, run_und ht, run_szOf hsz, Result.andThen_ok, hf, Sem.run_pure]

/-- Where a struct's fields lie. -/
def placesOf (P : Program) (t : TypeId) : Option (List (Nat × Nat)) :=
  match P.underlying t with
  | some (.struct fs) => fs.toList.mapM fun f => (szOf P f.type).map fun m => (f.offset, m)
  | _ => none

theorem run_places {fs : List Field} {l : List (Nat × Nat)} (w : World) (h : fs.mapM (fun f => (szOf P f.type).map fun m => (f.offset, m)) = some l) :
    (fs.mapM (m := Sem) (fun f => do pure (f.offset, ← sizeOf f.type))).run P w = .ok l w := by
  induction fs generalizing l with
  | nil => simp at h; simp [h]
  | cons f r ih =>
    simp only [List.mapM_cons, Option.bind_eq_bind, Option.pure_def] at h
    cases hs : szOf P f.type with
    | none => rw [hs] at h; simp at h
    | some m =>
      rw [hs] at h
      simp only [Option.map_some, Option.bind_some] at h
      cases hr : r.mapM (fun f => (szOf P f.type).map fun m => (f.offset, m)) with
      | none => rw [hr] at h; simp at h
      | some l' =>
        rw [hr] at h
        simp only [Option.bind_some, Option.some.injEq] at h
        subst h
        simp only [List.mapM_cons, Sem.run_bind, run_szOf hs, Result.andThen_ok, Sem.run_pure, ih hr]

theorem rp_buildS {t : TypeId} {l : List (Nat × Nat)} {z : Value} {ps : List (Nat × Operand)} {vs cs' : List Value} (ho : o.op = .build t ps.toArray) (hp : placesOf P t = some l) (hz : zrOf P t = some z)
    (hx : evs E (ps.map (·.2)) = some vs) (hfill : fillL (fun (i : Nat) => l[i]?) z.cells.toList ((ps.map (·.1)).zip vs) = some cs') : RunP P n E o (.agg cs'.toArray) := by
  intro a u ha
  have h2 : ps.toArray.map (fun (i, x) => (i, a.eval x)) = ((ps.map (·.1)).zip vs).toArray := by
    rw [← evs_parts ha hx]; simp
  unfold placesOf at hp
  split at hp
  · rename_i fs hfs
    have hm := run_places (P := P) u hp
    have hma : (fs.mapM (m := Sem) (fun f => do pure (f.offset, ← sizeOf f.type))).run P u = .ok l.toArray u := by
      have harr : fs = fs.toList.toArray := by simp
      rw [harr, List.mapM_toArray, Sem.run_map, hm]
      rfl
    have hf := fill_fillL _ _ _ hfill
    simp only [Array.toArray_toList] at hf
    have hpl : (fun (i : Nat) => l.toArray[i]?) = fun (i : Nat) => l[i]? := by funext i; simp
    simp only [execOp, ho, h2, Instr.build, Sem.run_bind, run_zero hz, run_und hfs, Result.andThen_ok, hma, hpl, hf, Sem.run_pure]
  · cases hp

theorem rp_field {t : TypeId} {x : Operand} {i : Nat} {ft off : Nat} {cs : Array Value} {v : Value} (ho : o.op = .field t x i) (hf' : fieldOf P t i = some (ft, off)) (hx : ev E x = some (.agg cs)) (ha' : aggOf P ft = some false) (hv : cs[off]? = some v) : RunP P n E o v := by
  intro a u ha
  obtain ⟨fs, g, h1, h2, h3, h4⟩ := fieldOf_some hf'
  subst h3; subst h4
  simp [execOp, ho, ha.eval hx, Instr.field, run_und h1, h2, asAgg, part, run_agg ha', hv]
theorem rp_fieldA {t : TypeId} {x : Operand} {i : Nat} {ft off m : Nat} {cs : Array Value} (ho : o.op = .field t x i) (hf' : fieldOf P t i = some (ft, off)) (hx : ev E x = some (.agg cs)) (ha' : aggOf P ft = some true) (hm : szOf P ft = some m) : RunP P n E o (.agg (cs.extract off (off + m))) := by
  intro a u ha
  obtain ⟨fs, g, h1, h2, h3, h4⟩ := fieldOf_some hf'
  subst h3; subst h4
  simp [execOp, ho, ha.eval hx, Instr.field, run_und h1, h2, asAgg, part, run_agg ha', run_szOf hm]
theorem rp_capS {x : Operand} {t e : TypeId} {p : Option Addr} {len cap : Nat} (ho : o.op = .call { callee := .builtin .cap, args := #[x], argTypes := #[t] }) (ht : P.underlying t = some (.slice e)) (hx : ev E x = some (.slice p len cap)) :
    RunP P n E o (.int .i64 cap) := by
  intro f u hf; simp [execOp, ho, resolve, invoke, builtin, hf.eval hx, Builtin.cap_, run_und ht, goInt]
theorem rp_convS {s t : TypeId} {x : Operand} {b : ByteArray} {d : TypeDesc} (ho : o.op = .convert s t x) (hs : P.underlying s = some d) (ht : P.underlying t = some .string) (hx : ev E x = some (.string b)) : RunP P n E o (.string b) := by
  intro f u hf; simp [execOp, ho, hf.eval hx, convert, run_und hs, run_und ht]

/-- string(b). -/
theorem rv_bytes {s t e : TypeId} {x : Operand} {p : Option Addr} {len cap : Nat} {l : List UInt8} (ho : o.op = .convert s t x) (hs : P.underlying s = some (.slice e)) (he : P.underlying e = some (.int .u8)) (ht : P.underlying t = some .string)
    (hx : ev E x = some (.slice p len cap)) (hl : l.length = len) (hp : 0 < len → p = some A) (h : ∀ u, Ext X w u → Cells u A (bytesV l)) : RunV P n E o X w (.string ⟨l.toArray⟩) := by
  intro a u hu ha
  have hc := h u hu
  cases p with
  | none =>
    have h0 : len = 0 := by
      rcases Nat.eq_zero_or_pos len with h1 | h1
      · exact h1
      · cases hp h1
    have hn : l = [] := List.eq_nil_of_length_eq_zero (by omega)
    subst hn
    simp [execOp, ho, ha.eval hx, convert, run_und hs, run_und he, run_und ht, Conv.bytesToString]
    rfl
  | some a0 =>
    have hr : (convert s t (.slice (some a0) len cap)).run P u = .ok (.string ⟨l.toArray⟩) u := by
      rcases Nat.eq_zero_or_pos len with h1 | h1
      · have hn : l = [] := List.eq_nil_of_length_eq_zero (by omega)
        subst hn
        have := run_convert_bytes_back (P := P) u s t e a0 cap [] hs he ht (fun j hj => absurd hj (by simp))
        simpa [h1] using this
      · have hA := hp h1
        simp only [Option.some.injEq] at hA
        subst hA
        have := run_convert_bytes_back (P := P) u s t e a0 cap l hs he ht (fun j hj => hc j _ (by simp [bytesV, hj]))
        rw [hl] at this
        exact this
    simp [execOp, ho, ha.eval hx, hr]

/-- []byte(s). -/
theorem acts_bytes {s t e : TypeId} {x : Operand} {b : ByteArray} (ho : o.op = .convert s t x) (hs : P.underlying s = some .string) (ht : P.underlying t = some (.slice e)) (he : P.underlying e = some (.int .u8)) (hx : ev E x = some (.string b)) :
    Acts P n ds E o w (fun v w' => Ext [] w w' ∧ ∃ g cap, v = .slice (some ⟨g, 0, none⟩) b.data.toList.length cap ∧ w.heap.size ≤ g ∧ b.data.toList.length ≤ cap ∧ Cells w' ⟨g, 0, none⟩ (bytesV b.data.toList)) Q := by
  intro a ha _
  have hr := run_bytes_of_string (P := P) w s t e b hs ht he
  have hsz : b.size = b.data.toList.length := by rw [Array.length_toList]; rfl
  refine .inl ⟨.slice (some ⟨w.heap.size, 0, none⟩) b.size (grownCap w b.size 0 e), _, by simp only [execOp, ho, ha.eval hx, Sem.run_bind, hr, Result.andThen_ok, Sem.run_pure]; rfl, ?_, w.heap.size, grownCap w b.size 0 e, congrArg (fun k => Value.slice _ k _) hsz, Nat.le_refl _, ?_, ?_⟩
  · exact ⟨rfl, rfl, rfl, by simp [World.alloc], fun k hk _ => Go.heap_alloc_old w.drew _ hk, Nat.le_succ _⟩
  · rw [← hsz]; exact grownCap_ge w b.size 0 e
  · intro i v hi
    have hadd : (⟨w.heap.size, 0, none⟩ : Addr).add i = ⟨w.heap.size, i, none⟩ := addr_lit _ i
    rw [hadd]
    have := World.cell?_alloc_mark w.drew (bytesRow b (grownCap w b.size 0 e)) e ((bytesRow b (grownCap w b.size 0 e)).size, (bytesRow b (grownCap w b.size 0 e)).size + 1) i
    have hlt : i < b.data.size := by
      simp only [bytesV, List.getElem?_map] at hi
      rcases Nat.lt_or_ge i b.data.toList.length with h1 | h1
      · simpa using h1
      · rw [List.getElem?_eq_none h1] at hi; cases hi
    refine Eq.trans this ?_
    rw [bytesRow_at b _ i hlt]
    have hl2 : b.data.toList[i]? = some b[i] := by rw [Array.getElem?_toList, Array.getElem?_eq_getElem hlt]; rfl
    rw [bytesV, List.getElem?_map, hl2] at hi
    exact hi

end
end Go.Eng

/- The engine, part six: small steps for proofs. -/
set_option linter.unusedVariables false
namespace Go.Eng
open Go

section
variable {P : Program} {n : Nat} {ds : List Deferred} {ops : List Oper} {Q : PostE} {E : Env} {w w' : World} {o : Oper} {l : List Oper} {A : Addr} {cs : List Value} {X : List Nat} {K : Env → World → Prop} {id : Nat}

theorem thenE_normal (h : K E w) : thenE K Q .normal E w := h
theorem thenE_exit {j : Nat} (h : Q (.exit j) E w) : thenE K Q (.exit j) E w := h
theorem thenE_ret (h : Q .ret E w) : thenE K Q .ret E w := h
theorem thenE_panic {c : List PanicEntry} (h : Q (.panic c) E w) : thenE K Q (.panic c) E w := h
theorem blockE_normal (h : Q .normal E w) : blockE id Q .normal E w := h
theorem blockE_ret (h : Q .ret E w) : blockE id Q .ret E w := h
theorem blockE_panic {c : List PanicEntry} (h : Q (.panic c) E w) : blockE id Q (.panic c) E w := h
theorem blockE_same (h : Q .normal E w) : blockE id Q (.exit id) E w := by
  simp only [blockE]
  have : Nat.beq id id = true := by simp
  rw [this]; exact h
theorem blockE_other {j : Nat} (hj : Nat.beq j id = false) (h : Q (.exit j) E w) : blockE id Q (.exit j) E w := by
  simp only [blockE]
  rw [hj]; exact h

theorem sub_nil : ∀ t v, get [] t = some v → get E t = some v := fun t v h => by cases h
theorem sub_cons {k : Nat} {u : Value} {E0 : Env} (h : get E k = some u) (hr : ∀ t v, get E0 t = some v → get E t = some v) : ∀ t v, get ((k, u) :: E0) t = some v → get E t = some v := fun t v ht => by
  rw [get_cons] at ht
  by_cases hk : k = t
  · subst hk; simp at ht; rw [h, ht]
  · simp only [hk, if_false] at ht; exact hr t v ht

/-- A region in the order of its text, whatever follows. -/
theorem sub_int {k : Nat} {ik : IntKind} {a b : Int} {E0 : Env} (h : get E k = some (.int ik a)) (hab : a = b) (hr : ∀ t v, get E0 t = some v → get E t = some v) : ∀ t v, get ((k, .int ik b) :: E0) t = some v → get E t = some v :=
  sub_cons (hab ▸ h) hr
theorem Sx.textR {ro : Option Nat} (h : Ox P n ds ops Q ops E w) : Sx ro P n ds (.region id ops.toArray false) Q E w := fun a ha hd => wpIn_region_lit (listE_wpIn ro _ _ _ (h a ha hd))
theorem Sx.walkR {ro : Option Nat} (hm : P.follows .mixedOrders = true) (hq : Calm Q) (L dets : List Nat) (m : Nat) (hok : (Region.noSelect ops.toArray && walkOk ops dets m [] L && L.length + m == ops.length) = true)
    (h : Calm Q → ∀ w0, Ext [] w w0 → Wx P n ds ops Q dets [] L m [] E w0) : Sx ro P n ds (.region id ops.toArray true) Q E w := by
  simp only [Bool.and_eq_true, beq_iff_eq] at hok
  obtain ⟨⟨h1, h2⟩, h3⟩ := hok
  refine fun a ha hd => wpIn_region_any hm ?_
  have := h hq { w with drawn := w.drawn + 1 } (Ext.draw _ _) h1 h2 (fun k o _ hk => by
    simp only [listedOf] at hk
    rcases Nat.lt_or_ge k ops.length with h' | h' <;> simp [h'] at hk) (fun p hp => by cases hp) a ha hd
  have h4 := wpAny_of_G ro _ _ _ _ _ this
  rw [h3] at h4
  simpa [listedOf] using h4

/-- Cut behind a piece: what the rest needs of the environment, and what holds of the world. -/
theorem Sx.cut {ro : Option Nat} {ι : Type} {x y : Code} (F : ι → Env) (R : ι → World → Prop) (hx : Sx ro P n ds x (thenE (fun E' w' => ∃ i, (∀ t v, get (F i) t = some v → get E' t = some v) ∧ R i w') Q) E w)
    (hy : ∀ i w', R i w' → Sx ro P n ds y Q (F i) w') : Sx ro P n ds (.seq x y) Q E w :=
  Sx.seq (hx.mono fun e E' w' he => by
    cases e with
    | normal => obtain ⟨i, h1, h2⟩ := he; exact (hy i w' h2).weaken h1
    | _ => exact he)

/-! ### Fitting numbers, decided tests -/

theorem binI_t {p : Prop} [Decidable p] (h : p) : (some (Value.bool (decide p)) : Option Value) = some (.bool true) := by rw [decide_eq_true h]
theorem binI_f {p : Prop} [Decidable p] (h : ¬ p) : (some (Value.bool (decide p)) : Option Value) = some (.bool false) := by rw [decide_eq_false h]
theorem binS_t {b : Bool} (h : b = true) : (some (Value.bool b) : Option Value) = some (.bool true) := by rw [h]
theorem binS_f {b : Bool} (h : b = false) : (some (Value.bool b) : Option Value) = some (.bool false) := by rw [h]
theorem rp_conv_fit {s t : TypeId} {x : Operand} {k k' : IntKind} {a : Int} {d : TypeDesc} (ho : o.op = .convert s t x) (hs : P.underlying s = some d) (ht : P.underlying t = some (.int k')) (hx : ev E x = some (.int k a)) (hf : k'.wrap a = a) :
    RunP P n E o (.int k' a) := by
  have := rp_conv (n := n) ho hs ht hx
  rwa [hf] at this
theorem rp_neg_fit {t : TypeId} {x : Operand} {k : IntKind} {a : Int} (ho : o.op = .unOp .neg t x) (hx : ev E x = some (.int k a)) (hf : k.wrap (0 - a) = 0 - a) : RunP P n E o (.int k (0 - a)) := by
  have := rp_neg (P := P) (n := n) ho hx
  rwa [hf] at this

/-- Up to the end of a piece: what holds there, and then the rest. -/
theorem Sx.upto {ro : Option Nat} {c : Code} (M : Env → World → Prop) (h : Sx ro P n ds c (thenE M Q) E w) (hM : ∀ E' w', M E' w' → Q .normal E' w') : Sx ro P n ds c Q E w :=
  h.mono fun e E w he => by cases e <;> first | exact hM _ _ he | exact he

theorem rp_lenL {x : Operand} {t : TypeId} {s : List UInt8} (ho : o.op = .call { callee := .builtin .len, args := #[x], argTypes := #[t] }) (ht : P.underlying t = some .string) (hx : ev E x = some (.string ⟨s.toArray⟩)) : RunP P n E o (.int .i64 (s.length : Int)) := by
  have := rp_lenT (P := P) (n := n) ho ht hx
  rwa [show (ByteArray.mk s.toArray).size = s.length by simp [ByteArray.size]] at this
theorem tdiv_nat (a b : Nat) : ((a : Int).tdiv (b : Int)) = ((a / b : Nat) : Int) := by
  rw [Int.tdiv_eq_ediv_of_nonneg (by omega)]; rfl
/-- A natural number's quotient. -/
theorem quo_nat {t t' : TypeId} {x y : Operand} {k : IntKind} {a b : Nat} (ho : o.op = .binOp .quo t x y t') (hx : ev E x = some (.int k (a : Int))) (hy : ev E y = some (.int k (b : Int))) (hb : b ≠ 0) (hf : k.wrap ((a / b : Nat) : Int) = ((a / b : Nat) : Int)) : RunP P n E o (.int k ((a / b : Nat) : Int)) := by
  have := rp_quo (P := P) (n := n) ho hx hy (by omega)
  rwa [tdiv_nat, hf] at this
theorem rem_nat {t t' : TypeId} {x y : Operand} {k : IntKind} {a b : Nat} (ho : o.op = .binOp .rem t x y t') (hx : ev E x = some (.int k (a : Int))) (hy : ev E y = some (.int k (b : Int))) (hb : b ≠ 0) : RunP P n E o (.int k ((a % b : Nat) : Int)) := by
  have := rp_rem (P := P) (n := n) ho hx hy (by omega)
  rwa [Int.tmod_eq_emod_of_nonneg (by omega), ← Int.natCast_emod] at this
theorem beq_dec (a b : List UInt8) : (a == b) = decide (a = b) := by
  by_cases h : a = b
  · rw [decide_eq_true h, beq_iff_eq]; exact h
  · rw [decide_eq_false h]; exact beq_eq_false_iff_ne.mpr h
theorem rp_strEq {t t' : TypeId} {x y : Operand} {a b : List UInt8} (ho : o.op = .binOp .eql t x y t') (hx : ev E x = some (.string ⟨a.toArray⟩)) (hy : ev E y = some (.string ⟨b.toArray⟩)) : RunP P n E o (.bool (decide (a = b))) :=
  rp_binS ho hx hy (by simp [binS, ByteArray.toList_mk, beq_dec])
theorem rp_strNe {t t' : TypeId} {x y : Operand} {a b : List UInt8} (ho : o.op = .binOp .neq t x y t') (hx : ev E x = some (.string ⟨a.toArray⟩)) (hy : ev E y = some (.string ⟨b.toArray⟩)) : RunP P n E o (.bool (decide (a ≠ b))) :=
  rp_binS ho hx hy (by simp [binS, ByteArray.toList_mk, beq_dec])
theorem rp_strEq_t {t t' : TypeId} {x y : Operand} {a b : List UInt8} (ho : o.op = .binOp .eql t x y t') (hx : ev E x = some (.string ⟨a.toArray⟩)) (hy : ev E y = some (.string ⟨b.toArray⟩)) (h : a = b) : RunP P n E o (.bool true) := by
  have := rp_strEq (P := P) (n := n) ho hx hy; rwa [decide_eq_true h] at this
theorem rp_strEq_f {t t' : TypeId} {x y : Operand} {a b : List UInt8} (ho : o.op = .binOp .eql t x y t') (hx : ev E x = some (.string ⟨a.toArray⟩)) (hy : ev E y = some (.string ⟨b.toArray⟩)) (h : a ≠ b) : RunP P n E o (.bool false) := by
  have := rp_strEq (P := P) (n := n) ho hx hy; rwa [decide_eq_false h] at this
theorem rp_strNe_t {t t' : TypeId} {x y : Operand} {a b : List UInt8} (ho : o.op = .binOp .neq t x y t') (hx : ev E x = some (.string ⟨a.toArray⟩)) (hy : ev E y = some (.string ⟨b.toArray⟩)) (h : a ≠ b) : RunP P n E o (.bool true) := by
  have := rp_strNe (P := P) (n := n) ho hx hy; rwa [decide_eq_true h] at this
theorem rp_strNe_f {t t' : TypeId} {x y : Operand} {a b : List UInt8} (ho : o.op = .binOp .neq t x y t') (hx : ev E x = some (.string ⟨a.toArray⟩)) (hy : ev E y = some (.string ⟨b.toArray⟩)) (h : a = b) : RunP P n E o (.bool false) := by
  have := rp_strNe (P := P) (n := n) ho hx hy; rwa [decide_eq_false (by simpa using h)] at this

/-! ### Bits of naturals -/
theorem ofInt_nat (m a : Nat) : (BitVec.ofInt m (a : Int)) = BitVec.ofNat m a := by
  apply BitVec.eq_of_toNat_eq; simp [BitVec.toNat_ofInt]
  try (rw [← Int.natCast_pow, ← Int.natCast_emod]; simp)
theorem or_u64 {a b : Nat} (ha : a < 18446744073709551616) (hb : b < 18446744073709551616) : binI .or .u64 (a : Int) (b : Int) = some (.int .u64 ((a ||| b : Nat) : Int)) := by
  have h1 : (BitVec.ofInt 64 (a : Int) ||| BitVec.ofInt 64 (b : Int)).toNat = a ||| b := by
    rw [ofInt_nat, ofInt_nat, BitVec.toNat_or, BitVec.toNat_ofNat, BitVec.toNat_ofNat, Nat.mod_eq_of_lt ha, Nat.mod_eq_of_lt hb]
  have h2 : (BitVec.ofInt IntKind.u64.bits (a : Int) ||| BitVec.ofInt IntKind.u64.bits (b : Int)).toNat = a ||| b := h1
  have h3 : a ||| b < 2 ^ 64 := Nat.or_lt_two_pow ha hb
  simp only [binI, h2]
  rw [wrapu64 (by omega)]
theorem or_add_u64 {a y s : Nat} (ha : a < 2 ^ s) (hb : y * 2 ^ s < 18446744073709551616) (hs : a < 18446744073709551616) : binI .or .u64 (a : Int) ((y * 2 ^ s : Nat) : Int) = some (.int .u64 ((a + y * 2 ^ s : Nat) : Int)) := by
  rw [or_u64 hs hb, Nat.or_comm, Nat.mul_comm y, ← Nat.two_pow_add_eq_or_of_lt ha, Nat.add_comm]
theorem shl_u64 {t t' : TypeId} {x y : Operand} {k' : IntKind} {a : Nat} {b : Int} (m : Nat) (ho : o.op = .binOp .shl t x y t') (hx : ev E x = some (.int .u64 (a : Int))) (hy : ev E y = some (.int k' b)) (hb : b = (m : Int)) (hm : m ≤ 63) (hf : a * 2 ^ m < 18446744073709551616) :
    RunP P n E o (.int .u64 ((a * 2 ^ m : Nat) : Int)) := by
  have := rp_shl (P := P) (n := n) m ho hx hy ⟨by omega, by simp only [IntKind.bits]; omega⟩
  rw [show (a : Int) * 2 ^ m = ((a * 2 ^ m : Nat) : Int) by simp, wrapu64 (by omega)] at this
  exact this
theorem and127 (c : UInt8) : binI .and .u8 (c.toNat : Int) 127 = some (.int .u8 ((c.toNat % 128 : Nat) : Int)) := by
  have h1 : (BitVec.ofInt 8 (c.toNat : Int) &&& BitVec.ofInt 8 127).toNat = c.toNat % 128 := by
    rw [ofInt_nat, show BitVec.ofInt 8 127 = BitVec.ofNat 8 127 by decide, BitVec.toNat_and, BitVec.toNat_ofNat, BitVec.toNat_ofNat]
    have : ∀ k < 256, (k &&& 127 % 2 ^ 8) = k % 128 := by decide +kernel
    rw [this _ (Nat.mod_lt _ (by decide))]
    omega
  have h2 : (BitVec.ofInt IntKind.u8.bits (c.toNat : Int) &&& BitVec.ofInt IntKind.u8.bits 127).toNat = c.toNat % 128 := h1
  simp only [binI, h2]
  rw [wrapu8 (by omega)]

/-- A panic with one entry. -/
abbrev pan (t : TypeId) (v : Value) : List PanicEntry := [{ v := .iface t v, recovered := false }]

end
end Go.Eng
