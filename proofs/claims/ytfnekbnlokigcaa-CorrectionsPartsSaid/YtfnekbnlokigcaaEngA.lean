/- The engine, part one: worlds that extend one another, an environment of known temporaries, and the rules of code over it. -/
import Derived.Below
import Derived.Orders
import Derived.Tactics
import Derived.Deep.LoopGhost
import Derived.OrdersIn
import Derived.TacticsIn
import Derived.RangeFuncRecord
set_option linter.unusedVariables false
namespace Go.Eng
open Go

/-! ## Worlds -/

/-- Nothing that was there has changed, but for the blocks in X. -/
structure Ext (X : List Nat) (w w' : World) : Prop where
  os : w'.os = w.os
  tape : w'.tape = w.tape
  output : w'.output = w.output
  size : w.heap.size ≤ w'.heap.size
  keep : ∀ k, k < w.heap.size → k ∉ X → w'.heap[k]? = w.heap[k]?
  drawn : w.drawn ≤ w'.drawn

theorem Ext.refl (X : List Nat) (w : World) : Ext X w w := ⟨rfl, rfl, rfl, Nat.le_refl _, fun _ _ _ => rfl, Nat.le_refl _⟩
theorem Ext.trans {X : List Nat} {a b c : World} (h : Ext X a b) (k : Ext X b c) : Ext X a c :=
  ⟨k.os.trans h.os, k.tape.trans h.tape, k.output.trans h.output, Nat.le_trans h.size k.size,
    fun i hi hx => (k.keep i (Nat.lt_of_lt_of_le hi h.size) hx).trans (h.keep i hi hx), Nat.le_trans h.drawn k.drawn⟩
theorem Ext.mono {X Y : List Nat} {a b : World} (h : Ext X a b) (hs : ∀ k, k ∈ X → k ∈ Y) : Ext Y a b :=
  ⟨h.os, h.tape, h.output, h.size, fun i hi hx => h.keep i hi fun hm => hx (hs i hm), h.drawn⟩
theorem Ext.up {X : List Nat} {a b : World} (h : Ext [] a b) : Ext X a b := h.mono (by simp)
theorem Ext.below {w w' : World} (h : Ext [] w w') : Go.RowKit.Below w.heap.size w w' :=
  ⟨h.os, h.tape, h.output, h.size, fun k hk => h.keep k hk (by simp)⟩
/-- What only touched new blocks left the old ones alone. -/
theorem Ext.fresh {X : List Nat} {w w' : World} (h : Ext X w w') (hx : ∀ k, k ∈ X → w.heap.size ≤ k) : Ext [] w w' :=
  ⟨h.os, h.tape, h.output, h.size, fun k hk _ => h.keep k hk fun hm => by have := hx k hm; omega, h.drawn⟩
/-- Joined: what the second changes was free to change, or is new. -/
theorem Ext.join {X Y : List Nat} {a b c : World} (h : Ext X a b) (k : Ext Y b c) (hY : ∀ y, y ∈ Y → y ∈ X ∨ a.heap.size ≤ y) : Ext X a c :=
  ⟨k.os.trans h.os, k.tape.trans h.tape, k.output.trans h.output, Nat.le_trans h.size k.size, fun j hj hx => (k.keep j (Nat.lt_of_lt_of_le hj h.size) fun hm => by
    rcases hY j hm with h1 | h1
    · exact hx h1
    · omega).trans (h.keep j hj hx), Nat.le_trans h.drawn k.drawn⟩
theorem Ext.draw (X : List Nat) (w : World) : Ext X w { w with drawn := w.drawn + 1 } := ⟨rfl, rfl, rfl, Nat.le_refl _, fun _ _ _ => rfl, Nat.le_succ _⟩
theorem Ext.push (X : List Nat) (w : World) (o : Obj) : Ext X w { w with heap := w.heap.push o } :=
  ⟨rfl, rfl, rfl, by simp, fun k hk _ => by simp [Array.getElem?_push, Nat.ne_of_lt hk], Nat.le_refl _⟩
theorem Ext.set {X : List Nat} (w : World) (a : Addr) (v : Value) (h : a.block ∈ X) : Ext X w (w.setCell a v) :=
  ⟨rfl, rfl, rfl, by simp [World.setCell], fun k _ hx => by
    simp only [World.setCell, Array.getElem?_modify]
    rw [if_neg (fun e : a.block = k => hx (by rw [← e]; exact h))], Nat.le_refl _⟩

theorem Ext.cell {X : List Nat} {w w' : World} (h : Ext X w w') {a : Addr} {v : Value} (hc : w.cell? a = some v) (hx : a.block ∉ X) : w'.cell? a = some v := by
  have hlt : a.block < w.heap.size := by
    rcases Nat.lt_or_ge a.block w.heap.size with h1 | h1
    · exact h1
    · simp [World.cell?, Array.getElem?_eq_none h1] at hc
  have := h.keep a.block hlt hx
  unfold World.cell? at hc ⊢
  rw [this]
  exact hc
theorem Ext.cell0 {w w' : World} (h : Ext [] w w') {a : Addr} {v : Value} (hc : w.cell? a = some v) : w'.cell? a = some v := h.cell hc (by simp)

/-! ## The environment -/

abbrev Env := List (Nat × Value)

def get : Env → Nat → Option Value
  | [], _ => none
  | (k, v) :: r, t => match Nat.beq k t with | true => some v | false => get r t

def ev (E : Env) : Operand → Option Value
  | .tmp t => get E t
  | .const v => some v
  | .global g => some (.pointer (some ⟨g, 0, none⟩))
  | .func f => some (.func (.func f) #[] #[])

def evs (E : Env) : List Operand → Option (List Value)
  | [] => some []
  | x :: r => match ev E x, evs E r with
    | some v, some l => some (v :: l)
    | _, _ => none

def putE (E : Env) (d : Option Tmp) (v : Value) : Env :=
  match d with
  | some t => (t, v) :: E
  | none => E

def dstOk (n : Nat) : Option Tmp → Bool
  | some t => Nat.blt t n
  | none => true

structure Agr (n : Nat) (E : Env) (a : Act) : Prop where
  size : a.tmps.size = n
  val : ∀ t v, get E t = some v → a.tmps[t]? = some v

theorem get_cons (k t : Nat) (v : Value) (E : Env) : get ((k, v) :: E) t = if k = t then some v else get E t := by
  simp only [get]
  by_cases h : k = t
  · subst h; simp
  · have : Nat.beq k t = false := by
      cases hb : Nat.beq k t
      · rfl
      · exact absurd (Nat.eq_of_beq_eq_true hb) h
    simp [this, h]

theorem Agr.put {n : Nat} {E : Env} {a : Act} (h : Agr n E a) {d : Option Tmp} (hd : dstOk n d = true) (v : Value) : Agr n (putE E d v) (a.put d v) := by
  cases d with
  | none => exact h
  | some t =>
    have ht : t < n := by simpa [dstOk, Nat.blt_eq] using hd
    refine ⟨by simp [Act.put, h.size], fun s u hs => ?_⟩
    simp only [putE, get_cons] at hs
    simp only [Act.put, Array.getElem?_setIfInBounds]
    by_cases he : t = s
    · subst he
      simp only [if_true] at hs
      simp [h.size, ht, Option.some.inj hs]
    · simp only [he, if_false] at hs ⊢
      exact h.val s u hs

theorem Agr.weaken {n : Nat} {E E' : Env} {a : Act} (h : Agr n E a) (hs : ∀ t v, get E' t = some v → get E t = some v) : Agr n E' a :=
  ⟨h.size, fun t v ht => h.val t v (hs t v ht)⟩

theorem Agr.eval {n : Nat} {E : Env} {a : Act} (h : Agr n E a) {x : Operand} {v : Value} (hx : ev E x = some v) : a.eval x = v := by
  cases x with
  | tmp t => simp only [ev] at hx; simp [Act.eval, h.val t v hx]
  | const u => simpa [ev, Act.eval] using hx
  | global g => simpa [ev, Act.eval] using hx
  | func f => simpa [ev, Act.eval] using hx

theorem Agr.evals {n : Nat} {E : Env} {a : Act} (h : Agr n E a) : ∀ {xs : List Operand} {vs : List Value}, evs E xs = some vs → xs.map a.eval = vs
  | [], vs, hx => by simp [evs] at hx; simp [hx]
  | x :: r, vs, hx => by
    simp only [evs] at hx
    split at hx
    · rename_i v l h1 h2
      simp only [Option.some.injEq] at hx
      subst hx
      simp [h.eval h1, h.evals h2]
    · cases hx

/-! ## Code -/

abbrev PostE := Exit → Env → World → Prop

def lift (n : Nat) (ds : List Deferred) (Q : PostE) : Exit → Act → World → Prop := fun e a w => ∃ E, Agr n E a ∧ a.defers = ds ∧ Q e E w

/-- The widest fence, for an activation (none) or for a round of loop l. -/
def wideR (ro : Option Nat) : Fence := { Fence.wide with round := ro }
theorem wideR_room (ro : Option Nat) (k : Nat) : (wideR ro).room k := fun _ h => by cases h

/-- From every frame that agrees with E the code leads to Q. -/
def Sx (ro : Option Nat) (P : Program) (n : Nat) (ds : List Deferred) (c : Code) (Q : PostE) (E : Env) (w : World) : Prop :=
  ∀ a, Agr n E a → a.defers = ds → c.wpIn (wideR ro) 0 P (lift n ds Q) a w

theorem Sx.wp {P : Program} {n : Nat} {ds : List Deferred} {c : Code} {Q : PostE} {E : Env} {w : World} (h : Sx none P n ds c Q E w) {a : Act} (ha : Agr n E a) (hd : a.defers = ds) : c.wp P (lift n ds Q) a w :=
  wpIn_wide.1 (show c.wpIn Fence.wide 0 P (lift n ds Q) a w from h a ha hd)

theorem wpIn_loop_num {F : Fence} {rm : Nat} {P : Program} {Q : Exit → Act → World → Prop} {a : Act} {w : World} {c : Code} (I : Nat → Act → World → Prop) (n₀ : Nat) (h₀ : I n₀ a w)
    (round : ∀ n a w, I n a w → c.wpIn F rm P (Exit.then (fun a' w' => ∃ n', n' < n ∧ I n' a' w') Q) a w) : (Code.loop c).wpIn F rm P Q a w := by
  refine wpIn_loop (fun a w => ∃ n, I n a w) (fun a w => leastOf (fun n => I n a w)) ⟨n₀, h₀⟩ ?_
  intro a w hI
  refine wpIn_mono (round _ a w (leastOf_spec hI).1) ?_
  intro e a' w' hq
  cases e with
  | normal =>
    obtain ⟨n', hlt, hI'⟩ := hq
    exact show (∃ n, I n a' w') ∧ leastOf (fun n => I n a' w') < leastOf (fun n => I n a w) from ⟨⟨n', hI'⟩, Nat.lt_of_le_of_lt ((leastOf_spec ⟨n', hI'⟩).2 n' hI') hlt⟩
  | _ => exact hq

def thenE (K : Env → World → Prop) (Q : PostE) : PostE
  | .normal, E, w => K E w
  | e, E, w => Q e E w

def blockE (id : Nat) (Q : PostE) : PostE
  | .exit j, E, w => match Nat.beq j id with | true => Q .normal E w | false => Q (.exit j) E w
  | e, E, w => Q e E w

section
variable {ro : Option Nat} {P : Program} {n : Nat} {ds : List Deferred} {Q : PostE} {E : Env} {w : World}

theorem Sx.mono {c : Code} {Q' : PostE} (h : Sx ro P n ds c Q E w) (hq : ∀ e E w, Q e E w → Q' e E w) : Sx ro P n ds c Q' E w :=
  fun a ha hd => wpIn_mono (h a ha hd) fun e a' w' ⟨E', h1, h2, h3⟩ => ⟨E', h1, h2, hq e E' w' h3⟩
theorem Sx.weaken {c : Code} {E' : Env} (h : Sx ro P n ds c Q E' w) (hs : ∀ t v, get E' t = some v → get E t = some v) : Sx ro P n ds c Q E w :=
  fun a ha hd => h a (ha.weaken hs) hd
theorem Sx.skip (h : Q .normal E w) : Sx ro P n ds .skip Q E w := fun a ha hd => wpIn_skip ⟨E, ha, hd, h⟩
theorem Sx.label {l : Nat} (h : Q .normal E w) : Sx ro P n ds (.label l) Q E w := fun a ha hd => wpIn_label ⟨E, ha, hd, h⟩
theorem Sx.ret (h : Q .ret E w) : Sx ro P n ds .ret Q E w := fun a ha hd => wpIn_ret ⟨E, ha, hd, h⟩
theorem Sx.exit {id : Nat} (h : Q (.exit id) E w) : Sx ro P n ds (.exit id) Q E w := fun a ha hd => wpIn_exit ⟨E, ha, hd, h⟩
theorem Sx.seq {x y : Code} (h : Sx ro P n ds x (thenE (Sx ro P n ds y Q) Q) E w) : Sx ro P n ds (.seq x y) Q E w :=
  fun a ha hd => wpIn_seq (wpIn_mono (h a ha hd) fun e a' w' ⟨E', h1, h2, h3⟩ => by
    cases e <;> first | exact h3 a' h1 h2 | exact ⟨E', h1, h2, h3⟩)
theorem Sx.cond {c : Operand} {x y : Code} {b : Bool} (hc : ev E c = some (.bool b)) (ht : b = true → Sx ro P n ds x Q E w) (hf : b = false → Sx ro P n ds y Q E w) :
    Sx ro P n ds (.cond c x y) Q E w :=
  fun a ha hd => wpIn_cond_split (ha.eval hc) (fun h => ht h a ha hd) (fun h => hf h a ha hd)
theorem Sx.cond_dec {c : Operand} {x y : Code} {p : Prop} [Decidable p] (hc : ev E c = some (.bool (decide p))) (ht : p → Sx ro P n ds x Q E w) (hf : ¬ p → Sx ro P n ds y Q E w) :
    Sx ro P n ds (.cond c x y) Q E w :=
  Sx.cond hc (fun h => ht (of_decide_eq_true h)) (fun h => hf (of_decide_eq_false h))
theorem Sx.cond_true {c : Operand} {x y : Code} (hc : ev E c = some (.bool true)) (ht : Sx ro P n ds x Q E w) : Sx ro P n ds (.cond c x y) Q E w :=
  Sx.cond hc (fun _ => ht) (fun h => by cases h)
theorem Sx.cond_false {c : Operand} {x y : Code} (hc : ev E c = some (.bool false)) (hf : Sx ro P n ds y Q E w) : Sx ro P n ds (.cond c x y) Q E w :=
  Sx.cond hc (fun h => by cases h) (fun _ => hf)
theorem Sx.block {id : Nat} {c : Code} (h : Sx ro P n ds c (blockE id Q) E w) : Sx ro P n ds (.block id c) Q E w :=
  fun a ha hd => wpIn_block (wpIn_mono (h a ha hd) fun e a' w' ⟨E', h1, h2, h3⟩ => by
    cases e with
    | exit j =>
      simp only [Exit.inBlock]
      simp only [blockE] at h3
      by_cases hj : j = id
      · subst hj; simp at h3; simp; exact ⟨E', h1, h2, h3⟩
      · have hb : Nat.beq j id = false := by
          cases hb : Nat.beq j id
          · rfl
          · exact absurd (Nat.eq_of_beq_eq_true hb) hj
        rw [hb] at h3
        simp only [hj, if_false]
        exact ⟨E', h1, h2, h3⟩
    | _ => exact ⟨E', h1, h2, h3⟩)
/-- A loop: an invariant on environment and world, and a measure. The end of a round may know more than the invariant names. -/
theorem Sx.loop {c : Code} {ι : Type} (I : ι → Env → World → Prop) (μ : ι → Nat) (i₀ : ι) {E₀ : Env} (hs : ∀ t v, get E₀ t = some v → get E t = some v) (h₀ : I i₀ E₀ w)
    (round : ∀ i E w, I i E w → Sx ro P n ds c (thenE (fun E' w' => ∃ j E'', (∀ t v, get E'' t = some v → get E' t = some v) ∧ I j E'' w' ∧ μ j < μ i) Q) E w) :
    Sx ro P n ds (.loop c) Q E w := by
  intro a ha hd
  refine wpIn_loop_num (fun k a w => a.defers = ds ∧ ∃ i E, Agr n E a ∧ I i E w ∧ μ i = k) (μ i₀) ⟨hd, i₀, E₀, ha.weaken hs, h₀, rfl⟩ fun k a w ⟨hd, i, E, h1, h2, h3⟩ => ?_
  refine wpIn_mono (round i E w h2 a h1 hd) fun e a' w' ⟨E', g1, g2, g3⟩ => ?_
  cases e with
  | normal =>
    obtain ⟨j, E'', k1, k2, k3⟩ := g3
    exact ⟨μ j, by omega, g2, j, E'', g1.weaken k1, k2, rfl⟩
  | _ => exact ⟨E', g1, g2, g3⟩

end

/-! ## A call of a function -/

def entryEnv : Nat → List Value → Env
  | _, [] => []
  | k, v :: r => (k, v) :: entryEnv (k + 1) r

theorem get_entry : ∀ (k : Nat) (vs : List Value) (t : Nat) (v : Value), get (entryEnv k vs) t = some v → k ≤ t ∧ vs[t - k]? = some v
  | k, [], t, v, h => by cases h
  | k, u :: r, t, v, h => by
    simp only [entryEnv, get_cons] at h
    by_cases hk : k = t
    · subst hk; simp at h; simp [h]
    · simp only [hk, if_false] at h
      have := get_entry (k + 1) r t v h
      refine ⟨by omega, ?_⟩
      have h2 : t - k = (t - (k + 1)) + 1 := by omega
      rw [h2]; simpa using this.2

/-- A variable of type t is read at address a. -/
def Ld (P : Program) (w : World) (t : TypeId) (a : Addr) (v : Value) : Prop := (loadVar t a).run P w = .ok v w

/-- How a function's results are read out of the environment. -/
def resOK (P : Program) (E : Env) (w : World) : List ResultVar → List Value → Prop
  | [], [] => True
  | .tmp t :: r, v :: l => get E t = some v ∧ resOK P E w r l
  | .cell a t :: r, v :: l => (∃ p, get E a = some (.pointer (some p)) ∧ Ld P w t p v) ∧ resOK P E w r l
  | _, _ => False

def resV : List Value → Value
  | [v] => v
  | l => .tuple l.toArray

/-- What a body owes at its end. -/
def endE (fn : Func) (P : Program) (R : Ending → World → Prop) : PostE
  | .ret, E, w | .normal, E, w => ∃ v, (∀ tmps : Array Value, (∀ t v, get E t = some v → tmps[t]? = some v) → (results fn tmps).run P w = .ok v w) ∧ R (.returned v) w
  | .panic chain, _, w => R (.panicked chain) w
  | _, _, _ => False

theorem calls_of_Sx {P : Program} {f : FuncId} {fn : Func} {c : Code} {args : List Value} {w : World} {R : Ending → World → Prop}
    (hf : P.funcs[f]? = some fn) (hb : fn.body = some c) (hn : Nat.ble args.length fn.ntmps = true) (h : Sx none P fn.ntmps [] c (endE fn P R) (entryEnv 0 args) w) : Calls P f args.toArray w R := by
  have hn' : args.length ≤ fn.ntmps := Nat.le_of_ble_eq_true hn
  refine calls_of_wp hf hb (wp_mono (h.wp ⟨?_, ?_⟩ rfl) ?_)
  · simp; omega
  · intro t v ht
    have := get_entry 0 args t v ht
    have h2 : args[t]? = some v := by simpa using this.2
    have h3 : t < args.length := by
      rcases Nat.lt_or_ge t args.length with h4 | h4
      · exact h4
      · rw [List.getElem?_eq_none h4] at h2; cases h2
    rw [Array.getElem?_append_left (by simpa using h3)]
    simpa using h2
  · rintro e a' w' ⟨E', h1, h2, h3⟩
    cases e with
    | normal => obtain ⟨v, hv, hR⟩ := h3; exact ⟨h2, v, hv _ h1.val, hR⟩
    | ret => obtain ⟨v, hv, hR⟩ := h3; exact ⟨h2, v, hv _ h1.val, hR⟩
    | panic chain => exact ⟨h2, h3⟩
    | exit id => exact h3
    | goto l => exact h3
    | outgrown => exact h3.elim

theorem results_run {fn : Func} {P : Program} {w : World} {E : Env} {vs : List Value} (hr : resOK P E w fn.results.toList vs) :
    ∀ tmps : Array Value, (∀ t v, get E t = some v → tmps[t]? = some v) → (results fn tmps).run P w = .ok (resV vs) w := by
  intro tmps ht
  have key : ∀ (rs : List ResultVar) (vs : List Value), resOK P E w rs vs →
      (rs.mapM (m := Sem) fun | .tmp t => pure (tmps.getD t undef) | .cell a t => do loadVar t (← asAddr (tmps.getD a undef))).run P w = .ok vs w := by
    intro rs
    induction rs with
    | nil => intro vs h; cases vs <;> simp_all [resOK]
    | cons r rs ih =>
      intro vs h
      cases vs with
      | nil => cases r <;> simp [resOK] at h
      | cons v l =>
        cases r with
        | tmp t =>
          obtain ⟨h1, h2⟩ := h
          have h5 : tmps.getD t undef = v := by
            rw [Array.getD_eq_getD_getElem?, ht t v h1]; rfl
          simp only [List.mapM_cons, Sem.run_bind, Sem.run_pure, Result.andThen_ok, h5, ih l h2]
        | cell a t =>
          obtain ⟨⟨p, h1, h3⟩, h2⟩ := h
          have h5 : tmps.getD a undef = .pointer (some p) := by
            rw [Array.getD_eq_getD_getElem?, ht a _ h1]; rfl
          have h6 : (asAddr (tmps.getD a undef)).run P w = .ok p w := by rw [h5]; rfl
          unfold Ld at h3
          simp only [List.mapM_cons, Sem.run_bind, Sem.run_pure, Result.andThen_ok, h6, h3, ih l h2]
  have hl := key fn.results.toList vs hr
  unfold results
  have harr : fn.results = fn.results.toList.toArray := by simp
  rw [harr, List.mapM_toArray]
  rw [Sem.run_bind, Sem.run_map]
  refine Eq.trans (congrArg (fun r : Result (List Value) => (r.andThen _).andThen _) hl) ?_
  rcases vs with _ | ⟨v, _ | ⟨u, l⟩⟩ <;> simp [resV]

theorem endE_ret {fn : Func} {P : Program} {R : Ending → World → Prop} {E : Env} {w : World} (vs : List Value) (hr : resOK P E w fn.results.toList vs) (h : R (.returned (resV vs)) w) :
    endE fn P R .ret E w := ⟨_, results_run hr, h⟩
theorem endE_normal {fn : Func} {P : Program} {R : Ending → World → Prop} {E : Env} {w : World} (vs : List Value) (hr : resOK P E w fn.results.toList vs) (h : R (.returned (resV vs)) w) :
    endE fn P R .normal E w := ⟨_, results_run hr, h⟩

end Go.Eng
