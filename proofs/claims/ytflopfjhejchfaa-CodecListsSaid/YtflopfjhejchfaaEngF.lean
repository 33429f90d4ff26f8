/- The engine, part two: a region whose operations only read, compute, make new memory or call functions that do no more: (first | assumption | exact List.all_eq_true.mp rfl | simp [Value.cells, Value.oneCell']) walk in the order of the text serves every order. -/
import Derived.Test.YtflopfjhejchfaaEngA
set_option linter.unusedVariables false
namespace Go.Eng
open Go

/-! ## Which operations come before which -/

def maskOf (acc : List Nat) (o : Oper) : Nat :=
  o.after.toList.foldl (fun s e => bif Region.binds .any e then s ||| 2 ^ e.on ||| acc.getD e.on 0 else s) 0

def masksGo : List Oper → List Nat → List Nat
  | [], acc => acc
  | o :: r, acc => masksGo r (acc ++ [maskOf acc o])

def masks (ops : List Oper) : List Nat := masksGo ops []
def anc (ops : List Oper) (k j : Nat) : Bool := ((masks ops).getD k 0).testBit j

theorem masksGo_spec : ∀ (l : List Oper) (acc : List Nat), (masksGo l acc).length = acc.length + l.length ∧ (∀ i, i < acc.length → (masksGo l acc)[i]? = acc[i]?) ∧
    ∀ i o, l[i]? = some o → (masksGo l acc)[acc.length + i]? = some (maskOf ((masksGo l acc).take (acc.length + i)) o)
  | [], acc => ⟨by simp [masksGo], fun i _ => rfl, fun i o h => by simp at h⟩
  | o :: r, acc => by
    obtain ⟨h1, h2, h3⟩ := masksGo_spec r (acc ++ [maskOf acc o])
    refine ⟨by simp only [masksGo]; rw [h1]; simp; omega, fun i hi => ?_, fun i p hp => ?_⟩
    · simp only [masksGo]
      rw [h2 i (by simp; omega), List.getElem?_append_left hi]
    · simp only [masksGo]
      cases i with
      | zero =>
        simp only [List.getElem?_cons_zero, Option.some.injEq] at hp
        subst hp
        rw [h2 _ (by simp)]
        have : (masksGo r (acc ++ [maskOf acc o])).take (acc.length + 0) = acc := by
          apply List.ext_getElem?
          intro j
          by_cases hj : j < acc.length
          · rw [List.getElem?_take_of_lt (by omega), h2 j (by simp; omega), List.getElem?_append_left hj]
          · rw [List.getElem?_eq_none (by simp; omega), List.getElem?_eq_none (by omega)]
        rw [this]
        simp
      | succ i =>
        have := h3 i p (by simpa using hp)
        simp only [List.length_append, List.length_cons, List.length_nil] at this
        rw [show acc.length + (i + 1) = acc.length + (0 + 1) + i by omega]
        exact this

theorem maskOf_bit (acc : List Nat) (j : Nat) : ∀ (es : List Edge) (s : Nat), (es.foldl (fun s e => bif Region.binds .any e then s ||| 2 ^ e.on ||| acc.getD e.on 0 else s) s).testBit j = true →
    s.testBit j = true ∨ ∃ e ∈ es, Region.binds .any e = true ∧ (e.on = j ∨ (acc.getD e.on 0).testBit j = true)
  | [], s, h => .inl h
  | e :: es, s, h => by
    rcases maskOf_bit acc j es _ h with h1 | ⟨e', he', h2⟩
    · cases hb : Region.binds .any e with
      | false => simp only [hb, cond_false] at h1; exact .inl h1
      | true =>
        simp only [hb, cond_true, Nat.testBit_or, Bool.or_eq_true, Nat.testBit_two_pow, decide_eq_true_eq] at h1
        rcases h1 with (h1 | h1) | h1
        · exact .inl h1
        · exact .inr ⟨e, .head _, hb, .inl h1⟩
        · exact .inr ⟨e, .head _, hb, .inr h1⟩
    · exact .inr ⟨e', .tail _ he', h2⟩

theorem anc_spec {ops : List Oper} {k j : Nat} (h : anc ops k j = true) : ∃ o, ops[k]? = some o ∧ ∃ e ∈ o.after, Region.binds .any e = true ∧ (e.on = j ∨ (e.on < k ∧ anc ops e.on j = true)) := by
  obtain ⟨h1, _, h3⟩ := masksGo_spec ops []
  simp only [List.length_nil, Nat.zero_add] at h1 h3
  unfold anc masks at *
  rcases Nat.lt_or_ge k ops.length with hk | hk
  · obtain ⟨o, ho⟩ : ∃ o, ops[k]? = some o := ⟨_, List.getElem?_eq_getElem hk⟩
    refine ⟨o, ho, ?_⟩
    rw [List.getD_eq_getElem?_getD, h3 k o ho] at h
    rcases maskOf_bit _ j _ _ h with h4 | ⟨e, he, hb, h5⟩
    · simp at h4
    · refine ⟨e, by simpa using he, hb, h5.imp id fun h6 => ?_⟩
      rcases Nat.lt_or_ge e.on k with h7 | h7
      · refine ⟨h7, ?_⟩
        rw [List.getD_eq_getElem?_getD] at h6 ⊢
        rwa [List.getElem?_take_of_lt h7] at h6
      · rw [List.getD_eq_getElem?_getD, List.getElem?_eq_none (by simp; omega)] at h6
        simp at h6
  · rw [List.getD_eq_getElem?_getD, List.getElem?_eq_none (by omega)] at h
    simp at h

/-- Every edge leads back; two operations of which none comes before the other have no temporary in common (but for reading). -/
def flowOk (ops : List Oper) : Bool :=
  Region.noSelect ops.toArray &&
  ops.zipIdx.all fun (o, k) => o.after.toList.all (fun e => bif Region.binds .any e then Nat.blt e.on k else true) &&
    ops.zipIdx.all fun (p, i) => bif Nat.blt i k then anc ops k i || p.apart ops.toArray o else true

theorem flowOk_edge {ops : List Oper} (h : flowOk ops = true) {k : Nat} {o : Oper} (ho : ops[k]? = some o) {e : Edge} (he : e ∈ o.after) (hb : Region.binds .any e = true) : e.on < k := by
  simp only [flowOk, Bool.and_eq_true, List.all_eq_true] at h
  have := (h.2 (o, k) (List.mem_iff_getElem?.2 ⟨k, by simp [ho]⟩)).1 e (by simpa using he)
  simpa [hb, Nat.blt_eq] using this
theorem flowOk_apart {ops : List Oper} (h : flowOk ops = true) {i k : Nat} {p o : Oper} (hp : ops[i]? = some p) (ho : ops[k]? = some o) (hik : i < k) : anc ops k i = true ∨ p.apart ops.toArray o = true := by
  simp only [flowOk, Bool.and_eq_true, List.all_eq_true] at h
  have := (h.2 (o, k) (List.mem_iff_getElem?.2 ⟨k, by simp [ho]⟩)).2 (p, i) (List.mem_iff_getElem?.2 ⟨i, by simp [hp]⟩)
  have hb : Nat.blt i k = true := by simpa [Nat.blt_eq] using hik
  simpa [hb] using this

/-! ## Frames by what has been written -/

def runPuts (f : Nat → Option Value) : Nat → List Oper → Act → Act
  | _, [], a => a
  | k, o :: r, a => runPuts f (k + 1) r (match f k with | some v => a.put o.dst v | none => a)

def agreeOn (L : List Tmp) (a b : Act) : Prop := ∀ t ∈ L, a.tmps[t]? = b.tmps[t]?

theorem put_size (a : Act) (d : Option Tmp) (v : Value) : (a.put d v).tmps.size = a.tmps.size := by cases d <;> simp [Act.put]
theorem put_defers (a : Act) (d : Option Tmp) (v : Value) : (a.put d v).defers = a.defers := by cases d <;> rfl

theorem put_get (a : Act) (d : Option Tmp) (v : Value) (t : Tmp) : (a.put d v).tmps[t]? = if d = some t ∧ t < a.tmps.size then some v else a.tmps[t]? := by
  cases d with
  | none => simp [Act.put]
  | some s =>
    simp only [Act.put, Array.getElem?_setIfInBounds, Option.some.injEq]
    by_cases h : s = t
    · subst h
      by_cases h2 : s < a.tmps.size <;> simp [h2]
    · simp [h]

theorem runPuts_size (f : Nat → Option Value) : ∀ (l : List Oper) (k : Nat) (a : Act), (runPuts f k l a).tmps.size = a.tmps.size ∧ (runPuts f k l a).defers = a.defers
  | [], k, a => ⟨rfl, rfl⟩
  | o :: r, k, a => by
    simp only [runPuts]
    have := runPuts_size f r (k + 1) (match f k with | some v => a.put o.dst v | none => a)
    refine ⟨this.1.trans ?_, this.2.trans ?_⟩ <;> split <;> simp [put_size, put_defers]

theorem runPuts_agree {f g : Nat → Option Value} {L : List Tmp} : ∀ (l : List Oper) (k : Nat) (a b : Act),
    (∀ j o, l[j]? = some o → f (k + j) = g (k + j) ∨ ∀ d, o.dst = some d → d ∉ L) → agreeOn L a b → a.tmps.size = b.tmps.size → agreeOn L (runPuts f k l a) (runPuts g k l b)
  | [], k, a, b, _, h, _ => h
  | o :: r, k, a, b, hfg, h, hs => by
    simp only [runPuts]
    refine runPuts_agree r (k + 1) _ _ (fun j p hp => ?_) ?_ ?_
    · have := hfg (j + 1) p (by simpa using hp)
      rwa [show k + (j + 1) = k + 1 + j by omega] at this
    · intro t ht
      rcases hfg 0 o rfl with h1 | h1
      · simp only [Nat.add_zero] at h1
        rw [h1]
        split
        · rw [put_get, put_get, hs, h t ht]
        · exact h t ht
      · have hne : o.dst ≠ some t := fun e => h1 t e ht
        have e1 : (match f k with | some v => a.put o.dst v | none => a).tmps[t]? = a.tmps[t]? := by
          split
          · rw [put_get, if_neg (fun c => hne c.1)]
          · rfl
        have e2 : (match g k with | some v => b.put o.dst v | none => b).tmps[t]? = b.tmps[t]? := by
          split
          · rw [put_get, if_neg (fun c => hne c.1)]
          · rfl
        rw [e1, e2]; exact h t ht
    · have e1 : ∀ (c : Act) (x : Option Value), (match x with | some v => c.put o.dst v | none => c).tmps.size = c.tmps.size := fun c x => by cases x <;> simp [put_size]
      rw [e1, e1]; exact hs

theorem runPuts_ext {f g : Nat → Option Value} : ∀ (l : List Oper) (k : Nat) (a : Act), (∀ j, j < l.length → f (k + j) = g (k + j)) → runPuts f k l a = runPuts g k l a
  | [], k, a, _ => rfl
  | o :: r, k, a, h => by
    have h0 := h 0 (by simp)
    simp only [Nat.add_zero] at h0
    simp only [runPuts, h0]
    exact runPuts_ext r (k + 1) _ fun j hj => by have := h (j + 1) (by simp; omega); rwa [show k + (j + 1) = k + 1 + j by omega] at this

theorem runPuts_put {f : Nat → Option Value} {d : Option Tmp} {v : Value} : ∀ (l : List Oper) (k : Nat) (a : Act), (∀ j o, l[j]? = some o → f (k + j) ≠ none → ∀ t, d = some t → o.dst ≠ some t) →
    runPuts f k l (a.put d v) = (runPuts f k l a).put d v
  | [], k, a, _ => rfl
  | o :: r, k, a, h => by
    simp only [runPuts]
    have ih : ∀ a, runPuts f (k + 1) r (a.put d v) = (runPuts f (k + 1) r a).put d v := fun a => runPuts_put r (k + 1) a fun j p hp hf => h (j + 1) p (by simpa using hp) (by rwa [show k + (j + 1) = k + 1 + j by omega])
    cases hf : f k with
    | none => simp only []; exact ih a
    | some u =>
      simp only []
      rw [Act.put_comm a v u (h 0 o rfl (by simp [hf]))]
      exact ih _

theorem runPuts_set {f : Nat → Option Value} {i : Nat} {v : Value} {oi : Oper} : ∀ (l : List Oper) (k : Nat) (a : Act), k ≤ i → l[i - k]? = some oi → f i = none →
    (∀ j o, l[j]? = some o → i < k + j → f (k + j) ≠ none → ∀ t, oi.dst = some t → o.dst ≠ some t) →
    runPuts (fun j => if j = i then some v else f j) k l a = (runPuts f k l a).put oi.dst v
  | [], k, a, _, h, _, _ => by simp at h
  | o :: r, k, a, hk, hi, hf, h => by
    simp only [runPuts]
    by_cases hki : k = i
    · subst hki
      simp only [Nat.sub_self, List.getElem?_cons_zero, Option.some.injEq] at hi
      subst hi
      simp only [if_true, hf]
      rw [runPuts_ext (g := f) r (k + 1) _ (fun j hj => by rw [if_neg (by omega)])]
      exact runPuts_put r (k + 1) a fun j p hp hf' => h (j + 1) p (by simpa using hp) (by omega) (by rwa [show k + (j + 1) = k + 1 + j by omega])
    · rw [if_neg hki]
      exact runPuts_set r (k + 1) _ (by omega) (by rw [show i - k = (i - (k + 1)) + 1 by omega] at hi; simpa using hi) hf fun j p hp hlt hf' => h (j + 1) p (by simpa using hp) (by omega) (by rwa [show k + (j + 1) = k + 1 + j by omega])

theorem exec_agree {ops : Array Oper} {o : Oper} (hs : ∀ cs b, o.op ≠ .select cs b) {a b : Act} (h : agreeOn (o.looksAt ops) a b) : execOp a.eval o = execOp b.eval o :=
  execOp_congr o hs fun x hx => by
    cases x with
    | tmp t =>
      have := h t (List.mem_append_left _ (List.mem_filterMap.2 ⟨.tmp t, by simpa using hx, rfl⟩))
      simp only [Act.eval, Array.getD_eq_getD_getElem?, this]
    | _ => rfl

theorem wanted_agree {ops : Array Oper} {o : Oper} {a b : Act} (h : agreeOn (o.looksAt ops) a b) : Region.wanted o (yielded ops a.tmps) = Region.wanted o (yielded ops b.tmps) := by
  unfold Region.wanted
  cases hg : o.guard with
  | none => rfl
  | some g =>
    obtain ⟨j, want⟩ := g
    simp only
    have : yielded ops a.tmps j = yielded ops b.tmps j := by
      unfold yielded
      cases hd : (ops[j]?).bind (·.dst) with
      | none => rfl
      | some d =>
        have := h d (List.mem_append_right _ (by simp [hg, hd]))
        simp only [Option.bind_some, this]
    rw [this]


/-! ## The walk in the order of the text -/

def wantedE (ops : List Oper) (E : Env) : Option (Nat × Bool) → Option Bool
  | none => some true
  | some (j, want) => match (ops[j]?).bind (·.dst) with
    | none => some false
    | some d => match get E d with
      | some (.bool b) => some (b == want)
      | some (.int _ _) | some (.tuple _) | some (.string _) | some (.pointer _) | some (.slice _ _ _) => some false
      | _ => none

abbrev Claims := List (Nat × (World → Prop))

def Claims.hold (Ts : Claims) (f : Nat → Bool) (u : World) : Prop := ∀ p ∈ Ts, f p.1 = true → p.2 u

/-- The operation yields v, and the world is as it was. -/
def valAt (P : Program) (o : Oper) (a : Act) (u : World) (v : Value) : Prop :=
  (execOp a.eval o).run P u = .ok (.value v) u ∨ ((execOp a.eval o).run P u = .ok .skip u ∧ v = undef)

/-- The operation yields some v of which T holds in the world that it leaves, and it leaves all that was there alone. -/
def newAt (P : Program) (o : Oper) (a : Act) (u : World) (T : Value → World → Prop) : Prop :=
  (∃ v u', (execOp a.eval o).run P u = .ok (.value v) u' ∧ Ext [] u u' ∧ T v u') ∨
  (∃ f args u', (execOp a.eval o).run P u = .ok (.enter f args) u' ∧ Ext [] u u' ∧ Calls P f args u' fun e u'' => ∃ v, e = .returned v ∧ Ext [] u' u'' ∧ T v u'')

def StepV (P : Program) (n : Nat) (ops : List Oper) (w0 : World) (k : Nat) (E : Env) (Ts : Claims) (o : Oper) (v : Value) : Prop :=
  ∀ a u, Ext [] w0 u → Ts.hold (anc ops k) u → Agr n E a → valAt P o a u v
def StepN (P : Program) (n : Nat) (ops : List Oper) (w0 : World) (k : Nat) (E : Env) (Ts : Claims) (o : Oper) (T : Value → World → Prop) : Prop :=
  ∀ a u, Ext [] w0 u → Ts.hold (anc ops k) u → Agr n E a → newAt P o a u T

/-- What is claimed of the value of operation k, if it is one whose value is not known. -/
abbrev Fam := Nat → Option (Value → World → Prop)

def Fam.stays (Tf : Fam) : Prop := ∀ k T, Tf k = some T → ∀ v u u', Ext [] u u' → T v u → T v u'

def Fl (P : Program) (n : Nat) (ops : List Oper) (w0 : World) (Tf : Fam) (K : Env → World → Prop) : Nat → List Oper → Env → Claims → Prop
  | _, [], E, Ts => ∀ u, Ext [] w0 u → Ts.hold (fun _ => true) u → K E u
  | k, o :: r, E, Ts => dstOk n o.dst = true ∧ ∃ b, wantedE ops E o.guard = some b ∧
    (b = false → Fl P n ops w0 Tf K (k + 1) r (putE E o.dst undef) Ts) ∧
    (b = true → match Tf k with
      | none => ∃ v, StepV P n ops w0 k E Ts o v ∧ Fl P n ops w0 Tf K (k + 1) r (putE E o.dst v) Ts
      | some T => StepN P n ops w0 k E Ts o T ∧ ∀ v, (∃ u, Ext [] w0 u ∧ T v u) → Fl P n ops w0 Tf K (k + 1) r (putE E o.dst v) ((k, T v) :: Ts))

theorem wanted_of_E {ops : List Oper} {n : Nat} {E : Env} {o : Oper} {b : Bool} {a : Act} (h : wantedE ops E o.guard = some b) (ha : Agr n E a) : Region.wanted o (yielded ops.toArray a.tmps) = b := by
  unfold Region.wanted
  cases hg : o.guard with
  | none => rw [hg] at h; simpa [wantedE] using h
  | some g =>
    obtain ⟨j, want⟩ := g
    rw [hg] at h
    simp only [wantedE] at h
    simp only [yielded, List.getElem?_toArray]
    cases hd : (ops[j]?).bind (·.dst) with
    | none => rw [hd] at h; simp at h; simp [← h]
    | some d =>
      rw [hd] at h
      simp only at h
      simp only [Option.bind_some]
      cases hv : get E d with
      | none => rw [hv] at h; simp at h
      | some v =>
        rw [hv] at h
        rw [ha.val d v hv]
        cases v <;> simp at h <;> simp [← h]

section sound
variable {P : Program} {n : Nat} {ds : List Deferred} {ops : List Oper} {w0 : World} {Tf : Fam} {K : Env → World → Prop} {E0 : Env} {a0 : Act}

/-- The frame in which operation k stands in the text's order. -/
def actAt (ops : List Oper) (a0 : Act) (vals : Nat → Value) (k : Nat) : Act := runPuts (fun j => if j < k then some (vals j) else none) 0 ops a0

/-- The value of operation k is a right one, here and in all that follows. -/
def Good (P : Program) (ops : List Oper) (Tf : Fam) (a0 : Act) (vals : Nat → Value) (k : Nat) (u : World) : Prop :=
  ∀ o, ops[k]? = some o →
    (Region.wanted o (yielded ops.toArray (actAt ops a0 vals k).tmps) = false → vals k = undef) ∧
    (Region.wanted o (yielded ops.toArray (actAt ops a0 vals k).tmps) = true → match Tf k with
      | none => ∀ u', Ext [] u u' → valAt P o (actAt ops a0 vals k) u' (vals k)
      | some T => T (vals k) u)

theorem Good.later (hst : Tf.stays) {vals : Nat → Value} {k : Nat} {u u' : World} (h : Good P ops Tf a0 vals k u) (he : Ext [] u u') : Good P ops Tf a0 vals k u' := by
  intro o ho
  obtain ⟨h1, h2⟩ := h o ho
  refine ⟨h1, fun hw => ?_⟩
  have := h2 hw
  cases hT : Tf k with
  | none => rw [hT] at this; exact fun u'' he' => this u'' (he.trans he')
  | some T => rw [hT] at this; exact hst _ _ hT _ _ _ he this

theorem actAt_agree (hok : flowOk ops = true) {vals vals' : Nat → Value} {k : Nat} {o : Oper} (ho : ops[k]? = some o) (h : ∀ j, anc ops k j = true → vals j = vals' j) :
    agreeOn (o.looksAt ops.toArray) (actAt ops a0 vals k) (actAt ops a0 vals' k) := by
  refine runPuts_agree ops 0 a0 a0 (fun j p hp => ?_) (fun t _ => rfl) rfl
  simp only [Nat.zero_add]
  by_cases hj : j < k
  · simp only [hj, if_true, Option.some.injEq]
    rcases flowOk_apart hok hp ho hj with h1 | h1
    · exact .inl (h j h1)
    · exact .inr fun d hd => (Oper.apart_spec h1).1 d hd
  · simp [hj]

theorem noSelect_at (hok : flowOk ops = true) {k : Nat} {o : Oper} (ho : ops[k]? = some o) : ∀ cs b, o.op ≠ .select cs b := by
  simp only [flowOk, Bool.and_eq_true] at hok
  exact fun cs b => Region.noSelect_spec hok.1 k o cs b (by simpa using ho)

theorem valAt_agree {o : Oper} (hs : ∀ cs b, o.op ≠ .select cs b) {a b : Act} (h : agreeOn (o.looksAt ops.toArray) a b) {u : World} {v : Value} (hv : valAt P o a u v) : valAt P o b u v := by
  unfold valAt at *
  rwa [exec_agree hs h] at hv
theorem newAt_agree {o : Oper} (hs : ∀ cs b, o.op ≠ .select cs b) {a b : Act} (h : agreeOn (o.looksAt ops.toArray) a b) {u : World} {T : Value → World → Prop} (hv : newAt P o a u T) : newAt P o b u T := by
  unfold newAt at *
  rwa [exec_agree hs h] at hv

theorem Good.agree (hok : flowOk ops = true) {vals vals' : Nat → Value} {k : Nat} {u : World} (h : Good P ops Tf a0 vals k u) (hv : vals k = vals' k) (ha : ∀ j, anc ops k j = true → vals j = vals' j) : Good P ops Tf a0 vals' k u := by
  intro o ho
  have hag := actAt_agree (a0 := a0) hok ho ha
  have hs := noSelect_at hok ho
  obtain ⟨h1, h2⟩ := h o ho
  rw [wanted_agree hag, hv] at h1
  rw [wanted_agree hag] at h2
  refine ⟨h1, fun hw => ?_⟩
  have := h2 hw
  cases hT : Tf k with
  | none => rw [hT] at this; exact fun u' he => hv ▸ valAt_agree hs hag (this u' he)
  | some T => rw [hT] at this; exact hv ▸ this

/-- The environment and the claims at operation k, along some values. -/
def envAt (ops : List Oper) (Tf : Fam) (E0 : Env) (vals : Nat → Value) : Nat → Env × Claims
  | 0 => (E0, [])
  | k + 1 => match ops[k]? with
    | none => envAt ops Tf E0 vals k
    | some o => (putE (envAt ops Tf E0 vals k).1 o.dst (vals k), match wantedE ops (envAt ops Tf E0 vals k).1 o.guard, Tf k with
      | some true, some T => (k, T (vals k)) :: (envAt ops Tf E0 vals k).2
      | _, _ => (envAt ops Tf E0 vals k).2)

theorem actAt_succ (vals : Nat → Value) {k : Nat} {o : Oper} (ho : ops[k]? = some o) : actAt ops a0 vals (k + 1) = (actAt ops a0 vals k).put o.dst (vals k) := by
  have := runPuts_set (f := fun j => if j < k then some (vals j) else none) (i := k) (v := vals k) (oi := o) ops 0 a0 (Nat.zero_le _) (by simpa using ho) (by simp) (fun j p hp hlt hf => by
    exfalso; apply hf; simp; omega)
  unfold actAt
  rw [← this]
  refine runPuts_ext ops 0 a0 fun j hj => ?_
  simp only [Nat.zero_add]
  by_cases h1 : j = k
  · subst h1; simp
  · rw [if_neg h1]
    by_cases h2 : j < k
    · rw [if_pos h2, if_pos (by omega)]
    · rw [if_neg h2, if_neg (by omega)]

theorem claims_good {vals : Nat → Value} {u : World} : ∀ m, (∀ k, k < m → ∀ o, ops[k]? = some o → ∀ T, wantedE ops (envAt ops Tf E0 vals k).1 o.guard = some true → Tf k = some T → T (vals k) u) →
    ∀ p ∈ (envAt ops Tf E0 vals m).2, p.1 < m ∧ p.2 u
  | 0, _, p, hp => by simp [envAt] at hp
  | m + 1, h, p, hp => by
    have ih := claims_good (vals := vals) (u := u) m fun k hk => h k (by omega)
    simp only [envAt] at hp
    split at hp
    · have := ih p hp; exact ⟨by omega, this.2⟩
    · rename_i o ho
      simp only at hp
      split at hp
      · rename_i T hw hT
        rcases List.mem_cons.1 hp with rfl | hp
        · exact ⟨by simp, h m (by omega) o ho T hw hT⟩
        · have := ih p hp; exact ⟨by omega, this.2⟩
      · have := ih p hp; exact ⟨by omega, this.2⟩

/-- Along right values the walk has come to operation m. -/
theorem path (hok : flowOk ops = true) (hst : Tf.stays) (ha0 : Agr n E0 a0) (hF : Fl P n ops w0 Tf K 0 ops E0 []) {vals : Nat → Value} {u : World} (hu : Ext [] w0 u) :
    ∀ m, m ≤ ops.length → (∀ k, k < m → Good P ops Tf a0 vals k u) →
      Agr n (envAt ops Tf E0 vals m).1 (actAt ops a0 vals m) ∧ Fl P n ops w0 Tf K m (ops.drop m) (envAt ops Tf E0 vals m).1 (envAt ops Tf E0 vals m).2 ∧
      (∀ k, k < m → ∀ o, ops[k]? = some o → ∀ T, wantedE ops (envAt ops Tf E0 vals k).1 o.guard = some true → Tf k = some T → T (vals k) u)
  | 0, _, _ => by
    refine ⟨?_, by simpa [envAt] using hF, fun k hk => absurd hk (Nat.not_lt_zero k)⟩
    have : actAt ops a0 vals 0 = a0 := by
      unfold actAt
      simp only [Nat.not_lt_zero, if_false]
      have : ∀ (l : List Oper) (k : Nat), runPuts (fun _ => none) k l a0 = a0 := by
        intro l
        induction l with
        | nil => intro k; rfl
        | cons o r ih => intro k; simp only [runPuts]; exact ih _
      exact this _ _
    rw [this]; exact ha0
  | m + 1, hm, hg => by
    obtain ⟨hag, hfl, hcl⟩ := path hok hst ha0 hF hu m (by omega) fun k hk => hg k (by omega)
    obtain ⟨o, ho⟩ : ∃ o, ops[m]? = some o := ⟨_, List.getElem?_eq_getElem (by omega)⟩
    have hdrop : ops.drop m = o :: ops.drop (m + 1) := by
      rw [List.drop_eq_getElem_cons (by omega)]
      have := List.getElem?_eq_some_iff.1 ho
      obtain ⟨_, h2⟩ := this
      rw [h2]
    rw [hdrop] at hfl
    simp only [Fl] at hfl
    obtain ⟨hd, b, hb, hff, hft⟩ := hfl
    have hw := wanted_of_E hb hag
    have hgood := hg m (by omega) o ho
    have hcl' : ∀ (hb' : b = true) k, k < m + 1 → ∀ o, ops[k]? = some o → ∀ T, wantedE ops (envAt ops Tf E0 vals k).1 o.guard = some true → Tf k = some T → T (vals k) u := by
      intro hb' k hk p hp T hwk hT
      rcases Nat.lt_or_ge k m with h1 | h1
      · exact hcl k h1 p hp T hwk hT
      · obtain rfl : k = m := by omega
        rw [ho] at hp
        obtain rfl := Option.some.inj hp
        have := hgood.2 (by rw [hw, hb'])
        rw [hT] at this
        exact this
    rw [actAt_succ vals ho]
    simp only [envAt, ho]
    refine ⟨hag.put hd _, ?_, ?_⟩
    · cases b with
      | false =>
        rw [hb]
        simp only
        have h1 := hgood.1 hw
        rw [h1]
        exact hff rfl
      | true =>
        rw [hb]
        have h1 := hft rfl
        have h2 := hgood.2 hw
        cases hT : Tf m with
        | none =>
          rw [hT] at h1 h2
          obtain ⟨v, hv, hk⟩ := h1
          have h3 := hv (actAt ops a0 vals m) u hu (fun p hp _ => (claims_good m hcl p hp).2) hag
          have h4 := h2 u (Ext.refl _ _)
          have : vals m = v := by
            unfold valAt at h3 h4
            rcases h3 with h3 | ⟨h3, h3'⟩ <;> rcases h4 with h4 | ⟨h4, h4'⟩ <;> rw [h3] at h4
            · simp at h4; exact h4.symm
            · simp at h4
            · simp at h4
            · rw [h4', h3']
          rw [this]
          exact hk
        | some T =>
          rw [hT] at h1 h2
          exact h1.2 _ ⟨u, hu, h2⟩
    · cases b with
      | true => exact hcl' rfl
      | false =>
        intro k hk p hp T hwk hT
        rcases Nat.lt_or_ge k m with h1 | h1
        · exact hcl k h1 p hp T hwk hT
        · obtain rfl : k = m := by omega
          rw [ho] at hp
          obtain rfl := Option.some.inj hp
          rw [hb] at hwk
          cases hwk

/-- What holds between two operations, whatever has been done. -/
structure Inv (P : Program) (ops : List Oper) (w0 : World) (Tf : Fam) (a0 : Act) (S : Nat → Bool) (a : Act) (w : World) : Prop where
  ext : Ext [] w0 w
  closed : ∀ k o, ops[k]? = some o → S k = true → ∀ e ∈ o.after, Region.binds .any e = true → S e.on = true
  vals : ∃ vals : Nat → Value, a = runPuts (fun j => if S j = true then some (vals j) else none) 0 ops a0 ∧ ∀ k, S k = true → Good P ops Tf a0 vals k w

theorem closed_anc {S : Nat → Bool} (hc : ∀ k o, ops[k]? = some o → S k = true → ∀ e ∈ o.after, Region.binds .any e = true → S e.on = true) :
    ∀ (k : Nat), (∀ o, ops[k]? = some o → ∀ e ∈ o.after, Region.binds .any e = true → S e.on = true) → ∀ j, anc ops k j = true → S j = true := by
  intro k
  induction k using Nat.strongRecOn with
  | _ k ih =>
    intro he j hj
    obtain ⟨o, ho, e, hme, hb, h1⟩ := anc_spec hj
    have hS := he o ho e hme hb
    rcases h1 with h1 | ⟨h1, h2⟩
    · rw [← h1]; exact hS
    · exact ih e.on h1 (fun o' ho' e' he' hb' => hc e.on o' ho' hS e' he' hb') j h2

/-- What has not come up yet can be carried out in thought, in the text's order. -/
theorem extend (hok : flowOk ops = true) (hst : Tf.stays) (ha0 : Agr n E0 a0) (hF : Fl P n ops w0 Tf K 0 ops E0 []) {S : Nat → Bool}
    (hc : ∀ k o, ops[k]? = some o → S k = true → ∀ e ∈ o.after, Region.binds .any e = true → S e.on = true)
    {vals : Nat → Value} {u : World} (hu : Ext [] w0 u) (hg : ∀ k, S k = true → Good P ops Tf a0 vals k u) :
    ∀ m, m ≤ ops.length → ∃ (vals' : Nat → Value) (u' : World), Ext [] u u' ∧ (∀ k, S k = true → vals' k = vals k) ∧ ∀ k, k < m → Good P ops Tf a0 vals' k u'
  | 0, _ => ⟨vals, u, Ext.refl _ _, fun _ _ => rfl, fun k hk => absurd hk (Nat.not_lt_zero k)⟩
  | m + 1, hm => by
    obtain ⟨vals', u', he, hag, hgood⟩ := extend hok hst ha0 hF hc hu hg m (by omega)
    by_cases hS : S m = true
    · refine ⟨vals', u', he, hag, fun k hk => ?_⟩
      rcases Nat.lt_or_ge k m with h1 | h1
      · exact hgood k h1
      · obtain rfl : k = m := by omega
        refine ((hg k hS).later hst he).agree hok (hag k hS).symm fun j hj => (hag j ?_).symm
        exact closed_anc hc k (fun o ho => hc k o ho hS) j hj
    · obtain ⟨hagr, hfl, hcl⟩ := path hok hst ha0 hF (hu.trans he) m (by omega) hgood
      obtain ⟨o, ho⟩ : ∃ o, ops[m]? = some o := ⟨_, List.getElem?_eq_getElem (by omega)⟩
      have hdrop : ops.drop m = o :: ops.drop (m + 1) := by
        rw [List.drop_eq_getElem_cons (by omega)]
        obtain ⟨_, h2⟩ := List.getElem?_eq_some_iff.1 ho
        rw [h2]
      rw [hdrop] at hfl
      simp only [Fl] at hfl
      obtain ⟨hd, b, hb, hff, hft⟩ := hfl
      have hw := wanted_of_E hb hagr
      -- a new value at m leaves what comes before as it was
      have fin : ∀ v u'', Ext [] u' u'' → Good P ops Tf a0 (fun j => if j = m then v else vals' j) m u'' →
          ∃ (vals'' : Nat → Value) (u'' : World), Ext [] u u'' ∧ (∀ k, S k = true → vals'' k = vals k) ∧ ∀ k, k < m + 1 → Good P ops Tf a0 vals'' k u'' := by
        intro v u'' he' hgm
        refine ⟨fun j => if j = m then v else vals' j, u'', he.trans he', fun k hk => ?_, fun k hk => ?_⟩
        · have hne : k ≠ m := fun h => hS (h ▸ hk)
          simp only [hne, if_false]; exact hag k hk
        · rcases Nat.lt_or_ge k m with h1 | h1
          · refine ((hgood k h1).later hst he').agree hok (by simp [Nat.ne_of_lt h1]) fun j hj => ?_
            obtain ⟨p, hp, e, hme, hbe, h2⟩ := anc_spec hj
            have hlt : j < k := by
              have h3 := flowOk_edge hok hp hme hbe
              clear hgood hcl
              have : ∀ k, k < m → ∀ j, anc ops k j = true → j < k := by
                intro k
                induction k using Nat.strongRecOn with
                | _ k ih =>
                  intro hkm j hj
                  obtain ⟨p, hp, e, hme, hbe, h2⟩ := anc_spec hj
                  have h3 := flowOk_edge hok hp hme hbe
                  rcases h2 with h2 | ⟨_, h2⟩
                  · omega
                  · have := ih e.on h3 (by omega) j h2; omega
              exact this k h1 j hj
            have hne : j ≠ m := by omega
            simp [hne]
          · obtain rfl : k = m := by omega
            exact hgm
      have hact : ∀ v, actAt ops a0 (fun j => if j = m then v else vals' j) m = actAt ops a0 vals' m := fun v => by
        unfold actAt
        refine runPuts_ext ops 0 a0 fun j hj => ?_
        simp only [Nat.zero_add]
        by_cases h1 : j < m
        · have : j ≠ m := by omega
          simp [h1, this]
        · simp [h1]
      cases b with
      | false =>
        refine fin undef u' (Ext.refl _ _) fun p hp => ?_
        rw [ho] at hp
        obtain rfl := Option.some.inj hp
        rw [hact, hw]
        exact ⟨fun _ => by simp, fun h => by cases h⟩
      | true =>
        have h1 := hft rfl
        have hT' : (envAt ops Tf E0 vals' m).2.hold (anc ops m) u' := fun p hp _ => (claims_good m hcl p hp).2
        cases hT : Tf m with
        | none =>
          rw [hT] at h1
          obtain ⟨v, hv, _⟩ := h1
          refine fin v u' (Ext.refl _ _) fun p hp => ?_
          rw [ho] at hp
          obtain rfl := Option.some.inj hp
          rw [hact, hw, hT]
          exact ⟨fun h => (by cases h), fun _ u'' he'' => (by
            simp only [if_true]
            exact hv _ u'' ((hu.trans he).trans he'') (fun p hp _ => (claims_good m (fun k hk o ho T hw hT => hst k T hT _ _ _ he'' (hcl k hk o ho T hw hT)) p hp).2) hagr)⟩
        | some T =>
          rw [hT] at h1
          have h2 := h1.1 _ u' (hu.trans he) hT' hagr
          obtain ⟨v, u'', he'', hTv⟩ : ∃ v u'', Ext [] u' u'' ∧ T v u'' := by
            rcases h2 with ⟨v, u'', _, h3, h4⟩ | ⟨f, args, u1, _, h5, hc⟩
            · exact ⟨v, u'', h3, h4⟩
            · obtain ⟨e, u'', fr, ⟨v, _, h3, h4⟩, _⟩ := hc []
              exact ⟨v, u'', h5.trans h3, h4⟩
          refine fin v u'' he'' fun p hp => ?_
          rw [ho] at hp
          obtain rfl := Option.some.inj hp
          rw [hact, hw, hT]
          exact ⟨fun h => (by cases h), fun _ => (by simpa using hTv)⟩


def withOp (S : Nat → Bool) (i : Nat) : Nat → Bool := fun j => if j = i then true else S j

def cnt (S : Nat → Bool) : Nat → Nat
  | 0 => 0
  | m + 1 => cnt S m + (if S m = true then 1 else 0)
theorem cnt_le (S : Nat → Bool) : ∀ m, cnt S m ≤ m
  | 0 => Nat.le_refl _
  | m + 1 => by have := cnt_le S m; simp only [cnt]; split <;> omega
theorem cnt_full (S : Nat → Bool) : ∀ m, m ≤ cnt S m → ∀ k, k < m → S k = true
  | 0, _, k, hk => absurd hk (Nat.not_lt_zero k)
  | m + 1, h, k, hk => by
    have h1 := cnt_le S m
    simp only [cnt] at h
    by_cases hS : S m = true
    · simp only [hS, if_true] at h
      rcases Nat.lt_or_ge k m with h2 | h2
      · exact cnt_full S m (by omega) k h2
      · obtain rfl : k = m := by omega
        exact hS
    · simp [hS] at h; omega
theorem cnt_withOp {S : Nat → Bool} {i : Nat} (hi : S i = false) : ∀ m, cnt (withOp S i) m = cnt S m + (if i < m then 1 else 0)
  | 0 => by simp [cnt]
  | m + 1 => by
    simp only [cnt, cnt_withOp hi m, withOp]
    rcases Nat.lt_trichotomy i m with h | h | h
    · have h1 : m ≠ i := by omega
      have h2 : i < m + 1 := by omega
      simp only [h1, if_false, h, h2, if_true]; omega
    · subst h; simp [hi]
    · have h1 : m ≠ i := by omega
      have h2 : ¬ i < m := by omega
      have h3 : ¬ i < m + 1 := by omega
      simp only [h1, if_false, h2, h3]; omega

theorem anc_lt (hok : flowOk ops = true) : ∀ k j, anc ops k j = true → j < k := by
  intro k
  induction k using Nat.strongRecOn with
  | _ k ih =>
    intro j hj
    obtain ⟨p, hp, e, hme, hbe, h2⟩ := anc_spec hj
    have h3 := flowOk_edge hok hp hme hbe
    rcases h2 with h2 | ⟨_, h2⟩
    · omega
    · have := ih e.on h3 j h2; omega

theorem Inv.step (hok : flowOk ops = true) (hst : Tf.stays) (ha0 : Agr n E0 a0) (hF : Fl P n ops w0 Tf K 0 ops E0 []) {S : Nat → Bool} {a : Act} {w : World} (h : Inv P ops w0 Tf a0 S a w)
    {i : Nat} {o : Oper} (ho : ops[i]? = some o) (hi : S i = false) (hedge : ∀ e ∈ o.after, Region.binds .any e = true → S e.on = true) {Q : Exit → Act → World → Prop} :
    wpOp P ops.toArray Q i (fun a' w' => Inv P ops w0 Tf a0 (withOp S i) a' w') a w := by
  obtain ⟨hext, hc, vals, ha, hg⟩ := h
  have hlen : i < ops.length := (List.getElem?_eq_some_iff.1 ho).1
  have hSanc : ∀ j, anc ops i j = true → S j = true := closed_anc hc i fun o' ho' e he hb => by
    rw [ho] at ho'; obtain rfl := Option.some.inj ho'; exact hedge e he hb
  obtain ⟨vals', u', he, hag, hgood⟩ := extend hok hst ha0 hF hc hext hg i (by omega)
  obtain ⟨hagr, hfl, hcl⟩ := path hok hst ha0 hF (hext.trans he) i (by omega) hgood
  have hdrop : ops.drop i = o :: ops.drop (i + 1) := by
    rw [List.drop_eq_getElem_cons (by omega)]
    obtain ⟨_, h2⟩ := List.getElem?_eq_some_iff.1 ho
    rw [h2]
  rw [hdrop] at hfl
  simp only [Fl] at hfl
  obtain ⟨hd, b, hb, hff, hft⟩ := hfl
  have hw := wanted_of_E hb hagr
  have hs := noSelect_at hok ho
  -- the frame at hand is the text's, as far as this operation looks
  have hsame : agreeOn (o.looksAt ops.toArray) (actAt ops a0 vals' i) a := by
    rw [ha]
    refine runPuts_agree ops 0 a0 a0 (fun j p hp => ?_) (fun t _ => rfl) rfl
    simp only [Nat.zero_add]
    rcases Nat.lt_trichotomy j i with h1 | h1 | h1
    · simp only [h1, if_true]
      by_cases hS : S j = true
      · simp only [hS, if_true]; exact .inl (by rw [hag j hS])
      · rcases flowOk_apart hok hp ho h1 with h2 | h2
        · exact absurd (hSanc j h2) hS
        · exact .inr fun d hd => (Oper.apart_spec h2).1 d hd
    · subst h1; simp [hi]
    · have : ¬ j < i := by omega
      simp only [this, if_false]
      by_cases hS : S j = true
      · rcases flowOk_apart hok ho hp h1 with h2 | h2
        · have := closed_anc hc j (fun o' ho' => hc j o' ho' hS) i h2
          rw [hi] at this; cases this
        · exact .inr fun d hd => (Oper.apart_spec h2).2.2 d hd
      · simp [hS]
  have hw' : Region.wanted o (yielded ops.toArray a.tmps) = b := by rw [← wanted_agree hsame]; exact hw
  have hancs : ∀ k, S k = true → anc ops k i = false := fun k hk => by
    cases h1 : anc ops k i with
    | false => rfl
    | true =>
      have := closed_anc hc k (fun o' ho' => hc k o' ho' hk) i h1
      rw [hi] at this; cases this
  -- what is left is right again
  have fin : ∀ v w', Ext [] w w' → Good P ops Tf a0 (fun j => if j = i then v else vals j) i w' → Inv P ops w0 Tf a0 (withOp S i) (a.put o.dst v) w' := by
    intro v w' hw1 hgi
    refine ⟨hext.trans hw1, fun k p hp hk e hme hbe => ?_, fun j => if j = i then v else vals j, ?_, fun k hk => ?_⟩
    · unfold withOp at hk ⊢
      by_cases h1 : k = i
      · rw [h1, ho] at hp
        have hpo := Option.some.inj hp
        split
        · rfl
        · exact hedge e (hpo ▸ hme) hbe
      · simp only [h1, if_false] at hk
        split
        · rfl
        · exact hc k p hp hk e hme hbe
    · rw [ha, ← runPuts_set (i := i) ops 0 a0 (Nat.zero_le _) (by simpa using ho) (by simp [hi])]
      · refine runPuts_ext ops 0 a0 fun j hj => ?_
        simp only [Nat.zero_add, withOp]
        by_cases h1 : j = i <;> simp [h1]
      · intro j p hp hlt hf t ht hpt
        simp only [Nat.zero_add] at hlt hf
        have hS : S j = true := by
          cases hS : S j with
          | true => rfl
          | false => simp [hS] at hf
        rcases flowOk_apart hok ho hp hlt with h2 | h2
        · rw [hancs j hS] at h2; cases h2
        · exact (Oper.apart_spec h2).2.1 t ht hpt
    · unfold withOp at hk
      by_cases h1 : k = i
      · subst h1; exact hgi
      · simp only [h1, if_false] at hk
        refine ((hg k hk).later hst hw1).agree hok (by simp [h1]) fun j hj => ?_
        have : j ≠ i := by rintro rfl; rw [hancs k hk] at hj; cases hj
        simp [this]
  have hact : ∀ v, agreeOn (o.looksAt ops.toArray) (actAt ops a0 vals' i) (actAt ops a0 (fun j => if j = i then v else vals j) i) := fun v =>
    actAt_agree hok ho fun j hj => by
      have h1 : j ≠ i := fun e => by have := anc_lt hok i j hj; omega
      simp only [h1, if_false]
      exact hag j (hSanc j hj)
  have hTat : ∀ u, Ext [] w u → (envAt ops Tf E0 vals' i).2.hold (anc ops i) u := by
    intro u hu p hp hpa
    have hSp := hSanc p.1 hpa
    -- the claim of an operation that has come up holds here
    have key : ∀ m, m ≤ i → ∀ p ∈ (envAt ops Tf E0 vals' m).2, S p.1 = true → p.2 u := by
      intro m
      induction m with
      | zero => intro _ p hp; simp [envAt] at hp
      | succ m ih =>
        intro hm p hp hSp
        simp only [envAt] at hp
        split at hp
        · exact ih (by omega) p hp hSp
        · rename_i q hq
          simp only at hp
          split at hp
          · rename_i T hwm hTm
            rcases List.mem_cons.1 hp with rfl | hp
            · simp only at hSp ⊢
              have hgm := ((hg m hSp).later hst hu) q hq
              obtain ⟨hagm, _, _⟩ := path hok hst ha0 hF (hext.trans he) m (by omega) fun k hk => hgood k (by omega)
              have hwm' := wanted_of_E hwm hagm
              have hsm : agreeOn (q.looksAt ops.toArray) (actAt ops a0 vals' m) (actAt ops a0 vals m) := actAt_agree hok hq fun j hj => hag j (closed_anc hc m (fun o' ho' => hc m o' ho' hSp) j hj)
              have := hgm.2 (by rw [← wanted_agree hsm]; exact hwm')
              rw [hTm] at this
              rw [hag m hSp]
              exact this
            · exact ih (by omega) p hp hSp
          · exact ih (by omega) p hp hSp
    exact key i (Nat.le_refl _) p hp hSp
  unfold wpOp
  simp only [List.getElem?_toArray, ho]
  cases b with
  | false =>
    rw [hw']
    simp only [Bool.false_eq_true, if_false]
    refine fin undef w (Ext.refl _ _) fun p hp => ?_
    rw [ho] at hp; obtain rfl := Option.some.inj hp
    rw [← wanted_agree (hact undef), hw]
    exact ⟨fun _ => by simp, fun h => by cases h⟩
  | true =>
    rw [hw']
    simp only [if_true]
    refine .inl ?_
    have h1 := hft rfl
    cases hT : Tf i with
    | none =>
      rw [hT] at h1
      obtain ⟨v, hv, _⟩ := h1
      have h2 := valAt_agree hs hsame (hv _ w hext (hTat w (Ext.refl _ _)) hagr)
      have h3 : Inv P ops w0 Tf a0 (withOp S i) (a.put o.dst v) w := fin v w (Ext.refl _ _) fun p hp => by
        rw [ho] at hp; obtain rfl := Option.some.inj hp
        rw [← wanted_agree (hact v), hw, hT]
        exact ⟨fun h => (by cases h), fun _ u'' he'' => (by
          simp only [if_true]
          exact valAt_agree hs (hact v) (hv _ u'' (hext.trans he'') (hTat u'' he'') hagr))⟩
      unfold Oper.wp
      rcases h2 with h2 | ⟨h2, h2'⟩
      · rw [h2]; exact h3
      · rw [h2]; simp only [Oper.upon]; rw [← h2']; exact h3
    | some T =>
      rw [hT] at h1
      have h2 := newAt_agree hs hsame (h1.1 _ w hext (hTat w (Ext.refl _ _)) hagr)
      have h3 : ∀ v w', Ext [] w w' → T v w' → Inv P ops w0 Tf a0 (withOp S i) (a.put o.dst v) w' := fun v w' hw1 hTv => fin v w' hw1 fun p hp => by
        rw [ho] at hp; obtain rfl := Option.some.inj hp
        rw [← wanted_agree (hact v), hw, hT]
        exact ⟨fun h => (by cases h), fun _ => (by simpa using hTv)⟩
      unfold Oper.wp
      rcases h2 with ⟨v, w', h4, h5, h6⟩ | ⟨f, args, w', h4, h5, h6⟩
      · rw [h4]; exact h3 v w' h5 h6
      · rw [h4]
        simp only [Oper.upon]
        refine h6.mono fun e w'' ⟨v, h7, h8, h9⟩ => ?_
        subst h7
        exact h3 v w'' (h5.trans h8) h9

theorem Inv.done (hok : flowOk ops = true) (hst : Tf.stays) (ha0 : Agr n E0 a0) (hF : Fl P n ops w0 Tf K 0 ops E0 []) {S : Nat → Bool} {a : Act} {w : World} (h : Inv P ops w0 Tf a0 S a w)
    (hall : ∀ k, k < ops.length → S k = true) : a.defers = a0.defers ∧ ∃ E, Agr n E a ∧ K E w := by
  obtain ⟨hext, hc, vals, ha, hg⟩ := h
  obtain ⟨hagr, hfl, hcl⟩ := path hok hst ha0 hF hext ops.length (Nat.le_refl _) fun k hk => hg k (hall k hk)
  have : a = actAt ops a0 vals ops.length := by
    rw [ha]
    refine runPuts_ext ops 0 a0 fun j hj => ?_
    simp only [Nat.zero_add, hall j hj, if_true, hj]
  rw [this]
  refine ⟨(runPuts_size _ _ _ _).2, _, hagr, ?_⟩
  rw [List.drop_length] at hfl
  exact hfl w hext fun p hp _ => (claims_good _ hcl p hp).2

/-- **(first | assumption | exact List.all_eq_true.mp rfl | simp [Value.cells, Value.oneCell']) WALK IN THE ORDER OF THE TEXT SERVES EVERY ORDER.** -/
theorem wp_flow (hm : P.follows .mixedOrders = true) (hok : flowOk ops = true) (hst : Tf.stays) {id : Nat} {draw : Bool} {w : World} (hw0 : w0 = if draw then { w with drawn := w.drawn + 1 } else w)
    (ha0 : Agr n E0 a0) (hd : a0.defers = ds) (hF : Fl P n ops w0 Tf K 0 ops E0 []) {Q : Exit → Act → World → Prop} (hQ : ∀ a w, (∃ E, Agr n E a ∧ a.defers = ds ∧ K E w) → Q .normal a w) :
    (Code.region id ops.toArray draw).wp P Q a0 w := by
  have h0 : Inv P ops w0 Tf a0 (fun _ => false) a0 w0 := by
    refine ⟨Ext.refl _ _, fun k o _ h => (by cases h), fun _ => undef, ?_, fun k h => (by cases h)⟩
    simp only [Bool.false_eq_true, if_false]
    have : ∀ (l : List Oper) (k : Nat), runPuts (fun _ => none) k l a0 = a0 := by
      intro l
      induction l with
      | nil => intro k; rfl
      | cons o r ih => intro k; simp only [runPuts]; exact ih _
    rw [this]
  have hfin : ∀ S a w, Inv P ops w0 Tf a0 S a w → (∀ k, k < ops.length → S k = true) → Q .normal a w := fun S a w h hall => by
    obtain ⟨h1, E, h2, h3⟩ := h.done hok hst ha0 hF hall
    exact hQ a w ⟨E, h2, h1.trans hd, h3⟩
  cases draw with
  | false =>
    simp only [Bool.false_eq_true, if_false] at hw0
    subst hw0
    refine wp_region ?_
    have key : ∀ m k, k + m = ops.length → ∀ (S : Nat → Bool) a w, (∀ j, j < ops.length → (S j = true ↔ j < k)) → Inv P ops w0 Tf a0 S a w → wpOps P ops.toArray Q (List.range' k m) a w := by
      intro m
      induction m with
      | zero => intro k hk S a w hS h; exact hfin S a w h fun j hj => (hS j hj).2 (by omega)
      | succ m ih =>
        intro k hk S a w hS h
        rw [List.range'_succ, wpOps_cons]
        obtain ⟨o, ho⟩ : ∃ o, ops[k]? = some o := ⟨_, List.getElem?_eq_getElem (by omega)⟩
        have hSk : S k = false := by
          cases h1 : S k with
          | false => rfl
          | true => have := (hS k (by omega)).1 h1; omega
        refine wpOp_mono (fun a' w' h' => ih (k + 1) (by omega) (withOp S k) a' w' (fun j hj => ?_) h') (h.step hok hst ha0 hF ho hSk fun e he hb => ?_)
        · unfold withOp
          by_cases h1 : j = k
          · subst h1; simp
          · simp only [h1, if_false]; rw [hS j hj]; omega
        · have h1 := flowOk_edge hok ho he hb
          exact (hS e.on (by omega)).2 h1
    rw [List.range_eq_range', List.size_toArray]
    exact key ops.length 0 (by omega) (fun _ => false) a0 w0 (fun j _ => by simp) h0
  | true =>
    simp only [if_true] at hw0
    subst hw0
    refine wp_region_any hm ?_
    have ready_nil : ∀ (listed : Array Bool), listed.size = ops.length → Region.ready .any ops.toArray listed = [] → ∀ k, k < ops.length → listed.getD k false = true := by
      intro listed hsz hr k
      induction k using Nat.strongRecOn with
      | _ k ih =>
        intro hk
        cases h1 : listed.getD k false with
        | true => rfl
        | false =>
          exfalso
          obtain ⟨o, ho⟩ : ∃ o, ops[k]? = some o := ⟨_, List.getElem?_eq_getElem hk⟩
          have h2 : listed.getD k true = false := by
            have : k < listed.size := by omega
            simp [this] at h1 ⊢
            exact h1
          have : k ∈ Region.ready .any ops.toArray listed := mem_ready.2 ⟨h2, o, by simpa using ho, fun e he hb => ih e.on (flowOk_edge hok ho he hb) (by have := flowOk_edge hok ho he hb; omega)⟩
          rw [hr] at this
          cases this
    have main : ∀ (fuel : Nat) (listed : Array Bool) (a : Act) (w' : World), listed.size = ops.length → ops.length ≤ fuel + cnt (fun k => listed.getD k false) ops.length →
        Inv P ops { w with drawn := w.drawn + 1 } Tf a0 (fun k => listed.getD k false) a w' → wpAny P .any ops.toArray Q fuel listed a w' := by
      intro fuel
      induction fuel with
      | zero =>
        intro listed a w hsz hcount h
        have hall : ∀ k, k < ops.length → listed.getD k false = true := cnt_full (fun k => listed.getD k false) ops.length (by omega)
        refine ⟨?_, hfin _ a w h hall⟩
        refine List.eq_nil_iff_forall_not_mem.2 fun k hk => ?_
        obtain ⟨h1, o, ho, _⟩ := mem_ready.1 hk
        have hk' : k < ops.length := by
          have : ops[k]? = some o := by simpa using ho
          exact (List.getElem?_eq_some_iff.1 this).1
        have h2 := hall k hk'
        have : k < listed.size := by omega
        simp [this] at h1 h2
        rw [h1] at h2; cases h2
      | succ fuel ih =>
        intro listed a w hsz hcount h
        refine ⟨fun hr => hfin _ a w h (ready_nil listed hsz hr), fun i hi => ?_⟩
        obtain ⟨h1, o, ho, hall⟩ := mem_ready.1 hi
        have ho' : ops[i]? = some o := by simpa using ho
        have hi' : i < ops.length := (List.getElem?_eq_some_iff.1 ho').1
        have hlt : i < listed.size := by omega
        have hSi : listed.getD i false = false := by simp [hlt] at h1 ⊢; exact h1
        have hset : (fun k => (listed.setIfInBounds i true).getD k false) = withOp (fun k => listed.getD k false) i := by
          funext k
          unfold withOp
          by_cases hk : k = i
          · subst hk; simp [hlt]
          · rw [if_neg hk]; exact getD_set_ne false (Ne.symm hk)
        refine wpOp_mono (fun a' w' h' => ih (listed.setIfInBounds i true) a' w' (by simpa using hsz) ?_ ?_) (h.step hok hst ha0 hF ho' hSi hall)
        · rw [hset]
          have := cnt_withOp (S := fun k => listed.getD k false) hSi ops.length
          rw [if_pos hi'] at this
          omega
        · rw [hset]; exact h'
    refine main ops.length (Array.replicate ops.length false) a0 _ (by simp) (by omega) ?_
    have : (fun k => (Array.replicate ops.length false).getD k false) = fun _ => false := by
      funext k
      by_cases hk : k < ops.length <;> simp [hk]
    rw [this]
    exact h0

end sound
end Go.Eng
