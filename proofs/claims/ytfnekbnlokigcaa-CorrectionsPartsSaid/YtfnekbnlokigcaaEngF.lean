/- The engine, part two: a region whose operations only read, compute, make new memory or call functions that do no more: which operations come before which; frames by what has been written. -/
import Derived.Test.YtfnekbnlokigcaaEngA
set_option linter.unusedVariables false
namespace Go.Eng
open Go

/-! ## Which operations come before which -/

def maskOf (acc : List Nat) (o : Oper) : Nat :=
  o.after.toList.foldl (fun s e => bif Region.binds .any e then s ||| 2 ^ e.on ||| acc.getD e.on 0 else s) 0

def masksGo : List Oper → List Nat → List Nat
  | [], acc => acc
  | o :: r, acc => masksGo r (acc ++ [maskOf acc o])

def masks (ops : List Oper) : List Nat := masksGo ops []
def anc (ops : List Oper) (k j : Nat) : Bool := ((masks ops).getD k 0).testBit j

theorem masksGo_spec : ∀ (l : List Oper) (acc : List Nat), (masksGo l acc).length = acc.length + l.length ∧ (∀ i, i < acc.length → (masksGo l acc)[i]? = acc[i]?) ∧
    ∀ i o, l[i]? = some o → (masksGo l acc)[acc.length + i]? = some (maskOf ((masksGo l acc).take (acc.length + i)) o)
  | [], acc => ⟨by simp [masksGo], fun i _ => rfl, fun i o h => by simp at h⟩
  | o :: r, acc => by
    obtain ⟨h1, h2, h3⟩ := masksGo_spec r (acc ++ [maskOf acc o])
    refine ⟨by simp only [masksGo]; rw [h1]; simp; omega, fun i hi => ?_, fun i p hp => ?_⟩
    · simp only [masksGo]
      rw [h2 i (by simp; omega), List.getElem?_append_left hi]
    · simp only [masksGo]
      cases i with
      | zero =>
        simp only [List.getElem?_cons_zero, Option.some.injEq] at hp
        subst hp
        rw [h2 _ (by simp)]
        have : (masksGo r (acc ++ [maskOf acc o])).take (acc.length + 0) = acc := by
          apply List.ext_getElem?
          intro j
          by_cases hj : j < acc.length
          · rw [List.getElem?_take_of_lt (by omega), h2 j (by simp; omega), List.getElem?_append_left hj]
          · rw [List.getElem?_eq_none (by simp; omega), List.getElem?_eq_none (by omega)]
        rw [this]
        simp
      | succ i =>
        have := h3 i p (by simpa using hp)
        simp only [List.length_append, List.length_cons, List.length_nil] at this
        rw [show acc.length + (i + 1) = acc.length + (0 + 1) + i by omega]
        exact this

theorem maskOf_bit (acc : List Nat) (j : Nat) : ∀ (es : List Edge) (s : Nat), (es.foldl (fun s e => bif Region.binds .any e then s ||| 2 ^ e.on ||| acc.getD e.on 0 else s) s).testBit j = true →
    s.testBit j = true ∨ ∃ e ∈ es, Region.binds .any e = true ∧ (e.on = j ∨ (acc.getD e.on 0).testBit j = true)
  | [], s, h => .inl h
  | e :: es, s, h => by
    rcases maskOf_bit acc j es _ h with h1 | ⟨e', he', h2⟩
    · cases hb : Region.binds .any e with
      | false => simp only [hb, cond_false] at h1; exact .inl h1
      | true =>
        simp only [hb, cond_true, Nat.testBit_or, Bool.or_eq_true, Nat.testBit_two_pow, decide_eq_true_eq] at h1
        rcases h1 with (h1 | h1) | h1
        · exact .inl h1
        · exact .inr ⟨e, .head _, hb, .inl h1⟩
        · exact .inr ⟨e, .head _, hb, .inr h1⟩
    · exact .inr ⟨e', .tail _ he', h2⟩

theorem anc_spec {ops : List Oper} {k j : Nat} (h : anc ops k j = true) : ∃ o, ops[k]? = some o ∧ ∃ e ∈ o.after, Region.binds .any e = true ∧ (e.on = j ∨ (e.on < k ∧ anc ops e.on j = true)) := by
  obtain ⟨h1, _, h3⟩ := masksGo_spec ops []
  simp only [List.length_nil, Nat.zero_add] at h1 h3
  unfold anc masks at *
  rcases Nat.lt_or_ge k ops.length with hk | hk
  · obtain ⟨o, ho⟩ : ∃ o, ops[k]? = some o := ⟨_, List.getElem?_eq_getElem hk⟩
    refine ⟨o, ho, ?_⟩
    rw [List.getD_eq_getElem?_getD, h3 k o ho] at h
    rcases maskOf_bit _ j _ _ h with h4 | ⟨e, he, hb, h5⟩
    · simp at h4
    · refine ⟨e, by simpa using he, hb, h5.imp id fun h6 => ?_⟩
      rcases Nat.lt_or_ge e.on k with h7 | h7
      · refine ⟨h7, ?_⟩
        rw [List.getD_eq_getElem?_getD] at h6 ⊢
        rwa [List.getElem?_take_of_lt h7] at h6
      · rw [List.getD_eq_getElem?_getD, List.getElem?_eq_none (by simp; omega)] at h6
        simp at h6
  · rw [List.getD_eq_getElem?_getD, List.getElem?_eq_none (by omega)] at h
    simp at h

/-- Every edge leads back; two operations of which none comes before the other have no temporary in common (but for reading). -/
def flowOk (ops : List Oper) : Bool :=
  Region.noSelect ops.toArray &&
  ops.zipIdx.all fun (o, k) => o.after.toList.all (fun e => bif Region.binds .any e then Nat.blt e.on k else true) &&
    ops.zipIdx.all fun (p, i) => bif Nat.blt i k then anc ops k i || p.apart ops.toArray o else true

theorem flowOk_edge {ops : List Oper} (h : flowOk ops = true) {k : Nat} {o : Oper} (ho : ops[k]? = some o) {e : Edge} (he : e ∈ o.after) (hb : Region.binds .any e = true) : e.on < k := by
  simp only [flowOk, Bool.and_eq_true, List.all_eq_true] at h
  have := (h.2 (o, k) (List.mem_iff_getElem?.2 ⟨k, by simp [ho]⟩)).1 e (by simpa using he)
  simpa [hb, Nat.blt_eq] using this
theorem flowOk_apart {ops : List Oper} (h : flowOk ops = true) {i k : Nat} {p o : Oper} (hp : ops[i]? = some p) (ho : ops[k]? = some o) (hik : i < k) : anc ops k i = true ∨ p.apart ops.toArray o = true := by
  simp only [flowOk, Bool.and_eq_true, List.all_eq_true] at h
  have := (h.2 (o, k) (List.mem_iff_getElem?.2 ⟨k, by simp [ho]⟩)).2 (p, i) (List.mem_iff_getElem?.2 ⟨i, by simp [hp]⟩)
  have hb : Nat.blt i k = true := by simpa [Nat.blt_eq] using hik
  simpa [hb] using this

/-! ## Frames by what has been written -/

def runPuts (f : Nat → Option Value) : Nat → List Oper → Act → Act
  | _, [], a => a
  | k, o :: r, a => runPuts f (k + 1) r (match f k with | some v => a.put o.dst v | none => a)

def agreeOn (L : List Tmp) (a b : Act) : Prop := ∀ t ∈ L, a.tmps[t]? = b.tmps[t]?

theorem put_size (a : Act) (d : Option Tmp) (v : Value) : (a.put d v).tmps.size = a.tmps.size := by cases d <;> simp [Act.put]
theorem put_defers (a : Act) (d : Option Tmp) (v : Value) : (a.put d v).defers = a.defers := by cases d <;> rfl

theorem put_get (a : Act) (d : Option Tmp) (v : Value) (t : Tmp) : (a.put d v).tmps[t]? = if d = some t ∧ t < a.tmps.size then some v else a.tmps[t]? := by
  cases d with
  | none => simp [Act.put]
  | some s =>
    simp only [Act.put, Array.getElem?_setIfInBounds, Option.some.injEq]
    by_cases h : s = t
    · subst h
      by_cases h2 : s < a.tmps.size <;> simp [h2]
    · simp [h]

theorem runPuts_size (f : Nat → Option Value) : ∀ (l : List Oper) (k : Nat) (a : Act), (runPuts f k l a).tmps.size = a.tmps.size ∧ (runPuts f k l a).defers = a.defers
  | [], k, a => ⟨rfl, rfl⟩
  | o :: r, k, a => by
    simp only [runPuts]
    have := runPuts_size f r (k + 1) (match f k with | some v => a.put o.dst v | none => a)
    refine ⟨this.1.trans ?_, this.2.trans ?_⟩ <;> split <;> simp [put_size, put_defers]

theorem runPuts_agree {f g : Nat → Option Value} {L : List Tmp} : ∀ (l : List Oper) (k : Nat) (a b : Act),
    (∀ j o, l[j]? = some o → f (k + j) = g (k + j) ∨ ∀ d, o.dst = some d → d ∉ L) → agreeOn L a b → a.tmps.size = b.tmps.size → agreeOn L (runPuts f k l a) (runPuts g k l b)
  | [], k, a, b, _, h, _ => h
  | o :: r, k, a, b, hfg, h, hs => by
    simp only [runPuts]
    refine runPuts_agree r (k + 1) _ _ (fun j p hp => ?_) ?_ ?_
    · have := hfg (j + 1) p (by simpa using hp)
      rwa [show k + (j + 1) = k + 1 + j by omega] at this
    · intro t ht
      rcases hfg 0 o rfl with h1 | h1
      · simp only [Nat.add_zero] at h1
        rw [h1]
        split
        · rw [put_get, put_get, hs, h t ht]
        · exact h t ht
      · have hne : o.dst ≠ some t := fun e => h1 t e ht
        have e1 : (match f k with | some v => a.put o.dst v | none => a).tmps[t]? = a.tmps[t]? := by
          split
          · rw [put_get, if_neg (fun c => hne c.1)]
          · rfl
        have e2 : (match g k with | some v => b.put o.dst v | none => b).tmps[t]? = b.tmps[t]? := by
          split
          · rw [put_get, if_neg (fun c => hne c.1)]
          · rfl
        rw [e1, e2]; exact h t ht
    · have e1 : ∀ (c : Act) (x : Option Value), (match x with | some v => c.put o.dst v | none => c).tmps.size = c.tmps.size := fun c x => by cases x <;> simp [put_size]
      rw [e1, e1]; exact hs

theorem runPuts_ext {f g : Nat → Option Value} : ∀ (l : List Oper) (k : Nat) (a : Act), (∀ j, j < l.length → f (k + j) = g (k + j)) → runPuts f k l a = runPuts g k l a
  | [], k, a, _ => rfl
  | o :: r, k, a, h => by
    have h0 := h 0 (by simp)
    simp only [Nat.add_zero] at h0
    simp only [runPuts, h0]
    exact runPuts_ext r (k + 1) _ fun j hj => by have := h (j + 1) (by simp; omega); rwa [show k + (j + 1) = k + 1 + j by omega] at this

theorem runPuts_put {f : Nat → Option Value} {d : Option Tmp} {v : Value} : ∀ (l : List Oper) (k : Nat) (a : Act), (∀ j o, l[j]? = some o → f (k + j) ≠ none → ∀ t, d = some t → o.dst ≠ some t) →
    runPuts f k l (a.put d v) = (runPuts f k l a).put d v
  | [], k, a, _ => rfl
  | o :: r, k, a, h => by
    simp only [runPuts]
    have ih : ∀ a, runPuts f (k + 1) r (a.put d v) = (runPuts f (k + 1) r a).put d v := fun a => runPuts_put r (k + 1) a fun j p hp hf => h (j + 1) p (by simpa using hp) (by rwa [show k + (j + 1) = k + 1 + j by omega])
    cases hf : f k with
    | none => simp only []; exact ih a
    | some u =>
      simp only []
      rw [Act.put_comm a v u (h 0 o rfl (by simp [hf]))]
      exact ih _

theorem runPuts_set {f : Nat → Option Value} {i : Nat} {v : Value} {oi : Oper} : ∀ (l : List Oper) (k : Nat) (a : Act), k ≤ i → l[i - k]? = some oi → f i = none →
    (∀ j o, l[j]? = some o → i < k + j → f (k + j) ≠ none → ∀ t, oi.dst = some t → o.dst ≠ some t) →
    runPuts (fun j => if j = i then some v else f j) k l a = (runPuts f k l a).put oi.dst v
  | [], k, a, _, h, _, _ => by simp at h
  | o :: r, k, a, hk, hi, hf, h => by
    simp only [runPuts]
    by_cases hki : k = i
    · subst hki
      simp only [Nat.sub_self, List.getElem?_cons_zero, Option.some.injEq] at hi
      subst hi
      simp only [if_true, hf]
      rw [runPuts_ext (g := f) r (k + 1) _ (fun j hj => by rw [if_neg (by omega)])]
      exact runPuts_put r (k + 1) a fun j p hp hf' => h (j + 1) p (by simpa using hp) (by omega) (by rwa [show k + (j + 1) = k + 1 + j by omega])
    · rw [if_neg hki]
      exact runPuts_set r (k + 1) _ (by omega) (by rw [show i - k = (i - (k + 1)) + 1 by omega] at hi; simpa using hi) hf fun j p hp hlt hf' => h (j + 1) p (by simpa using hp) (by omega) (by rwa [show k + (j + 1) = k + 1 + j by omega])

theorem exec_agree {ops : Array Oper} {o : Oper} (hs : ∀ cs b, o.op ≠ .select cs b) {a b : Act} (h : agreeOn (o.looksAt ops) a b) : execOp a.eval o = execOp b.eval o :=
  execOp_congr o hs fun x hx => by
    cases x with
    | tmp t =>
      have := h t (List.mem_append_left _ (List.mem_filterMap.2 ⟨.tmp t, by simpa using hx, rfl⟩))
      simp only [Act.eval, Array.getD_eq_getD_getElem?, this]
    | _ => rfl

theorem wanted_agree {ops : Array Oper} {o : Oper} {a b : Act} (h : agreeOn (o.looksAt ops) a b) : Region.wanted o (yielded ops a.tmps) = Region.wanted o (yielded ops b.tmps) := by
  unfold Region.wanted
  cases hg : o.guard with
  | none => rfl
  | some g =>
    obtain ⟨j, want⟩ := g
    simp only
    have : yielded ops a.tmps j = yielded ops b.tmps j := by
      unfold yielded
      cases hd : (ops[j]?).bind (·.dst) with
      | none => rfl
      | some d =>
        have := h d (List.mem_append_right _ (by simp [hg, hd]))
        simp only [Option.bind_some, this]
    rw [this]


/-! ## The walk in the order of the text -/

def wantedE (ops : List Oper) (E : Env) : Option (Nat × Bool) → Option Bool
  | none => some true
  | some (j, want) => match (ops[j]?).bind (·.dst) with
    | none => some false
    | some d => match get E d with
      | some (.bool b) => some (b == want)
      | some (.int _ _) | some (.tuple _) | some (.string _) | some (.pointer _) | some (.slice _ _ _) => some false
      | _ => none

theorem wanted_of_E {ops : List Oper} {n : Nat} {E : Env} {o : Oper} {b : Bool} {a : Act} (h : wantedE ops E o.guard = some b) (ha : Agr n E a) : Region.wanted o (yielded ops.toArray a.tmps) = b := by
  unfold Region.wanted
  cases hg : o.guard with
  | none => rw [hg] at h; simpa [wantedE] using h
  | some g =>
    obtain ⟨j, want⟩ := g
    rw [hg] at h
    simp only [wantedE] at h
    simp only [yielded, List.getElem?_toArray]
    cases hd : (ops[j]?).bind (·.dst) with
    | none => rw [hd] at h; simp at h; simp [← h]
    | some d =>
      rw [hd] at h
      simp only at h
      simp only [Option.bind_some]
      cases hv : get E d with
      | none => rw [hv] at h; simp at h
      | some v =>
        rw [hv] at h
        rw [ha.val d v hv]
        cases v <;> simp at h <;> simp [← h]

theorem closed_anc {ops : List Oper} {S : Nat → Bool} (hc : ∀ k o, ops[k]? = some o → S k = true → ∀ e ∈ o.after, Region.binds .any e = true → S e.on = true) :
    ∀ (k : Nat), (∀ o, ops[k]? = some o → ∀ e ∈ o.after, Region.binds .any e = true → S e.on = true) → ∀ j, anc ops k j = true → S j = true := by
  intro k
  induction k using Nat.strongRecOn with
  | _ k ih =>
    intro he j hj
    obtain ⟨o, ho, e, hme, hb, h1⟩ := anc_spec hj
    have hS := he o ho e hme hb
    rcases h1 with h1 | ⟨h1, h2⟩
    · rw [← h1]; exact hS
    · exact ih e.on h1 (fun o' ho' e' he' hb' => hc e.on o' ho' hS e' he' hb') j h2

end Go.Eng
