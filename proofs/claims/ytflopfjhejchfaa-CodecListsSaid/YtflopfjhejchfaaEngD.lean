/- The engine, part seven: a function that defers one call, and a deferred function that recovers. -/
import Derived.Test.YtflopfjhejchfaaEngT
import Derived.Recover
set_option linter.unusedVariables false
set_option linter.unusedSimpArgs false
namespace Go.Eng
open Go

section
variable {P : Program} {n : Nat} {ds : List Deferred} {ops : List Oper} {Q : PostE} {E : Env} {w : World} {o : Oper} {l : List Oper}

/-- What a body owes at its end where one call is deferred. -/
def endD (fn : Func) (P : Program) (R : Ending → World → Prop) (ds : List Deferred) : PostE
  | .ret, E, w | .normal, E, w => ∀ tmps : Array Value, (∀ t v, get E t = some v → tmps[t]? = some v) → Leaves P fn tmps R ds .returning w
  | .panic chain, E, w => ∀ tmps : Array Value, (∀ t v, get E t = some v → tmps[t]? = some v) → Leaves P fn tmps R ds (.panicking chain) w
  | _, _, _ => False

theorem invoke_fn {g : FuncId} {cap args : Array Value} (hg : callable P g = true) (w : World) : (invoke (.fn (.func g) cap) args).run P w = .ok (.enter g (args ++ cap)) w := by
  simp only [invoke, run_callFunc hg]

theorem calls_of_Sx_defer {f : FuncId} {fn : Func} {c0 rest : Code} {id : Nat} {o1 o2 : Oper} {t : Nat} {ts : Array TypeId} {g : FuncId} {args : List Value} {R : Ending → World → Prop}
    (hf : P.funcs[f]? = some fn) (hb : fn.body = some (.seq c0 (.seq (.region id #[o1, o2] false) rest))) (hn : Nat.ble args.length fn.ntmps = true)
    (g1 : o1.guard = none) (g2 : o2.guard = none) (d1 : o1.dst = some t) (d1' : dstOk fn.ntmps o1.dst = true) (d2 : o2.dst = none) (h2 : o2.op = .defer { callee := .value (.tmp t), args := #[], argTypes := ts })
    (h : Sx P fn.ntmps [] c0 (fun e E w' => e = .normal ∧ ∃ cap, RunP P fn.ntmps E o1 (.func (.func g) #[] cap) ∧
      Sx P fn.ntmps [{ target := .fn (.func g) cap, args := #[] }] rest (endD fn P R [{ target := .fn (.func g) cap, args := #[] }]) (putE E o1.dst (.func (.func g) #[] cap)) w') (entryEnv 0 args) w) :
    Calls P f args.toArray w R := by
  have hn' : args.length ≤ fn.ntmps := Nat.le_of_ble_eq_true hn
  refine calls_of_wp_defers hf hb (wp_seq (wp_mono (h _ ⟨?_, ?_⟩ rfl) ?_))
  · simp; omega
  · intro t v ht
    have := get_entry 0 args t v ht
    have h2 : args[t]? = some v := by simpa using this.2
    have h3 : t < args.length := by
      rcases Nat.lt_or_ge t args.length with h4 | h4
      · exact h4
      · rw [List.getElem?_eq_none h4] at h2; cases h2
    rw [Array.getElem?_append_left (by simpa using h3)]
    simpa using h2
  · rintro e a' w' ⟨E', ha, hd, rfl, cap, hrun, hrest⟩
    show (Code.seq (.region id #[o1, o2] false) rest).wp P _ a' w'
    refine wp_seq ?_
    have hlit : (Code.region id [o1, o2].toArray false).wp P (Exit.then (rest.wp P (bodyPostD P fn R)) (bodyPostD P fn R)) a' w' := by
      refine wp_region_lit ?_
      have hE1 := ha.put d1' (.func (.func g) #[] cap)
      have hget : ev (putE E' o1.dst (.func (.func g) #[] cap)) (.tmp t) = some (.func (.func g) #[] cap) := by
        simp [ev, d1, putE, get]
      have hr2 : (execOp (a'.put o1.dst (.func (.func g) #[] cap)).eval o2).run P w' = .ok (.defer { target := .fn (.func g) cap, args := #[] }) w' := by
        simp [execOp, h2, resolve, hE1.eval hget, Deferred.ofValue]
      unfold wpList
      rw [if_pos (by simp [Region.wanted, g1])]
      refine .inl ?_
      unfold Oper.wp
      rw [hrun a' w' ha]
      simp only [Oper.upon]
      unfold wpList
      rw [if_pos (by simp [Region.wanted, g2])]
      refine .inl ?_
      unfold Oper.wp
      rw [hr2]
      simp only [Oper.upon, d2]
      refine wpList_nil ?_
      show rest.wp P _ _ _
      refine wp_mono (hrest _ ⟨hE1.size, hE1.val⟩ ?_) ?_
      · show _ :: (a'.put o1.dst _).defers = _
        rw [put_defers, hd]
      · rintro e a2 w2 ⟨E2, h3, h4, h5⟩
        cases e with
        | normal => show Leaves P fn a2.tmps R a2.defers _ _; rw [h4]; exact h5 _ h3.val
        | ret => show Leaves P fn a2.tmps R a2.defers _ _; rw [h4]; exact h5 _ h3.val
        | panic c => show Leaves P fn a2.tmps R a2.defers _ _; rw [h4]; exact h5 _ h3.val
        | exit id => exact h5.elim
        | goto l => exact h5.elim
        | outgrown => exact h5.elim
    exact hlit

theorem run_equal_if {t d : TypeId} {v : Value} {td : TypeDesc} (ht : P.underlying t = some td) (hi : (match td with | .interface _ => true | _ => false) = true) (u : World) : (Op.equal t (.iface d v) .nilIface).run P u = .ok false u := by
  cases td <;> simp at hi
  have : ∀ k, (Op.equalIn (k + 1) t (.iface d v) .nilIface).run P u = .ok false u := fun k => by simp [Op.equalIn, run_und ht]
  exact this 9999
theorem run_equal_ifn {t : TypeId} {td : TypeDesc} (ht : P.underlying t = some td) (hi : (match td with | .interface _ => true | _ => false) = true) (u : World) : (Op.equal t .nilIface .nilIface).run P u = .ok true u := by
  cases td <;> simp at hi
  have : ∀ k, (Op.equalIn (k + 1) t .nilIface .nilIface).run P u = .ok true u := fun k => by simp [Op.equalIn, run_und ht]
  exact this 9999
theorem rp_ifNe_t {t t' : TypeId} {x : Operand} {d : TypeId} {v : Value} {td : TypeDesc} (ho : o.op = .binOp .neq t x (.const .nilIface) t') (ht : P.underlying t = some td) (hi : (match td with | .interface _ => true | _ => false) = true) (hx : ev E x = some (.iface d v)) : RunP P n E o (.bool true) := by
  intro a u ha
  have hg : eqGuard .neq t x (.const .nilIface) (.iface d v) .nilIface = Pure.pure () := by rfl
  have hb : (binOp .neq t (.iface d v) .nilIface).run P u = .ok (.bool true) u := by
    show ((do pure (.bool (!(← Op.equal t (.iface d v) .nilIface))) : Sem Value)).run P u = _
    simp [run_equal_if ht hi]
  have hy : a.eval (.const .nilIface) = .nilIface := rfl
  simp [execOp, ho, ha.eval hx, hy, hg, hb]
theorem rp_ifNe_f {t t' : TypeId} {x : Operand} {td : TypeDesc} (ho : o.op = .binOp .neq t x (.const .nilIface) t') (ht : P.underlying t = some td) (hi : (match td with | .interface _ => true | _ => false) = true) (hx : ev E x = some .nilIface) : RunP P n E o (.bool false) := by
  intro a u ha
  have hg : eqGuard .neq t x (.const .nilIface) .nilIface .nilIface = Pure.pure () := by cases x <;> rfl
  have hb : (binOp .neq t .nilIface .nilIface).run P u = .ok (.bool false) u := by
    show ((do pure (.bool (!(← Op.equal t .nilIface .nilIface))) : Sem Value)).run P u = _
    simp [run_equal_ifn ht hi]
  have hy : a.eval (.const .nilIface) = .nilIface := rfl
  simp [execOp, ho, ha.eval hx, hy, hg, hb]
theorem rp_assert {t d : TypeId} {x : Operand} {v : Value} {td : TypeDesc} (ho : o.op = .typeAssert x t d false) (ht : P.underlying d = some td) (hi : (match td with | .interface _ => false | _ => true) = true) (hx : ev E x = some (.iface d v)) : RunP P n E o v := by
  intro a u ha
  cases td <;> simp at hi <;> simp [execOp, ho, ha.eval hx, Instr.typeAssert, run_und ht]

/-- A deferred function whose first two operations are `x := recover()`. -/
theorem callsD_recover {f : FuncId} {fn : Func} {rest : Code} {id : Nat} {o0 o1 : Oper} {t : Nat} {args : List Value} {u u' : FrameMode} {v : Value} {R' : Ending → World → Prop}
    (hf : P.funcs[f]? = some fn) (hb : fn.body = some (.seq (.region id #[o0, o1] false) rest)) (hn : Nat.ble args.length fn.ntmps = true)
    (g0 : o0.guard = none) (g1 : o1.guard = none) (d0 : o0.dst = some t) (d0' : dstOk fn.ntmps o0.dst = true) (d1' : dstOk fn.ntmps o1.dst = true)
    (h0 : o0.op = .call { callee := .builtin .recover, args := #[], argTypes := #[] }) (h1 : o1.op = .assign (.tmp t))
    (hu : (∃ e older, u = .panicking (e :: older) ∧ e.recovered = false ∧ e.goexit = false ∧ v = e.v ∧ u' = .panicking ({ v := e.v, recovered := true } :: older)) ∨ (u = .returning ∧ v = .nilIface ∧ u' = u))
    (h : Sx P fn.ntmps [] rest (endE fn P R') (putE (putE (entryEnv 0 args) o0.dst v) o1.dst v) w) :
    CallsD P f args.toArray u w (fun e um w' => um = u' ∧ R' e w') := by
  have hn' : args.length ≤ fn.ntmps := Nat.le_of_ble_eq_true hn
  refine callsD_of_wpS hf hb fun c₀ cs hm => wpS_seq ?_
  refine wpS_region ?_
  have ha0 : Agr fn.ntmps (entryEnv 0 args) { tmps := args.toArray ++ Array.replicate (fn.ntmps - args.toArray.size) undef, defers := [] } := by
    refine ⟨?_, ?_⟩
    · simp; omega
    · intro t v ht
      have := get_entry 0 args t v ht
      have h2 : args[t]? = some v := by simpa using this.2
      have h3 : t < args.length := by
        rcases Nat.lt_or_ge t args.length with h4 | h4
        · exact h4
        · rw [List.getElem?_eq_none h4] at h2; cases h2
      rw [Array.getElem?_append_left (by simpa using h3)]
      simpa using h2
  generalize haa : ({ tmps := args.toArray ++ Array.replicate (fn.ntmps - args.toArray.size) undef, defers := [] } : Act) = a at ha0
  have had : a.defers = [] := by rw [← haa]
  have hr0 : (execOp a.eval o0).run P w = .ok .recover w := by simp [execOp, h0, resolve, invoke, builtin]
  have ha1 := ha0.put d0' v
  have hr1 : (execOp (a.put o0.dst v).eval o1).run P w = .ok (.value v) w := by
    have hget : ev (putE (entryEnv 0 args) o0.dst v) (.tmp t) = some v := by simp [ev, d0, putE, get]
    simp [execOp, h1, ha1.eval hget]
  have key : ∀ cs', wpOpsS P #[o0, o1] (Exit.thenS (rest.wpS P (bodyPostS P fn c₀ cs fun e um w' => um = u' ∧ R' e w')) (bodyPostS P fn c₀ cs fun e um w' => um = u' ∧ R' e w')) [1] (a.put o0.dst v) cs' w ↔
      rest.wpS P (bodyPostS P fn c₀ cs fun e um w' => um = u' ∧ R' e w') ((a.put o0.dst v).put o1.dst v) cs' w := by
    intro cs'
    simp [wpOpsS, Region.wanted, g1, hr1, Oper.upon, Exit.thenS]
  have hrest : ∀ cm, cm = ({ c₀ with mode := u' } : Frame) → rest.wpS P (bodyPostS P fn c₀ cs fun e um w' => um = u' ∧ R' e w') ((a.put o0.dst v).put o1.dst v) (cm :: cs) w := by
    rintro cm rfl
    refine wpS_of_wp (wp_mono (h _ (ha1.put d1' v) (by rw [put_defers, put_defers, had])) ?_)
    rintro e a2 w2 ⟨E2, h3, h4, h5⟩
    cases e with
    | normal => obtain ⟨x, h6, h7⟩ := h5; exact ⟨h4, u', rfl, x, h6 _ h3.val, rfl, h7⟩
    | ret => obtain ⟨x, h6, h7⟩ := h5; exact ⟨h4, u', rfl, x, h6 _ h3.val, rfl, h7⟩
    | panic c => exact ⟨h4, u', rfl, rfl, h5⟩
    | exit id => exact h5.elim
    | goto l => exact h5.elim
    | outgrown => exact h5.elim
  have hlist : List.range (#[o0, o1] : Array Oper).size = [0, 1] := rfl
  rw [hlist]
  rcases hu with ⟨⟨pv, er, eg⟩, older, rfl, h6, h7, h8, rfl⟩ | ⟨rfl, rfl, rfl⟩
  · simp only at h6 h7 h8
    subst h6; subst h7; subst h8
    have hrec : recoverD (c₀ :: cs) = some (v, { c₀ with mode := .panicking ({ v := v, recovered := true } :: older) } :: cs) := by
      simp [recoverD, hm]
    have := (key _).mpr (hrest _ rfl)
    unfold wpOpsS
    simp only [List.getElem?_toArray, List.getElem?_cons_zero, Region.wanted, g0, if_true, hr0, hrec]
    exact this
  · have hrec : recoverD (c₀ :: cs) = none := by simp [recoverD, hm]
    have hcm : c₀ = ({ c₀ with mode := .returning } : Frame) := by rw [← hm]
    have := (key (c₀ :: cs)).mpr (hrest c₀ hcm)
    unfold wpOpsS
    simp only [List.getElem?_toArray, List.getElem?_cons_zero, Region.wanted, g0, if_true, hr0, hrec]
    exact this

/-- The deferred call runs, and the function returns what its results then hold. -/
theorem leaves_one {fn : Func} {tmps : Array Value} {R R' : Ending → World → Prop} {g : FuncId} {cap : Array Value} {u u' : FrameMode} (hg : callable P g = true) (hu : u ≠ .run) (hs : settle u' = .returning)
    (hc : CallsD P g cap u w fun e um w' => um = u' ∧ R' e w') (hR : ∀ e w', R' e w' → match e with | .returned _ => ∃ v, (results fn tmps).run P w' = .ok v w' ∧ R (.returned v) w' | _ => False) :
    Leaves P fn tmps R [{ target := .fn (.func g) cap, args := #[] }] u w := by
  refine leaves_cons (f := g) (args := cap) hu (by rw [invoke_fn hg]; simp) (hc.mono fun e um w' h => ?_)
  obtain ⟨rfl, h2⟩ := h
  have h3 := hR e w' h2
  cases e with
  | returned v => show Leaves P fn tmps R [] (settle um) w'; rw [hs]; exact h3
  | panicked c => exact h3.elim
  | outgrown => exact h3.elim
end
end Go.Eng
