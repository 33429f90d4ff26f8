/- The engine, part three: a region that draws its order, walked in one order: what only reads is taken as soon as it may come up, what acts comes in its turn, alone. -/
import Derived.Test.YtfnekbnlokigcaaEngF
import Derived.OrdersHeld
set_option linter.unusedVariables false
namespace Go.Eng
open Go

/-- What has been taken first: the operation's number, and the worlds in which it yields what it yielded: those that extend a world but for some blocks. -/
abbrev Pend := List (Nat × List Nat × World)

/-- What may still be due behind operation k. -/
def dropP (ops : List Oper) (k : Nat) (pend : Pend) : Pend := pend.filter fun p => !anc ops k p.1

def Pend.ok (pend : Pend) (w : World) : Prop := ∀ p ∈ pend, Ext p.2.1 p.2.2 w

/-! ## One operation, clean -/

/-- What follows an operation, by what it yields. -/
def uponE (P : Program) (o : Oper) (a : Act) (next : Act → World → Prop) (Q : Exit → Act → World → Prop) : Result Next → Prop
  | .ok (.value v) w' => next (a.put o.dst v) w'
  | .ok .skip w' => next (a.put o.dst undef) w'
  | .ok (.enter f args) w' => Calls P f args w' fun
      | .returned v, w'' => next (a.put o.dst v) w''
      | .panicked chain, w'' => Q (.panic chain) a w''
      | .outgrown, _ => False
  | .ok (.round l f tmps assign body) w' => RoundIn Fence.wide 0 P l f tmps assign body w' fun
      | .returned v, w'' => next (a.put o.dst v) w''
      | .panicked chain, w'' => Q (.panic chain) a w''
      | .outgrown, _ => False
  | .halt (.panic v) w' => Q (.panic [{ v, recovered := false }]) a w'
  | _ => False

def stepE (P : Program) (ops : Array Oper) (Q : Exit → Act → World → Prop) (i : Nat) (K : Act → World → Prop) (a : Act) (w : World) : Prop :=
  match ops[i]? with
  | none => K a w
  | some o => if Region.wanted o (yielded ops a.tmps) then uponE P o a K Q ((execOp a.eval o).run P w) else K (a.put o.dst undef) w

def listE (P : Program) (ops : Array Oper) (Q : Exit → Act → World → Prop) : List Oper → Act → World → Prop
  | [], a, w => Q .normal a w
  | o :: rest, a, w => if Region.wanted o (yielded ops a.tmps) then uponE P o a (listE P ops Q rest) Q ((execOp a.eval o).run P w) else listE P ops Q rest (a.put o.dst undef) w

section
variable {P : Program} {Q : Exit → Act → World → Prop} {K K' : Act → World → Prop} {a : Act} {w : World} {o : Oper}

theorem uponE_mono {r : Result Next} (h : ∀ a w, K a w → K' a w) (hh : uponE P o a K Q r) : uponE P o a K' Q r := by
  cases r with
  | ok x w' =>
    cases x <;> simp only [uponE] at hh ⊢ <;>
      first
        | exact h _ _ hh
        | exact Calls.mono hh (fun e w'' he => by cases e <;> first | exact h _ _ he | exact he)
        | exact RoundIn.mono hh (fun e w'' he => by cases e <;> first | exact h _ _ he | exact he)
  | halt x w' => cases x <;> simp only [uponE] at hh ⊢ <;> exact hh

theorem stepE_mono {ops : Array Oper} {i : Nat} (h : ∀ a w, K a w → K' a w) (hh : stepE P ops Q i K a w) : stepE P ops Q i K' a w := by
  unfold stepE at *
  split
  · exact h _ _ (by simpa [*] using hh)
  · rename_i o ho
    simp only [ho] at hh
    split
    · rename_i hw; simp only [hw, if_true] at hh; exact uponE_mono h hh
    · rename_i hw; simp only [hw] at hh; exact h _ _ hh

/-- What is clean holds in a round's frame as everywhere. -/
theorem uponE_wpIn (ro : Option Nat) (hh : uponE P o a K Q ((execOp a.eval o).run P w)) : o.wpIn (wideR ro) 0 P a w K Q := by
  refine ⟨fun _ _ => trivial, ?_⟩
  have key : ∀ r : Result Next, uponE P o a K Q r → o.uponIn (wideR ro) 0 P a K Q r := fun r hr => by
    cases r with
    | ok x w' =>
      cases x <;> simp only [uponE] at hr <;> simp only [Oper.uponIn] <;>
        first
          | exact hr
          | exact hr.elim
          | exact ⟨fun h => absurd h (by simp [wideR, Fence.wide]), show CallsIn Fence.wide 0 P _ _ _ _ from callsIn_wide.2 (Calls.mono hr (fun e w'' he => by cases e <;> first | exact he | exact he.elim))⟩
          | exact ⟨fun h => absurd h (by simp [wideR, Fence.wide]), show RoundIn Fence.wide 0 P _ _ _ _ _ _ _ from RoundIn.mono hr (fun e w'' he => by cases e <;> first | exact he | exact he.elim)⟩
    | halt x w' => cases x <;> simp only [uponE] at hr <;> first | exact hr | exact hr.elim
  cases hd : o.op with
  | defer c =>
    cases ro with
    | none => exact key _ hh
    | some l =>
      have he : (execOp a.eval o).run P w = (do pure (Next.defer (← resolve a.eval c o.type)) : Sem Next).run P w := by simp only [execOp, hd]
      rw [he, Sem.run_bind] at hh
      have hs : Oper.semAt (some l) a.eval o = (do Instr.deferInRound l (← resolve a.eval c o.type); pure .skip) := by simp only [Oper.semAt, hd]
      show o.uponIn (wideR (some l)) 0 P a K Q ((Oper.semAt (some l) a.eval o).run P w)
      rw [hs, Sem.run_bind]
      cases hr : (resolve a.eval c o.type).run P w with
      | ok d w' => rw [hr] at hh; simp [uponE] at hh
      | halt x w' => rw [hr] at hh; exact key _ hh
  | _ =>
    have hs : Oper.semAt ro a.eval o = execOp a.eval o := Oper.semAt_eq ro a.eval o (fun c hc => by rw [hd] at hc; cases hc)
    show o.uponIn (wideR ro) 0 P a K Q ((Oper.semAt ro a.eval o).run P w)
    rw [hs]
    exact key _ hh

theorem listE_wpIn (ro : Option Nat) {ops : Array Oper} : ∀ (l : List Oper) (a : Act) (w : World), listE P ops Q l a w → wpListIn (wideR ro) 0 P ops Q l a w
  | [], _, _, h => h
  | o :: rest, a, w, h => by
    unfold listE at h
    unfold wpListIn
    split
    · rename_i hw; simp only [hw, if_true] at h
      exact uponE_wpIn ro (uponE_mono (fun a w h => listE_wpIn ro rest a w h) h)
    · rename_i hw; simp only [hw] at h
      exact ⟨fun _ _ => trivial, listE_wpIn ro rest _ _ h⟩

theorem stepE_wpIn (ro : Option Nat) {ops : Array Oper} {i : Nat} (h : stepE P ops Q i K a w) : wpOpIn (wideR ro) 0 P ops Q i K a w := by
  unfold stepE at h
  unfold wpOpIn
  split
  · simpa [*] using h
  · rename_i o ho
    simp only [ho] at h
    split
    · rename_i hw; simp only [hw, if_true] at h; exact uponE_wpIn ro h
    · rename_i hw; simp only [hw] at h; exact ⟨fun _ _ => trivial, h⟩

theorem yieldsIf_stepE {ops : Array Oper} {S : World → Prop} {i : Nat} {v : Value} (hi : ops[i]? = some o) (hy : YieldsIf P ops S o v a) (hS : S w) (h : K (a.put o.dst v) w) : Go.Eng.stepE P ops Q i K a w := by
  unfold Go.Eng.stepE
  simp only [hi]
  rcases hy with ⟨hw, hv⟩ | ⟨hw, rfl⟩
  · simp only [hw, if_true, hv w hS, uponE]; exact h
  · simp only [hw, Bool.false_eq_true, if_false]; exact h

theorem stepE_putIf {ops : Array Oper} {S : World → Prop} {j : Nat} {oi oj : Oper} {v : Value} (hj : ops[j]? = some oj) (hap : oi.apart ops oj = true)
    (hsi : ∀ cs b, oi.op ≠ .select cs b) (hsj : ∀ cs b, oj.op ≠ .select cs b)
    (hQ : ∀ c a w, Q (.panic c) (a.put oi.dst v) w → Q (.panic c) a w)
    (hy : YieldsIf P ops S oi v a) (h : stepE P ops Q j K (a.put oi.dst v) w) :
    stepE P ops Q j (fun a' w' => YieldsIf P ops S oi v a' ∧ K (a'.put oi.dst v) w') a w := by
  obtain ⟨h1, h2, h3⟩ := Oper.apart_spec hap
  have keep : ∀ (a : Act), YieldsIf P ops S oi v a → ∀ u, YieldsIf P ops S oi v (a.put oj.dst u) := fun a hy u =>
    hy.of_same (execOp_put oi hsi a oj.dst u h3) (wanted_put oi a oj.dst u h3)
  unfold stepE at *
  simp only [hj] at *
  rw [wanted_put oj a oi.dst v h1] at h
  split
  · rename_i hw
    simp only [hw, if_true] at h
    rw [execOp_put oj hsj a oi.dst v h1] at h
    generalize (execOp a.eval oj).run P w = r at *
    cases r with
    | ok n w' =>
      cases n <;> simp only [uponE] at h ⊢
      case value u => exact ⟨keep a hy u, by rw [← Act.put_comm a v u h2]; exact h⟩
      case skip => exact ⟨keep a hy _, by rw [← Act.put_comm a v undef h2]; exact h⟩
      case enter f args =>
        refine Calls.mono h fun e w'' he => ?_
        cases e with
        | returned u => exact ⟨keep a hy u, by rw [← Act.put_comm a v u h2]; exact he⟩
        | panicked c => exact hQ _ _ _ he
        | outgrown => exact he
      case round l f tmps as bd =>
        refine RoundIn.mono h fun e w'' he => ?_
        cases e with
        | returned u => exact ⟨keep a hy u, by rw [← Act.put_comm a v u h2]; exact he⟩
        | panicked c => exact hQ _ _ _ he
        | outgrown => exact he
    | halt x w' =>
      cases x <;> simp only [uponE] at h ⊢
      case panic u => exact hQ _ _ _ h
  · rename_i hw
    simp only [hw] at h
    exact ⟨keep a hy _, by rw [← Act.put_comm a v undef h2]; exact h⟩
end

section
variable {P : Program} {ops : List Oper} {Q : Exit → Act → World → Prop}

def wpAnyG (P : Program) (ops : List Oper) (Q : Exit → Act → World → Prop) : Nat → Pend → Array Bool → Act → World → Prop
  | 0, _, listed, a, w => Region.ready .any ops.toArray listed = [] ∧ Q .normal a w
  | fuel + 1, pend, listed, a, w =>
    (Region.ready .any ops.toArray listed = [] → Q .normal a w) ∧
    ∀ i ∈ Region.ready .any ops.toArray listed, stepE P ops.toArray Q i (fun a' w' => (dropP ops i pend).ok w' ∧ wpAnyG P ops Q fuel (dropP ops i pend) (listed.setIfInBounds i true) a' w') a w

theorem wpAny_of_G (ro : Option Nat) : ∀ (fuel : Nat) (pend : Pend) (listed : Array Bool) (a : Act) (w : World), wpAnyG P ops Q fuel pend listed a w → wpAnyIn (wideR ro) 0 P .any ops.toArray Q fuel listed a w
  | 0, _, _, _, _, h => h
  | fuel + 1, _, _, _, _, h => ⟨h.1, fun i hi => wpOpIn_mono (fun a' w' h' => wpAny_of_G ro fuel _ _ a' w' h'.2) (stepE_wpIn ro (h.2 i hi))⟩

theorem dropP_sub {k : Nat} {p p' : Pend} (h : ∀ x ∈ p', x ∈ p) : ∀ x ∈ dropP ops k p', x ∈ dropP ops k p := fun x hx => by
  simp only [dropP, List.mem_filter] at hx ⊢
  exact ⟨h x hx.1, hx.2⟩

theorem wpAnyG_weak : ∀ (fuel : Nat) (pend pend' : Pend) (listed : Array Bool) (a : Act) (w : World), (∀ x ∈ pend', x ∈ pend) → wpAnyG P ops Q fuel pend listed a w → wpAnyG P ops Q fuel pend' listed a w
  | 0, _, _, _, _, _, _, h => h
  | fuel + 1, pend, pend', listed, a, w, hs, h => ⟨h.1, fun i hi => stepE_mono (fun a' w' h' => ⟨fun x hx => h'.1 x (dropP_sub hs x hx), wpAnyG_weak fuel _ _ _ _ _ (dropP_sub hs) h'.2⟩) (h.2 i hi)⟩

def Closed (ops : List Oper) (listed : Array Bool) : Prop := ∀ (k : Nat) (o : Oper), ops[k]? = some o → listed.getD k false = true → ∀ e ∈ o.after, Region.binds .any e = true → listed.getD e.on false = true

theorem Closed.set {listed : Array Bool} (h : Closed ops listed) {i : Nat} (hi : i ∈ Region.ready .any ops.toArray listed) : Closed ops (listed.setIfInBounds i true) := by
  obtain ⟨h0, o, ho, hall⟩ := mem_ready.1 hi
  intro k p hp hk e he hb
  by_cases hki : i = k
  · subst hki
    have : ops[i]? = some o := by simpa using ho
    rw [hp] at this
    obtain rfl := Option.some.inj this
    exact getD_set_true (hall e he hb)
  · rw [getD_set_ne false hki] at hk
    exact getD_set_true (h k p hp hk e he hb)

theorem Closed.no_anc {listed : Array Bool} (h : Closed ops listed) {i j : Nat} (hi : listed.getD i false = false) (hj : j ∈ Region.ready .any ops.toArray listed) : anc ops j i = false := by
  cases h1 : anc ops j i with
  | false => rfl
  | true =>
    obtain ⟨h0, o, ho, hall⟩ := mem_ready.1 hj
    have := closed_anc (S := fun k => listed.getD k false) h j (fun o' ho' e he hb => by
      have h2 : ops[j]? = some o := by simpa using ho
      rw [ho'] at h2
      obtain rfl := Option.some.inj h2
      exact hall e he hb) i h1
    rw [hi] at this
    cases this

theorem wpAnyG_first {i : Nat} {oi : Oper} {v : Value} {add : Pend} (hi : ops[i]? = some oi) (hsel : ∀ (j : Nat) (o : Oper) cs b, ops.toArray[j]? = some o → o.op ≠ .select cs b)
    (hQ : ∀ c a w, Q (.panic c) (a.put oi.dst v) w → Q (.panic c) a w) (hadd : ∀ p ∈ add, p.1 = i) :
    ∀ (fuel : Nat) (pend : Pend) (listed : Array Bool) (a : Act) (w : World), Closed ops listed → listed.getD i false = false →
      (∀ j oj, ops.toArray[j]? = some oj → j ≠ i → listed.getD j true = false → (∀ e ∈ oj.after, Region.binds .any e = true → e.on ≠ i) → oi.apart ops.toArray oj = true) →
      i ∈ Region.ready .any ops.toArray listed → YieldsIf P ops.toArray add.ok oi v a → add.ok w → pend.ok w →
      wpAnyG P ops Q fuel (add ++ pend) (listed.setIfInBounds i true) (a.put oi.dst v) w → wpAnyG P ops Q (fuel + 1) pend listed a w := by
  have hi' : ops.toArray[i]? = some oi := by simpa using hi
  have here : ∀ (fuel : Nat) (pend : Pend) (listed : Array Bool) (a : Act) (w : World), YieldsIf P ops.toArray add.ok oi v a → add.ok w → pend.ok w →
      wpAnyG P ops Q fuel (add ++ pend) (listed.setIfInBounds i true) (a.put oi.dst v) w →
      stepE P ops.toArray Q i (fun a' w' => (dropP ops i pend).ok w' ∧ wpAnyG P ops Q fuel (dropP ops i pend) (listed.setIfInBounds i true) a' w') a w := by
    intro fuel pend listed a w hy hS hP H
    refine yieldsIf_stepE hi' hy hS ⟨fun p hp => hP p ((List.mem_filter.1 hp).1), wpAnyG_weak fuel _ _ _ _ _ (fun x hx => List.mem_append_right _ ((List.mem_filter.1 hx).1)) H⟩
  intro fuel
  induction fuel with
  | zero =>
    intro pend listed a w _ _ _ hr hy hS hP H
    refine ⟨fun h => (by rw [h] at hr; cases hr), fun j hj => ?_⟩
    by_cases hji : j = i
    · subst hji; exact here _ _ _ _ _ hy hS hP H
    · have := ready_mono hj hji
      rw [H.1] at this
      cases this
  | succ fuel ih =>
    intro pend listed a w hcl hun0 hfree hr hy hS hP H
    refine ⟨fun h => (by rw [h] at hr; cases hr), fun j hj => ?_⟩
    by_cases hji : j = i
    · subst hji; exact here _ _ _ _ _ hy hS hP H
    · have h1 := H.2 j (ready_mono hj hji)
      obtain ⟨hjun, oj, hoj, hall⟩ := mem_ready.1 hj
      have hnot : ∀ e ∈ oj.after, Region.binds .any e = true → e.on ≠ i := fun e he hb heq => by
        have h1 := hall e he hb
        rw [heq, hun0] at h1
        cases h1
      have h2 := stepE_putIf hoj (hfree j oj hoj hji hjun hnot) (fun cs b => hsel i oi cs b hi') (fun cs b => hsel j oj cs b hoj) hQ hy h1
      have hfree' : ∀ k ok, ops.toArray[k]? = some ok → k ≠ i → (listed.setIfInBounds j true).getD k true = false →
          (∀ e ∈ ok.after, Region.binds .any e = true → e.on ≠ i) → oi.apart ops.toArray ok = true := fun k ok hk hki hun hno => by
        refine hfree k ok hk hki ?_ hno
        by_cases hjk : j = k
        · subst hjk; exact hjun
        · rw [getD_set_ne true hjk] at hun; exact hun
      have hno := hcl.no_anc hun0 hj
      have hdrop : dropP ops j (add ++ pend) = add ++ dropP ops j pend := by
        simp only [dropP, List.filter_append]
        congr 1
        exact List.filter_eq_self.2 fun p hp => by rw [hadd p hp, hno]; rfl
      rw [hdrop] at h2
      refine stepE_mono (fun a' w' h3 => ?_) h2
      obtain ⟨h4, h5, h6⟩ := h3
      refine ⟨fun p hp => h5 p (List.mem_append_right _ hp), ih _ (listed.setIfInBounds j true) a' w' (hcl.set hj) (by rw [getD_set_ne false hji]; exact hun0) hfree' (ready_mono hr (Ne.symm hji)) h4
        (fun p hp => h5 p (List.mem_append_left _ hp)) (fun p hp => h5 p (List.mem_append_right _ hp)) ?_⟩
      rw [Array.setIfInBounds_comm _ _ hji]
      exact h6

/-! ## The order in which a region is walked -/

def listedOf (ops : List Oper) : List Nat → Array Bool
  | [] => Array.replicate ops.length false
  | i :: r => (listedOf ops r).setIfInBounds i true

/-- `dets`: what is taken first; all else must come alone. `done` has the latest first. -/
def walkOk (ops : List Oper) (dets : List Nat) (m : Nat) : (done todo : List Nat) → Bool
  | done, [] => match m with
    | 0 => (Region.ready .any ops.toArray (listedOf ops done)).isEmpty
    | _ + 1 => true
  | done, i :: r =>
    (bif dets.contains i then (Region.ready .any ops.toArray (listedOf ops done)).contains i && Region.free .any ops.toArray (listedOf ops done) i
      else Region.ready .any ops.toArray (listedOf ops done) == [i]) && walkOk ops dets m (i :: done) r

/-- The walk stands behind `done`, before `todo`. -/
def Wx (P : Program) (n : Nat) (ds : List Deferred) (ops : List Oper) (Q : PostE) (dets : List Nat) (done todo : List Nat) (m : Nat) (pend : Pend) (E : Env) (w : World) : Prop :=
  Region.noSelect ops.toArray = true → walkOk ops dets m done todo = true → Closed ops (listedOf ops done) → pend.ok w → ∀ a, Agr n E a → a.defers = ds → wpAnyG P ops (lift n ds Q) (todo.length + m) pend (listedOf ops done) a w

end

/-- A post that does not ask for the environment at a panic. -/
def Calm (Q : PostE) : Prop := ∀ c E E' w, Q (.panic c) E w → Q (.panic c) E' w

/-- In every world that extends w but for X, from every frame that agrees with E, the operation yields v. -/
def RunV (P : Program) (n : Nat) (E : Env) (o : Oper) (X : List Nat) (w : World) (v : Value) : Prop :=
  ∀ a u, Ext X w u → Agr n E a → (execOp a.eval o).run P u = .ok (.value v) u

section
variable {P : Program} {n : Nat} {ds : List Deferred} {ops : List Oper} {Q : PostE} {dets done todo : List Nat} {m : Nat} {pend : Pend} {E : Env} {w : World}

theorem Wx.nil (h : Q .normal E w) : Wx P n ds ops Q dets done [] 0 pend E w := by
  intro hs hw hc hp a ha hd
  simp only [walkOk, List.isEmpty_iff] at hw
  exact ⟨hw, E, ha, hd, h⟩

theorem Wx.pair {i : Nat} {o : Oper} (hcalm : Calm Q) (ho : ops[i]? = some o) (hdet : dets.contains i = true)
    {v : Value} (add : Pend) (hadd : ∀ p ∈ add, p.1 = i) (hy : ∀ a, Agr n E a → a.defers = ds → YieldsIf P ops.toArray add.ok o v a) (hX : add.ok w) (hd : dstOk n o.dst = true)
    (h : Wx P n ds ops Q dets (i :: done) todo m (add ++ pend) (putE E o.dst v) w) : Wx P n ds ops Q dets done (i :: todo) m pend E w := by
  intro hs hw hc hp a ha hds
  rw [show (i :: todo).length + m = (todo.length + m) + 1 by simp; omega]
  simp only [walkOk, hdet, cond_true, Bool.and_eq_true] at hw
  obtain ⟨⟨hr, hf⟩, hw⟩ := hw
  have hr' : i ∈ Region.ready .any ops.toArray (listedOf ops done) := by simpa using hr
  have ho' : ops.toArray[i]? = some o := by simpa using ho
  have hun : (listedOf ops done).getD i false = false := by
    have h1 := (mem_ready.1 hr').1
    rcases Nat.lt_or_ge i (listedOf ops done).size with h' | h'
    · simp [h'] at h1 ⊢; exact h1
    · simp [Array.getElem?_eq_none h'] at h1
  refine wpAnyG_first (add := add) ho (Region.noSelect_spec hs) ?_ hadd (todo.length + m) pend (listedOf ops done) a w hc hun (Region.free_spec ho' hf) hr' (hy a ha hds) hX hp ?_
  · rintro c a' w' ⟨E', h1, h2, h3⟩
    exact ⟨[], ⟨by rw [← h1.size, put_size], fun t v ht => by cases ht⟩, by rw [← put_defers a' o.dst v]; exact h2, hcalm _ _ _ _ h3⟩
  · have hp' : Pend.ok (add ++ pend) w := fun p hp' => by
      rcases List.mem_append.1 hp' with hp' | hp'
      · exact hX p hp'
      · exact hp p hp'
    exact h hs hw (hc.set hr') hp' _ (ha.put hd v) (by rw [put_defers]; exact hds)

/-- What yields the same in whatever world extends this one, but for X. -/
theorem Wx.val {i : Nat} {o : Oper} (hcalm : Calm Q) (ho : ops[i]? = some o) (hdet : dets.contains i = true) (hd : dstOk n o.dst = true) (hg : wantedE ops E o.guard = some true)
    {v : Value} (X : List Nat) (hv : RunV P n E o X w v) (h : Wx P n ds ops Q dets (i :: done) todo m ((i, X, w) :: pend) (putE E o.dst v) w) : Wx P n ds ops Q dets done (i :: todo) m pend E w :=
  Wx.pair hcalm ho hdet [(i, X, w)] (fun p hp => by simp at hp; rw [hp]) (fun a ha _ => .inl ⟨wanted_of_E hg ha, fun u hu => hv a u (hu (i, X, w) (.head _)) ha⟩)
    (fun p hp => by simp at hp; subst hp; exact Ext.refl _ _) hd h

theorem Wx.skip {i : Nat} {o : Oper} (hcalm : Calm Q) (ho : ops[i]? = some o) (hdet : dets.contains i = true) (hd : dstOk n o.dst = true) (hg : wantedE ops E o.guard = some false)
    (h : Wx P n ds ops Q dets (i :: done) todo m pend (putE E o.dst undef) w) : Wx P n ds ops Q dets done (i :: todo) m pend E w :=
  Wx.pair hcalm ho hdet [] (fun p hp => by cases hp) (fun a ha _ => .inr ⟨wanted_of_E hg ha, rfl⟩) (fun p hp => by cases hp) hd h

/-- In whatever world at all. -/
def RunP (P : Program) (n : Nat) (E : Env) (o : Oper) (v : Value) : Prop := ∀ a u, Agr n E a → (execOp a.eval o).run P u = .ok (.value v) u

theorem RunP.runV {o : Oper} {v : Value} (h : RunP P n E o v) (X : List Nat) : RunV P n E o X w v := fun a u _ ha => h a u ha

/-- What yields the same in whatever world. -/
theorem Wx.pure {i : Nat} {o : Oper} (hcalm : Calm Q) (ho : ops[i]? = some o) (hdet : dets.contains i = true) (hd : dstOk n o.dst = true) (hg : wantedE ops E o.guard = some true)
    {v : Value} (hv : RunP P n E o v) (h : Wx P n ds ops Q dets (i :: done) todo m pend (putE E o.dst v) w) : Wx P n ds ops Q dets done (i :: todo) m pend E w :=
  Wx.pair hcalm ho hdet [] (fun p hp => by cases hp) (fun a ha _ => .inl ⟨wanted_of_E hg ha, fun u _ => hv a u ha⟩) (fun p hp => by cases hp) hd h

/-- What an operation that acts leads to: a value (or none), a call. -/
def Acts (P : Program) (n : Nat) (ds : List Deferred) (E : Env) (o : Oper) (w : World) (K : Value → World → Prop) (Q : PostE) : Prop :=
  ∀ a, Agr n E a → a.defers = ds →
    (∃ v w', (execOp a.eval o).run P w = .ok (.value v) w' ∧ K v w') ∨
    (∃ w', (execOp a.eval o).run P w = .ok .skip w' ∧ K undef w') ∨
    (∃ f args w1, (execOp a.eval o).run P w = .ok (.enter f args) w1 ∧ Calls P f args w1 fun e w' => match e with
      | .returned v => K v w'
      | .panicked c => Q (.panic c) [] w'
      | .outgrown => False) ∨
    (∃ v w', (execOp a.eval o).run P w = .halt (.panic v) w' ∧ Q (.panic [{ v, recovered := false }]) [] w') ∨
    (∃ l f tmps as bd w1, (execOp a.eval o).run P w = .ok (.round l f tmps as bd) w1 ∧ RoundIn Fence.wide 0 P l f tmps as bd w1 fun e w' => match e with
      | .returned v => K v w'
      | .panicked c => Q (.panic c) [] w'
      | .outgrown => False)

theorem Agr.none {a : Act} (h : a.tmps.size = n) : Agr n [] a := ⟨h, fun t v ht => by cases ht⟩

theorem wpOp_of_acts {i : Nat} {o : Oper} (ho : ops[i]? = some o) (hg : wantedE ops E o.guard = some true) {K : Value → World → Prop} (h : Acts P n ds E o w K Q) {a : Act} (ha : Agr n E a) (hd : a.defers = ds)
    {N : Act → World → Prop} (hN : ∀ v w', K v w' → N (a.put o.dst v) w') : stepE P ops.toArray (lift n ds Q) i N a w := by
  unfold stepE
  simp only [List.getElem?_toArray, ho, wanted_of_E hg ha, if_true]
  rcases h a ha hd with ⟨v, w', h1, h2⟩ | ⟨w', h1, h2⟩ | ⟨f, args, w1, h1, h2⟩ | ⟨v, w', h1, h2⟩ | ⟨l, f, tmps, as, bd, w1, h1, h2⟩
  · rw [h1]; exact hN v w' h2
  · rw [h1]; exact hN undef w' h2
  · rw [h1]
    simp only [uponE]
    refine h2.mono fun e w' he => ?_
    cases e with
    | returned v => exact hN v w' he
    | panicked c => exact ⟨[], Agr.none ha.size, hd, he⟩
    | outgrown => exact he.elim
  · rw [h1]
    exact ⟨[], Agr.none ha.size, hd, h2⟩
  · rw [h1]
    simp only [uponE]
    refine h2.mono fun e w' he => ?_
    cases e with
    | returned v => exact hN v w' he
    | panicked c => exact ⟨[], Agr.none ha.size, hd, he⟩
    | outgrown => exact he.elim

/-- What acts comes alone: what was taken before it must still yield what it yielded, unless it has come up for sure. -/
theorem Wx.act {i : Nat} {o : Oper} (ho : ops[i]? = some o) (hdet : dets.contains i = false) (hd : dstOk n o.dst = true) (hg : wantedE ops E o.guard = some true)
    (pend' : Pend) (hsub : ∀ p ∈ pend, anc ops i p.1 = true ∨ p ∈ pend') {K : Value → World → Prop} (hv : Acts P n ds E o w K Q)
    (h : ∀ v w', K v w' → (pend.ok w → pend'.ok w') ∧ Wx P n ds ops Q dets (i :: done) todo m pend' (putE E o.dst v) w') : Wx P n ds ops Q dets done (i :: todo) m pend E w := by
  intro hs hw hc hp a ha hds
  rw [show (i :: todo).length + m = (todo.length + m) + 1 by simp; omega]
  simp only [walkOk, hdet, cond_false, Bool.and_eq_true, beq_iff_eq] at hw
  obtain ⟨hr, hw⟩ := hw
  have hmem : i ∈ Region.ready .any ops.toArray (listedOf ops done) := by rw [hr]; simp
  refine ⟨fun h0 => (by rw [h0] at hr; cases hr), fun j hj => ?_⟩
  rw [hr, List.mem_singleton] at hj
  subst hj
  refine wpOp_of_acts ho hg hv ha hds fun v w' hK => ?_
  obtain ⟨h1, h2⟩ := h v w' hK
  have h3 := h1 hp
  have hdr : ∀ x ∈ dropP ops j pend, x ∈ pend' := fun x hx => by
    simp only [dropP, List.mem_filter, Bool.not_eq_true'] at hx
    rcases hsub x hx.1 with h4 | h4
    · rw [hx.2] at h4; cases h4
    · exact h4
  refine ⟨fun p hp' => h3 p (hdr p hp'), wpAnyG_weak _ _ _ _ _ _ hdr ?_⟩
  exact h2 hs hw (hc.set hmem) h3 _ (ha.put hd v) (by rw [put_defers]; exact hds)

/-- An operation that is not wanted, where none is taken first. -/
theorem Wx.actSkip {i : Nat} {o : Oper} (ho : ops[i]? = some o) (hdet : dets.contains i = false) (hd : dstOk n o.dst = true) (hg : wantedE ops E o.guard = some false)
    (h : Wx P n ds ops Q dets (i :: done) todo m pend (putE E o.dst undef) w) : Wx P n ds ops Q dets done (i :: todo) m pend E w := by
  intro hs hw hc hp a ha hds
  rw [show (i :: todo).length + m = (todo.length + m) + 1 by simp; omega]
  simp only [walkOk, hdet, cond_false, Bool.and_eq_true, beq_iff_eq] at hw
  obtain ⟨hr, hw⟩ := hw
  have hmem : i ∈ Region.ready .any ops.toArray (listedOf ops done) := by rw [hr]; simp
  refine ⟨fun h0 => (by rw [h0] at hr; cases hr), fun j hj => ?_⟩
  rw [hr, List.mem_singleton] at hj
  subst hj
  unfold stepE
  simp only [List.getElem?_toArray, ho, wanted_of_E hg ha, Bool.false_eq_true, if_false]
  have hdr : ∀ x ∈ dropP ops j pend, x ∈ pend := fun x hx => (List.mem_filter.1 hx).1
  exact ⟨fun p hp' => hp p (hdr p hp'), wpAnyG_weak _ _ _ _ _ _ hdr (h hs hw (hc.set hmem) hp _ (ha.put hd undef) (by rw [put_defers]; exact hds))⟩

/-- What acts and leaves all that was there alone keeps all that was taken. -/
theorem Wx.actNew {i : Nat} {o : Oper} (ho : ops[i]? = some o) (hdet : dets.contains i = false) (hd : dstOk n o.dst = true) (hg : wantedE ops E o.guard = some true)
    {K : Value → World → Prop} (hv : Acts P n ds E o w (fun v w' => Ext [] w w' ∧ K v w') Q)
    (h : ∀ v w', Ext [] w w' → K v w' → Wx P n ds ops Q dets (i :: done) todo m pend (putE E o.dst v) w') : Wx P n ds ops Q dets done (i :: todo) m pend E w :=
  Wx.act ho hdet hd hg pend (fun p hp => .inr hp) hv fun v w' ⟨h1, h2⟩ => ⟨fun hp p hp' => (hp p hp').trans h1.up, h v w' h1 h2⟩

/-- What acts behind all that was taken. -/
theorem Wx.actLast {i : Nat} {o : Oper} (ho : ops[i]? = some o) (hdet : dets.contains i = false) (hd : dstOk n o.dst = true) (hg : wantedE ops E o.guard = some true)
    (hall : pend.all (fun p => anc ops i p.1) = true) {K : Value → World → Prop} (hv : Acts P n ds E o w K Q)
    (h : ∀ v w', K v w' → Wx P n ds ops Q dets (i :: done) todo m [] (putE E o.dst v) w') : Wx P n ds ops Q dets done (i :: todo) m pend E w :=
  Wx.act ho hdet hd hg [] (fun p hp => .inl (List.all_eq_true.1 hall p hp)) hv fun v w' hK => ⟨fun _ p hp => (by cases hp), h v w' hK⟩

inductive PendK (ops : List Oper) (i : Nat) (Y : List Nat) : Pend → Pend → Prop
  | nil : PendK ops i Y [] []
  | drop {p : Nat × List Nat × World} {l l' : Pend} : anc ops i p.1 = true → PendK ops i Y l l' → PendK ops i Y (p :: l) l'
  | keep {p : Nat × List Nat × World} {l l' : Pend} : (∀ y, y ∈ Y → y ∈ p.2.1 ∨ p.2.2.heap.size ≤ y) → PendK ops i Y l l' → PendK ops i Y (p :: l) (p :: l')

theorem PendK.mem {i : Nat} {Y : List Nat} : ∀ {pend pend' : Pend}, PendK ops i Y pend pend' → (∀ p ∈ pend, anc ops i p.1 = true ∨ p ∈ pend') ∧ (∀ p ∈ pend', p ∈ pend ∧ ∀ y, y ∈ Y → y ∈ p.2.1 ∨ p.2.2.heap.size ≤ y)
  | _, _, .nil => ⟨fun p hp => (by cases hp), fun p hp => (by cases hp)⟩
  | _, _, .drop h k => ⟨fun p hp => (by
      rcases List.mem_cons.1 hp with rfl | hp
      · exact .inl h
      · exact k.mem.1 p hp), fun p hp => ⟨.tail _ (k.mem.2 p hp).1, (k.mem.2 p hp).2⟩⟩
  | _, _, .keep h k => ⟨fun p hp => (by
      rcases List.mem_cons.1 hp with rfl | hp
      · exact .inr (.head _)
      · exact (k.mem.1 p hp).imp id (.tail _)), fun p hp => (by
      rcases List.mem_cons.1 hp with rfl | hp
      · exact ⟨.head _, h⟩
      · exact ⟨.tail _ (k.mem.2 p hp).1, (k.mem.2 p hp).2⟩)⟩

/-- What acts on the blocks Y alone, and what was taken does not look there. -/
theorem Wx.actX {i : Nat} {o : Oper} (pend' : Pend) (ho : ops[i]? = some o) (hdet : dets.contains i = false) (hd : dstOk n o.dst = true) (hg : wantedE ops E o.guard = some true)
    (Y : List Nat) (hY : PendK ops i Y pend pend') {K : Value → World → Prop} (hv : Acts P n ds E o w K Q) (hK : ∀ v w', K v w' → Ext Y w w')
    (h : ∀ v w', K v w' → Wx P n ds ops Q dets (i :: done) todo m pend' (putE E o.dst v) w') : Wx P n ds ops Q dets done (i :: todo) m pend E w := by
  refine Wx.act ho hdet hd hg pend' hY.mem.1 hv fun v w' hk => ⟨fun hp p hp' => ?_, h v w' hk⟩
  obtain ⟨h1, h2⟩ := hY.mem.2 p hp'
  have e1 := hp p h1
  have e2 := hK v w' hk
  exact ⟨e2.os.trans e1.os, e2.tape.trans e1.tape, e2.output.trans e1.output, Nat.le_trans e1.size e2.size, fun j hj hx => (e2.keep j (Nat.lt_of_lt_of_le hj e1.size) fun hm => by
    rcases h2 j hm with h3 | h3
    · exact hx h3
    · omega).trans (e1.keep j hj hx), Nat.le_trans e1.drawn e2.drawn⟩

/-- One of two that may come up: what it leads to. -/
def Br (P : Program) (n : Nat) (ds : List Deferred) (ops : List Oper) (Q : PostE) (dets done : List Nat) (m : Nat) (pend : Pend) (E : Env) (w : World) (i : Nat) : Prop :=
  Region.noSelect ops.toArray = true → Closed ops (listedOf ops done) → i ∈ Region.ready .any ops.toArray (listedOf ops done) → pend.ok w → ∀ a, Agr n E a → a.defers = ds →
    stepE P ops.toArray (lift n ds Q) i (fun a' w' => (dropP ops i pend).ok w' ∧ wpAnyG P ops (lift n ds Q) m (dropP ops i pend) ((listedOf ops done).setIfInBounds i true) a' w') a w

theorem Br.mk {i : Nat} {o : Oper} (pend' : Pend) (ho : ops[i]? = some o) (hd : dstOk n o.dst = true) (hg : wantedE ops E o.guard = some true)
    (Y : List Nat) (hY : PendK ops i Y pend pend') {K : Value → World → Prop} (hv : Acts P n ds E o w K Q) (hK : ∀ v w', K v w' → Ext Y w w') (todo : List Nat) (m : Nat) {k : Nat} (hk : (todo.length + m == k && walkOk ops dets m (i :: done) todo) = true)
    (h : ∀ v w', K v w' → Wx P n ds ops Q dets (i :: done) todo m pend' (putE E o.dst v) w') : Br P n ds ops Q dets done k pend E w i := by
  intro hs hc hmem hp a ha hds
  simp only [Bool.and_eq_true, beq_iff_eq] at hk
  obtain ⟨rfl, hw⟩ := hk
  refine wpOp_of_acts ho hg hv ha hds fun v w' hk => ?_
  have e2 := hK v w' hk
  have hdr : ∀ x ∈ dropP ops i pend, x ∈ pend' := fun x hx => by
    simp only [dropP, List.mem_filter, Bool.not_eq_true'] at hx
    rcases hY.mem.1 x hx.1 with h4 | h4
    · rw [hx.2] at h4; cases h4
    · exact h4
  have h3 : pend'.ok w' := fun p hp' => by
    obtain ⟨h1, h2⟩ := hY.mem.2 p hp'
    have e1 := hp p h1
    exact ⟨e2.os.trans e1.os, e2.tape.trans e1.tape, e2.output.trans e1.output, Nat.le_trans e1.size e2.size, fun j hj hx => (e2.keep j (Nat.lt_of_lt_of_le hj e1.size) fun hm => by
      rcases h2 j hm with h3 | h3
      · exact hx h3
      · omega).trans (e1.keep j hj hx), Nat.le_trans e1.drawn e2.drawn⟩
  refine ⟨fun p hp' => h3 p (hdr p hp'), wpAnyG_weak _ _ _ _ _ _ hdr ?_⟩
  exact h v w' hk hs hw (hc.set hmem) h3 _ (ha.put hd v) (by rw [put_defers]; exact hds)

/-- Two acts may come up: both ways are walked. -/
theorem Wx.fork {i j : Nat} (hr : (Region.ready .any ops.toArray (listedOf ops done) == [i, j]) = true) (hi : Br P n ds ops Q dets done m pend E w i) (hj : Br P n ds ops Q dets done m pend E w j) :
    Wx P n ds ops Q dets done [] (m + 1) pend E w := by
  intro hs _ hc hp a ha hds
  have hr := eq_of_beq hr
  refine ⟨fun h0 => (by rw [h0] at hr; cases hr), fun k hk => ?_⟩
  have hk' := hk
  rw [hr] at hk'
  simp only [List.mem_cons, List.not_mem_nil, or_false] at hk'
  rcases hk' with rfl | rfl
  · have := hi hs hc hk hp a ha hds
    simpa using this
  · have := hj hs hc hk hp a ha hds
    simpa using this

end

/-! ## A region in the order of its text -/

/-- The walk stands before `l`. -/
def Ox (P : Program) (n : Nat) (ds : List Deferred) (ops : List Oper) (Q : PostE) (l : List Oper) (E : Env) (w : World) : Prop :=
  ∀ a, Agr n E a → a.defers = ds → listE P ops.toArray (lift n ds Q) l a w

section
variable {P : Program} {n : Nat} {ds : List Deferred} {ops : List Oper} {Q : PostE} {E : Env} {w : World} {o : Oper} {l : List Oper}

theorem Ox.nil (h : Q .normal E w) : Ox P n ds ops Q [] E w := fun a ha hd => ⟨E, ha, hd, h⟩

theorem Ox.act (hd : dstOk n o.dst = true) (hg : wantedE ops E o.guard = some true) {K : Value → World → Prop} (hv : Acts P n ds E o w K (fun e _ w' => Q e E w'))
    (h : ∀ v w', K v w' → Ox P n ds ops Q l (putE E o.dst v) w') : Ox P n ds ops Q (o :: l) E w := by
  intro a ha hds
  have hw := wanted_of_E hg ha
  unfold listE
  rw [if_pos hw]
  have hN : ∀ v w', K v w' → listE P ops.toArray (lift n ds Q) l (a.put o.dst v) w' := fun v w' hK => h v w' hK _ (ha.put hd v) (by rw [put_defers]; exact hds)
  rcases hv a ha hds with ⟨v, w', h1, h2⟩ | ⟨w', h1, h2⟩ | ⟨f, args, w1, h1, h2⟩ | ⟨v, w', h1, h2⟩ | ⟨l, f, tmps, as, bd, w1, h1, h2⟩
  · rw [h1]; exact hN v w' h2
  · rw [h1]; exact hN undef w' h2
  · rw [h1]
    simp only [uponE]
    refine h2.mono fun e w' he => ?_
    cases e with
    | returned v => exact hN v w' he
    | panicked c => exact ⟨E, ha, hds, he⟩
    | outgrown => exact he.elim
  · rw [h1]
    exact ⟨E, ha, hds, h2⟩
  · rw [h1]
    simp only [uponE]
    refine h2.mono fun e w' he => ?_
    cases e with
    | returned v => exact hN v w' he
    | panicked c => exact ⟨E, ha, hds, he⟩
    | outgrown => exact he.elim

theorem Ox.val (hd : dstOk n o.dst = true) (hg : wantedE ops E o.guard = some true) {v : Value} (hv : RunV P n E o [] w v) (h : Ox P n ds ops Q l (putE E o.dst v) w) : Ox P n ds ops Q (o :: l) E w :=
  Ox.act (K := fun u w' => u = v ∧ w' = w) hd hg (fun a ha _ => .inl ⟨v, w, hv a w (Ext.refl _ _) ha, rfl, rfl⟩) fun u w' ⟨h1, h2⟩ => by subst h1; subst h2; exact h

theorem Ox.skip (hd : dstOk n o.dst = true) (hg : wantedE ops E o.guard = some false) (h : Ox P n ds ops Q l (putE E o.dst undef) w) : Ox P n ds ops Q (o :: l) E w := by
  intro a ha hds
  have hw := wanted_of_E hg ha
  unfold listE
  rw [if_neg (by rw [hw]; simp)]
  exact h _ (ha.put hd undef) (by rw [put_defers]; exact hds)

end
end Go.Eng
