/- The engine, part nine: a range over a function. -/
import Derived.Test.YtfnekbnlokigcaaEngT
import Derived.RangeFuncRecord
set_option linter.unusedVariables false
set_option linter.unusedSimpArgs false
namespace Go.Eng
open Go

section
variable {P : Program} {n : Nat} {ds : List Deferred} {Q : PostE} {E : Env} {w : World} {o : Oper}

/-! ## The iterator's side -/

/-- A call of yield with the values vs. -/
def YieldE (P : Program) (l : Nat) (vs : List Value) (w : World) (R : Value → World → Prop) : Prop :=
  ∃ f tmps as bd, (Instr.yield l vs.toArray).run P w = .ok (.round l f tmps as bd) w ∧ RoundIn Fence.wide 0 P l f tmps as bd w (Ret R)

theorem acts_yield {f : Operand} {l : Nat} {xs : List Operand} {ts : Array TypeId} {vs : List Value} {K : Value → World → Prop}
    (ho : o.op = .call { callee := .value f, args := xs.toArray, argTypes := ts }) (hf : ev E f = some (.func (.yield l) #[] #[])) (hx : evs E xs = some vs) (hy : YieldE P l vs w K) : Acts P n ds E o w K Q := by
  intro a ha _
  obtain ⟨g, tmps, as, bd, h1, h2⟩ := hy
  refine .inr (.inr (.inr (.inr ⟨l, g, tmps, as, bd, w, ?_, h2.mono fun e w' h => ?_⟩)))
  · have h3 : xs.toArray.map a.eval = vs.toArray := by rw [← ha.evals hx]; simp
    simp only [execOp, ho, resolve, Deferred.ofValue, ha.eval hf, h3, Sem.run_bind, Sem.run_pure, Result.andThen_ok, invoke, Array.empty_append, Array.append_empty, h1]
  · cases e with
    | returned v => exact h
    | panicked c => exact h.elim
    | outgrown => exact h.elim

/-- What a round may rely on between two calls of yield: `J pre X w`: pre has come; X: the blocks that are the rounds' own. B: what the iterator changes lies from B on. -/
structure Rounds (J : List (List Value) → List Nat → World → Prop) (B : Nat) : Prop where
  stay : ∀ i X W W' Z, J i X W → Ext Z W W' → (∀ z ∈ Z, B ≤ z ∧ z ∉ X) → J i X W'
  lt : ∀ i X W, J i X W → ∀ k ∈ X, k < W.heap.size

/-- A round has been made: what it changed. -/
def RoundStep (J : List (List Value) → List Nat → World → Prop) (X : List Nat) (pre : List (List Value)) (W W' : World) : Prop :=
  ∃ X', J pre X' W' ∧ (∃ Y, Ext Y W W' ∧ ∀ y ∈ Y, y ∈ X ∨ W.heap.size ≤ y) ∧ ∀ k ∈ X', k ∈ X ∨ W.heap.size ≤ k

/-- The contract of an iterator's function g with lb captured, called in W: S: the blocks that it reads; Nxt: what may come next; Fin: what may have come at the end. -/
def IterE (P : Program) (g : FuncId) (lb : Array Value) (B : Nat) (S : Nat → Prop) (Nxt : List (List Value) → List Value → Prop) (Fin : List (List Value) → Prop) (W : World) : Prop :=
  ∀ (l : Nat) (J : List (List Value) → List Nat → World → Prop), Rounds J B →
    (∀ pre x X W1, Nxt pre x → J pre X W1 → YieldE P l x W1 fun v W2 => v = .bool true ∧ RoundStep J X (pre ++ [x]) W1 W2) →
    ∀ X, J [] X W → (∀ k ∈ X, ¬ S k) →
    Calls P g (#[.func (.yield l) #[] #[]] ++ lb) W (Ret fun _ W' => ∃ pre X', Fin pre ∧ J pre X' W')

/-- What was read lies as it lay. -/
theorem RoundStep.cells {J : List (List Value) → List Nat → World → Prop} {X : List Nat} {pre : List (List Value)} {W W' : World} (h : RoundStep J X pre W W') {A : Addr} {cs : List Value} (hc : Cells W A cs) (hX : A.block ∉ X) : Cells W' A cs := by
  obtain ⟨_, _, ⟨Y, he, hY⟩, _⟩ := h
  by_cases hcs : cs = []
  · subst hcs; exact cells_nil _ _
  · refine hc.ext he fun hm => ?_
    rcases hY _ hm with h1 | h1
    · exact hX h1
    · have := hc.lt hcs; omega

/-! ## The loop's side -/

def mark (D : Nat) : Deferred := { target := .collected D, args := #[] }

/-- The environment of a round: what has come, and what was there. -/
def bindE : List Tmp → List Value → Env → Env
  | t :: ts, v :: vs, E => bindE ts vs ((t, v) :: E)
  | _, _, E => E

theorem bind_agr : ∀ (ts : List Tmp) (vs : List Value) (E : Env) (tmps : Array Value), (∀ t ∈ ts, t < n) → Agr n E { tmps, defers := [] } →
    Agr n (bindE ts vs E) { tmps := (ts.zip vs).foldl (fun tmps (x : Tmp × Value) => tmps.setIfInBounds x.1 x.2) tmps, defers := [] }
  | [], vs, E, tmps, _, h => by cases vs <;> exact h
  | t :: ts, [], E, tmps, _, h => h
  | t :: ts, v :: vs, E, tmps, ht, h => by
    simp only [List.zip_cons_cons, List.foldl_cons, bindE]
    exact bind_agr ts vs _ _ (fun s hs => ht s (by simp [hs])) (h.put (d := some t) (by simp [dstOk, Nat.blt_eq, ht t (by simp)]) v)

theorem putObj_ext (W : World) (l : Nat) (o : Obj) : Ext [l] W (W.putObj l o) :=
  ⟨rfl, rfl, rfl, by simp, fun k _ hk => World.putObj_heap_other (fun e => hk (by simp [e])), Nat.le_refl _⟩
theorem alloc_ext (W : World) (o : Obj) : Ext [] W (W.alloc o) := Ext.push [] W o

/-- The statement. -/
theorem wpIn_rangeE {a : Act} {ps : Array Tmp} {as bd : Code} {f : Operand} {g : FuncId} {lb : Array Value} {B : Nat} {S : Nat → Prop} {Nxt : List (List Value) → List Value → Prop} {Fin : List (List Value) → Prop}
    (ha : Agr n E a) (hf : ev E f = some (.func (.func g) #[] lb)) (hg : callable P g = true)
    (I : List (List Value) → List Nat → World → Prop) (hI : Rounds I B) (hB : B ≤ w.heap.size) (X0 : List Nat) (h0 : I [] X0 w) (hS : ∀ k ∈ X0, ¬ S k) (hSl : ∀ k, S k → k < w.heap.size)
    (hiter : ∀ W, Ext [] w W → IterE P g lb B S Nxt Fin W) (hps : ∀ pre x, Nxt pre x → x.length = ps.size) (hpn : ∀ t ∈ ps.toList, t < n)
    (round : ∀ pre x X W l, Nxt pre x → I pre X W → w.heap.size ≤ l → l < W.heap.size → l ∉ X →
      Sx (some l) P n [] as (fun e E1 W1 => e = .normal ∧ Ext [] W W1 ∧ ∀ W2, Ext [l] W1 W2 →
        Sx (some l) P n [] bd (fun e E2 W3 => e = .normal ∧ ∃ X', I (pre ++ [x]) X' W3 ∧ (∃ Y, Ext Y W2 W3 ∧ ∀ y ∈ Y, y ∈ X ∨ W.heap.size ≤ y) ∧ ∀ k ∈ X', k ∈ X ∨ W.heap.size ≤ k) E1 W2) (bindE ps.toList x E) W)
    {T : Exit → Act → World → Prop}
    (done : ∀ (D : Nat) pre X W', w.heap.size ≤ D → W'.heap[D]? = some (.deferred (some [])) → D ∉ X → Fin pre → I pre X W' → T .normal { a with defers := mark D :: a.defers } W') :
    (Code.rangeFunc f ps as bd).wpIn (wideR none) 0 P T a w := by
  show (Code.rangeFunc f ps as bd).wpIn Fence.wide 0 P T a w
  refine wpIn_rangeFunc ?_
  intro fn hfn
  obtain ⟨rec, hrec⟩ : ∃ rec : LoopState → Option Code → Loop, rec = fun st pe => { state := st, pending := pe, fn, tmps := a.tmps, params := ps, assign := as, body := bd, defers := w.heap.size } := ⟨_, rfl⟩
  obtain ⟨W1, hW1⟩ : ∃ W1, (w.alloc (.deferred (some []))).alloc (.loop (rec .ready none)) = W1 := ⟨_, rfl⟩
  have hL1 : W1.heap[w.heap.size + 1]? = some (.loop (rec .ready none)) := by
    rw [← hW1]; have := World.alloc_heap_new (w.alloc (.deferred (some []))) (.loop (rec .ready none)); rwa [World.size_alloc] at this
  have e01 : Ext [] w W1 := by rw [← hW1]; exact (alloc_ext _ _).trans (alloc_ext _ _)
  have hK1 : W1.heap[w.heap.size]? = some (.deferred (some [])) := by
    rw [← hW1]
    have h1 := (alloc_ext (w.alloc (.deferred (some []))) (.loop (rec .ready none))).keep w.heap.size (by simp) (by simp)
    exact h1.trans (World.alloc_heap_new w _)
  have hsz1 : W1.heap.size = w.heap.size + 2 := by rw [← hW1]; simp
  have hI1 : I [] X0 W1 := hI.stay _ _ _ _ [] h0 e01 (by simp)
  have hX0 := hI.lt _ _ _ h0
  refine ⟨w.heap.size + 1, [mark w.heap.size], W1, { target := .fn (.func g) lb, args := #[.func (.yield (w.heap.size + 1)) #[] #[]] }, W1, g,
    #[.func (.yield (w.heap.size + 1)) #[] #[]] ++ lb, W1, ?_, ?_, fun _ _ => trivial, ?_, fun h => absurd h (by simp [Fence.wide]), ?_⟩
  · rw [← hW1, hrec]; exact run_enterLoop_outer _ _ _ _ _
  · have hev : (#[.const (.func (.yield (w.heap.size + 1)) #[] #[])] : Array Operand).map a.eval = #[.func (.yield (w.heap.size + 1)) #[] #[]] := by simp [Act.eval]
    simp only [resolve, Deferred.ofValue, ha.eval hf, hev, Sem.run_bind, Sem.run_pure, Result.andThen_ok, Array.empty_append]
  · simp only [invoke, run_callFunc hg]
  · refine callsIn_wide.2 ((hiter W1 e01 (w.heap.size + 1)
      (fun pre X W => ∃ X1, X = (w.heap.size + 1) :: w.heap.size :: X1 ∧ I pre X1 W ∧ W.heap[w.heap.size + 1]? = some (.loop (rec .ready none)) ∧ W.heap[w.heap.size]? = some (.deferred (some [])) ∧ w.heap.size + 1 ∉ X1 ∧ w.heap.size ∉ X1)
      ⟨?_, ?_⟩ ?_ ((w.heap.size + 1) :: w.heap.size :: X0) ⟨X0, rfl, hI1, hL1, hK1, fun h => by have := hX0 _ h; omega, fun h => by have := hX0 _ h; omega⟩ ?_).mono ?_)
    · rintro i X W W' Z ⟨X1, rfl, hi, hl, hk, hn1, hn2⟩ he hZ
      have h1 := (Array.getElem?_eq_some_iff.1 hl).1
      have h2 := (Array.getElem?_eq_some_iff.1 hk).1
      exact ⟨X1, rfl, hI.stay _ _ _ _ Z hi he (fun z hz => ⟨(hZ z hz).1, fun h => (hZ z hz).2 (by simp [h])⟩), (he.keep _ h1 (fun h => (hZ _ h).2 (by simp))).trans hl, (he.keep _ h2 (fun h => (hZ _ h).2 (by simp))).trans hk, hn1, hn2⟩
    · rintro i X W ⟨X1, rfl, hi, hl, hk, _, _⟩ k hm
      have h1 := (Array.getElem?_eq_some_iff.1 hl).1
      have h2 := (Array.getElem?_eq_some_iff.1 hk).1
      simp only [List.mem_cons] at hm
      rcases hm with rfl | rfl | hm
      · exact h1
      · exact h2
      · exact hI.lt _ _ _ hi k hm
    · -- one round
      rintro pre x X W hnx ⟨X1, rfl, hi, hl, hk, hn1, hn2⟩
      have hlt := (Array.getElem?_eq_some_iff.1 hl).1
      have hy := run_yield (P := P) (args := x.toArray) hl (by rw [hrec]; simpa using hps pre x hnx)
      rw [hrec] at hy
      refine ⟨fn, _, as, bd, hy, roundIn_of_wpIn (F := Fence.wide) hfn ?_⟩
      have hr := round pre x X1 W (w.heap.size + 1) hnx hi (by omega) hlt hn1
      have hag := bind_agr ps.toList x E a.tmps hpn ⟨ha.size, ha.val⟩
      have hz : (ps.zip x.toArray).foldl (fun tmps (x : Tmp × Value) => tmps.setIfInBounds x.1 x.2) a.tmps = (ps.toList.zip x).foldl (fun tmps (x : Tmp × Value) => tmps.setIfInBounds x.1 x.2) a.tmps := by
        rw [← Array.foldl_toList, Array.toList_zip]
      show as.wpIn (wideR (some (w.heap.size + 1))) 0 P _ { tmps := (ps.zip x.toArray).foldl (fun tmps (x : Tmp × Value) => tmps.setIfInBounds x.1 x.2) a.tmps, defers := [] } W
      rw [hz]
      refine wpIn_mono (hr _ hag rfl) ?_
      rintro e a1 w1 ⟨E1, hag1, hd1, rfl, e1, hbody⟩
      have hl1 := (e1.keep _ hlt (by simp)).trans hl
      have hk1 := (e1.keep _ (Array.getElem?_eq_some_iff.1 hk).1 (by simp)).trans hk
      have hz1 := e1.size
      refine ⟨_, run_beginRound hl1 (by rw [hrec]), ?_⟩
      have eB := putObj_ext w1 (w.heap.size + 1) (.loop { rec .ready none with state := .busy })
      have hk2 := (eB.keep _ (Array.getElem?_eq_some_iff.1 hk1).1 (by simp)).trans hk1
      have hl2 : (w1.putObj (w.heap.size + 1) (.loop { rec .ready none with state := .busy })).heap[w.heap.size + 1]? = some (.loop { rec .ready none with state := .busy }) := World.putObj_heap_same (by omega)
      refine wpIn_mono (hbody _ eB a1 hag1 hd1) ?_
      rintro e a3 W3 ⟨E3, hag3, hd3, rfl, X', hi3, ⟨Y, heY, hY⟩, hX'⟩
      have hlY : w.heap.size + 1 ∉ Y := fun hm => by
        rcases hY _ hm with h1 | h1
        · exact hn1 h1
        · omega
      have hkY : w.heap.size ∉ Y := fun hm => by
        rcases hY _ hm with h1 | h1
        · exact hn2 h1
        · omega
      have hl3 := (heY.keep _ (Array.getElem?_eq_some_iff.1 hl2).1 hlY).trans hl2
      have hk3 := (heY.keep _ (Array.getElem?_eq_some_iff.1 hk2).1 hkY).trans hk2
      have hlX : w.heap.size + 1 ∉ X' := fun hm => by
        rcases hX' _ hm with h1 | h1
        · exact hn1 h1
        · omega
      have hkX : w.heap.size ∉ X' := fun hm => by
        rcases hX' _ hm with h1 | h1
        · exact hn2 h1
        · omega
      have hend := run_endRound (P := P) none hl3
      have eE := putObj_ext W3 (w.heap.size + 1) (.loop { rec .ready none with state := .ready, pending := none })
      have hrr : ({ rec .ready none with state := .ready, pending := none } : Loop) = rec .ready none := by rw [hrec]
      rw [hrr] at eE
      refine ⟨_, _, hend, rfl, (w.heap.size + 1) :: w.heap.size :: X', ⟨X', rfl, ?_, ?_, ?_, hlX, hkX⟩, ⟨(w.heap.size + 1) :: Y, ?_, ?_⟩, ?_⟩
      · refine hI.stay _ _ _ _ [w.heap.size + 1] hi3 ?_ (fun z hz => ?_)
        · have := eE; rw [← hrr] at this; exact this
        · simp only [List.mem_singleton] at hz; subst hz; exact ⟨by omega, hlX⟩
      · have := World.putObj_heap_same (w := W3) (r := w.heap.size + 1) (o := .loop { rec .ready none with state := .ready, pending := none }) (Array.getElem?_eq_some_iff.1 hl3).1
        rw [hrr] at this
        rw [← hrr] at this
        exact this.trans (by rw [hrr])
      · have := eE.keep _ (Array.getElem?_eq_some_iff.1 hk3).1 (by simp)
        rw [← hrr] at this
        exact this.trans hk3
      · have h4 := eE; rw [← hrr] at h4
        exact ((e1.up.trans (eB.mono (by simp))).trans (heY.mono (fun k hk => by simp [hk]))).trans (h4.mono (by simp))
      · intro y hy
        simp only [List.mem_cons] at hy
        rcases hy with rfl | hy
        · exact .inl (by simp)
        · exact (hY y hy).imp (fun h => by simp [h]) id
      · intro k hk
        simp only [List.mem_cons] at hk
        rcases hk with rfl | rfl | hk
        · exact .inl (by simp)
        · exact .inl (by simp)
        · exact (hX' k hk).imp (fun h => by simp [h]) id
    · intro k hk hs
      have h3 := hSl k hs
      simp only [List.mem_cons] at hk
      rcases hk with rfl | rfl | hk
      · omega
      · omega
      · exact hS k hk hs
    · intro e W' he
      cases e with
      | returned v =>
        obtain ⟨pre, X, hfin, X1, rfl, hi, hl, hk, hn1, hn2⟩ := he
        refine ⟨none, _, (by have := run_endLoop (P := P) hl (by rw [hrec]; simp); rw [hrec] at this; exact this), ?_⟩
        have he := putObj_ext W' (w.heap.size + 1) (.loop { rec .ready none with state := .exhausted })
        rw [hrec] at he
        refine done w.heap.size pre X1 _ (Nat.le_refl _) ?_ hn2 hfin (hI.stay _ _ _ _ _ hi he ?_)
        · exact (he.keep _ (Array.getElem?_eq_some_iff.1 hk).1 (by simp)).trans hk
        · intro z hz; simp only [List.mem_singleton] at hz; subst hz; exact ⟨by omega, hn1⟩
      | panicked c => exact he.elim
      | outgrown => exact he.elim

/-! ## A function that holds such a loop -/

/-- Code whose end is said of the frame itself. -/
def SxG (P : Program) (n : Nat) (ds : List Deferred) (c : Code) (T : Exit → Act → World → Prop) (E : Env) (w : World) : Prop := ∀ a, Agr n E a → a.defers = ds → c.wpIn (wideR none) 0 P T a w

theorem SxG.seqL {x y : Code} {T : Exit → Act → World → Prop} (h : SxG P n ds x (Exit.then (fun a w => y.wpIn (wideR none) 0 P T a w) T) E w) : SxG P n ds (.seq x y) T E w :=
  fun a ha hd => wpIn_seq (h a ha hd)
theorem SxG.run {x y : Code} {T : Exit → Act → World → Prop} (h : Sx none P n ds x (fun e E' w' => e = .normal ∧ SxG P n ds y T E' w') E w) : SxG P n ds (.seq x y) T E w :=
  fun a ha hd => wpIn_seq (wpIn_mono (h a ha hd) fun e a' w' ⟨E', h1, h2, h3, h4⟩ => by subst h3; exact h4 a' h1 h2)
theorem SxG.weaken {x : Code} {E' : Env} {T : Exit → Act → World → Prop} (h : SxG P n ds x T E' w) (hs : ∀ t v, get E' t = some v → get E t = some v) : SxG P n ds x T E w := fun a ha hd => h a (ha.weaken hs) hd
theorem SxG.done {x : Code} {Q : PostE} {T : Exit → Act → World → Prop} (h : Sx none P n ds x Q E w) (hQ : ∀ e a w, lift n ds Q e a w → T e a w) : SxG P n ds x T E w := fun a ha hd => wpIn_mono (h a ha hd) hQ

/-- The block for the rounds' deferred calls lies as it was laid. -/
def Rec (w : World) (D : Nat) : Prop := w.heap[D]? = some (.deferred (some []))
theorem Rec.ext {w w' : World} {X : List Nat} {D : Nat} (h : Rec w D) (he : Ext X w w') (hX : D ∉ X) : Rec w' D := (he.keep _ (Array.getElem?_eq_some_iff.1 h).1 hX).trans h
theorem Rec.ext0 {w w' : World} {D : Nat} (h : Rec w D) (he : Ext [] w w') : Rec w' D := h.ext he (by simp)
theorem Rec.lt {w : World} {D : Nat} (h : Rec w D) : D < w.heap.size := (Array.getElem?_eq_some_iff.1 h).1

/-- The statement, and what follows. -/
theorem SxG.range {ps : Array Tmp} {as bd rest : Code} {id : Nat} {f : Operand} {g : FuncId} {lb : Array Value} {B : Nat} {S : Nat → Prop} {Nxt : List (List Value) → List Value → Prop} {Fin : List (List Value) → Prop}
    (hf : ev E f = some (.func (.func g) #[] lb)) (hg : callable P g = true) (hpn : (ps.toList.all fun t => Nat.blt t n) = true)
    (I : List (List Value) → List Nat → World → Prop) (hI : Rounds I B) (hB : B ≤ w.heap.size) (X0 : List Nat) (h0 : I [] X0 w) (hS : ∀ k ∈ X0, ¬ S k) (hSl : ∀ k, S k → k < w.heap.size)
    (hiter : ∀ W, Ext [] w W → IterE P g lb B S Nxt Fin W) (hps : ∀ pre x, Nxt pre x → x.length = ps.size)
    (round : ∀ pre x X W l, Nxt pre x → I pre X W → w.heap.size ≤ l → l < W.heap.size → l ∉ X →
      Sx (some l) P n [] as (fun e E1 W1 => e = .normal ∧ Ext [] W W1 ∧ ∀ W2, Ext [l] W1 W2 →
        Sx (some l) P n [] bd (fun e E2 W3 => e = .normal ∧ ∃ X', I (pre ++ [x]) X' W3 ∧ (∃ Y, Ext Y W2 W3 ∧ ∀ y ∈ Y, y ∈ X ∨ W.heap.size ≤ y) ∧ ∀ k ∈ X', k ∈ X ∨ W.heap.size ≤ k) E1 W2) (bindE ps.toList x E) W)
    {T : Exit → Act → World → Prop}
    (done : ∀ (D : Nat) pre X W', w.heap.size ≤ D → Rec W' D → D ∉ X → Fin pre → I pre X W' → SxG P n (mark D :: ds) rest T E W') :
    SxG P n ds (.block id (.rangeFunc f ps as bd)) (Exit.then (fun a w => rest.wpIn (wideR none) 0 P T a w) T) E w := by
  intro a ha hd
  refine wpIn_block (wpIn_rangeE ha hf hg I hI hB X0 h0 hS hSl hiter hps (fun t ht => ?_) round fun D pre X W' h1 h2 h3 h4 h5 => ?_)
  · have := List.all_eq_true.1 hpn t ht; simpa [Nat.blt_eq] using this
  · exact done D pre X W' h1 h2 h3 h4 h5 _ ⟨ha.size, ha.val⟩ (by show mark D :: a.defers = _; rw [hd])

theorem calls_of_SxG {f : FuncId} {fn : Func} {c : Code} {args : List Value} {w : World} {R : Ending → World → Prop}
    (hf : P.funcs[f]? = some fn) (hb : fn.body = some c) (hn : Nat.ble args.length fn.ntmps = true) (h : SxG P fn.ntmps [] c (bodyPostM Fence.wide 0 P fn R) (entryEnv 0 args) w) : Calls P f args.toArray w R := by
  have hn' : args.length ≤ fn.ntmps := Nat.le_of_ble_eq_true hn
  refine callsIn_wide.1 (callsIn_of_wp_marks hf hb trivial (h _ ⟨?_, ?_⟩ rfl))
  · simp; omega
  · intro t v ht
    have := get_entry 0 args t v ht
    have h2 : args[t]? = some v := by simpa using this.2
    have h3 : t < args.length := by
      rcases Nat.lt_or_ge t args.length with h4 | h4
      · exact h4
      · rw [List.getElem?_eq_none h4] at h2; cases h2
    rw [Array.getElem?_append_left (by simpa using h3)]
    simpa using h2

/-- What a body owes at its end, behind such a loop. -/
def endM (fn : Func) (P : Program) (R : Ending → World → Prop) (D : Nat) : PostE
  | .ret, E, w | .normal, E, w => Rec w D ∧ ∀ w', Ext [D] w w' → ∃ v, (∀ tmps : Array Value, (∀ t v, get E t = some v → tmps[t]? = some v) → (results fn tmps).run P w' = .ok v w') ∧ R (.returned v) w'
  | _, _, _ => False

theorem endM_ret {fn : Func} {R : Ending → World → Prop} {D : Nat} {e : Exit} (he : e = .ret ∨ e = .normal) (vs : List Value) (hD : Rec w D) (hr : ∀ w', Ext [D] w w' → resOK P E w' fn.results.toList vs) (h : ∀ w', Ext [D] w w' → R (.returned (resV vs)) w') :
    endM fn P R D e E w := by
  rcases he with rfl | rfl <;> exact ⟨hD, fun w' he => ⟨_, results_run (hr w' he), h w' he⟩⟩

theorem endM_done {fn : Func} {R : Ending → World → Prop} {D : Nat} : ∀ e a w, lift fn.ntmps [mark D] (endM fn P R D) e a w → bodyPostM Fence.wide 0 P fn R e a w := by
  have key : ∀ (a : Act) (w : World), (∃ E, Agr fn.ntmps E a ∧ a.defers = [mark D] ∧ endM fn P R D .ret E w) → LeavesInM Fence.wide 0 P fn a.tmps R a.defers .returning w := by
    rintro a w ⟨E, h1, h2, h3, h4⟩
    rw [h2]
    obtain ⟨v, h5, h6⟩ := h4 _ (putObj_ext w D (.deferred none))
    refine ⟨by simp, .inl ⟨D, _, rfl, run_takeDeferred h3, ?_⟩⟩
    exact ⟨v, h5 _ h1.val, h6⟩
  intro e a w h
  obtain ⟨E, h1, h2, h3⟩ := h
  cases e with
  | normal => exact key a w ⟨E, h1, h2, h3⟩
  | ret => exact key a w ⟨E, h1, h2, h3⟩
  | _ => exact h3.elim

end
end Go.Eng
