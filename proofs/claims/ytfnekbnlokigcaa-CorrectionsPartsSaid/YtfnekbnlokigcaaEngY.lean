/- The engine, part thirteen: a loop around ranges over functions (marks of deferred calls gather). -/
import Derived.Test.YtfnekbnlokigcaaEngR
set_option linter.unusedVariables false
set_option linter.unusedSimpArgs false
namespace Go.Eng
open Go

abbrev PostM := Exit → List Nat → Env → World → Prop
def liftM (n : Nat) (Q : PostM) : Exit → Act → World → Prop := fun e a w => ∃ Ds E, Agr n E a ∧ a.defers = Ds.map mark ∧ Q e Ds E w
def SxM (P : Program) (n : Nat) (Ds : List Nat) (c : Code) (Q : PostM) (E : Env) (w : World) : Prop :=
  ∀ a, Agr n E a → a.defers = Ds.map mark → c.wpIn (wideR none) 0 P (liftM n Q) a w
def thenM (K : List Nat → Env → World → Prop) (Q : PostM) : PostM
  | .normal, Ds, E, w => K Ds E w
  | e, Ds, E, w => Q e Ds E w
def blockM (id : Nat) (Q : PostM) : PostM
  | .exit j, Ds, E, w => match Nat.beq j id with | true => Q .normal Ds E w | false => Q (.exit j) Ds E w
  | e, Ds, E, w => Q e Ds E w

section
variable {P : Program} {n : Nat} {Ds : List Nat} {Q : PostM} {E : Env} {w : World}

theorem thenM_normal {K : List Nat → Env → World → Prop} (h : K Ds E w) : thenM K Q .normal Ds E w := h
theorem thenM_exit {K : List Nat → Env → World → Prop} {id : Nat} (h : Q (.exit id) Ds E w) : thenM K Q (.exit id) Ds E w := h
theorem thenM_ret {K : List Nat → Env → World → Prop} (h : Q .ret Ds E w) : thenM K Q .ret Ds E w := h
theorem blockM_normal {id : Nat} (h : Q .normal Ds E w) : blockM id Q .normal Ds E w := h
theorem blockM_ret {id : Nat} (h : Q .ret Ds E w) : blockM id Q .ret Ds E w := h
theorem blockM_same {id : Nat} (h : Q .normal Ds E w) : blockM id Q (.exit id) Ds E w := by
  show (match Nat.beq id id with | true => Q .normal Ds E w | false => Q (.exit id) Ds E w)
  rw [Nat.beq_refl]; exact h
theorem SxM.weaken {x : Code} {E' : Env} (h : SxM P n Ds x Q E' w) (hs : ∀ t v, get E' t = some v → get E t = some v) : SxM P n Ds x Q E w := fun a ha hd => h a (ha.weaken hs) hd
theorem SxM.skip (h : Q .normal Ds E w) : SxM P n Ds .skip Q E w := fun a ha hd => wpIn_skip ⟨Ds, E, ha, hd, h⟩
theorem SxM.ret (h : Q .ret Ds E w) : SxM P n Ds .ret Q E w := fun a ha hd => wpIn_ret ⟨Ds, E, ha, hd, h⟩
theorem SxM.exit {id : Nat} (h : Q (.exit id) Ds E w) : SxM P n Ds (.exit id) Q E w := fun a ha hd => wpIn_exit ⟨Ds, E, ha, hd, h⟩
theorem SxM.seq {x y : Code} (h : SxM P n Ds x (thenM (fun Ds' E' w' => SxM P n Ds' y Q E' w') Q) E w) : SxM P n Ds (.seq x y) Q E w :=
  fun a ha hd => wpIn_seq (wpIn_mono (h a ha hd) fun e a' w' ⟨Ds', E', h1, h2, h3⟩ => by
    cases e <;> first | exact h3 a' h1 h2 | exact ⟨Ds', E', h1, h2, h3⟩)
theorem SxM.run {x y : Code} (h : Sx none P n (Ds.map mark) x (fun e E' w' => e = .normal ∧ SxM P n Ds y Q E' w') E w) : SxM P n Ds (.seq x y) Q E w :=
  fun a ha hd => wpIn_seq (wpIn_mono (h a ha hd) fun e a' w' ⟨E', h1, h2, h3, h4⟩ => by subst h3; exact h4 a' h1 h2)
theorem SxM.last {x : Code} (h : Sx none P n (Ds.map mark) x (fun e E' w' => e = .normal ∧ Q .normal Ds E' w') E w) : SxM P n Ds x Q E w :=
  fun a ha hd => wpIn_mono (h a ha hd) fun e a' w' ⟨E', h1, h2, h3, h4⟩ => by subst h3; exact ⟨Ds, E', h1, h2, h4⟩
theorem SxM.cond_true {c : Operand} {x y : Code} (hc : ev E c = some (.bool true)) (ht : SxM P n Ds x Q E w) : SxM P n Ds (.cond c x y) Q E w :=
  fun a ha hd => wpIn_cond_split (ha.eval hc) (fun _ => ht a ha hd) (fun h => by cases h)
theorem SxM.cond_false {c : Operand} {x y : Code} (hc : ev E c = some (.bool false)) (hf : SxM P n Ds y Q E w) : SxM P n Ds (.cond c x y) Q E w :=
  fun a ha hd => wpIn_cond_split (ha.eval hc) (fun h => by cases h) (fun _ => hf a ha hd)
theorem SxM.block {id : Nat} {c : Code} (h : SxM P n Ds c (blockM id Q) E w) : SxM P n Ds (.block id c) Q E w :=
  fun a ha hd => wpIn_block (wpIn_mono (h a ha hd) fun e a' w' ⟨Ds', E', h1, h2, h3⟩ => by
    cases e with
    | exit j =>
      simp only [Exit.inBlock]
      simp only [blockM] at h3
      by_cases hj : j = id
      · subst hj; simp at h3; simp; exact ⟨Ds', E', h1, h2, h3⟩
      · have hb : Nat.beq j id = false := by
          cases hb : Nat.beq j id
          · rfl
          · exact absurd (Nat.eq_of_beq_eq_true hb) hj
        rw [hb] at h3
        simp only [hj, if_false]
        exact ⟨Ds', E', h1, h2, h3⟩
    | _ => exact ⟨Ds', E', h1, h2, h3⟩)
theorem SxM.loop {c : Code} {ι : Type} (I : ι → List Nat → Env → World → Prop) (μ : ι → Nat) (i₀ : ι) {E₀ : Env} (hs : ∀ t v, get E₀ t = some v → get E t = some v) (h₀ : I i₀ Ds E₀ w)
    (round : ∀ i Ds E w, I i Ds E w → SxM P n Ds c (thenM (fun Ds' E' w' => ∃ j E'', (∀ t v, get E'' t = some v → get E' t = some v) ∧ I j Ds' E'' w' ∧ μ j < μ i) Q) E w) :
    SxM P n Ds (.loop c) Q E w := by
  intro a ha hd
  refine wpIn_loop_num (fun k a w => ∃ Ds i E, Agr n E a ∧ a.defers = Ds.map mark ∧ I i Ds E w ∧ μ i = k) (μ i₀) ⟨Ds, i₀, E₀, ha.weaken hs, hd, h₀, rfl⟩ fun k a w ⟨Ds, i, E, h1, hd, h2, h3⟩ => ?_
  refine wpIn_mono (round i Ds E w h2 a h1 hd) fun e a' w' ⟨Ds', E', g1, g2, g3⟩ => ?_
  cases e with
  | normal =>
    obtain ⟨j, E'', k1, k2, k3⟩ := g3
    exact ⟨μ j, by omega, Ds', j, E'', g1.weaken k1, g2, k2, rfl⟩
  | _ => exact ⟨Ds', E', g1, g2, g3⟩

/-- The statement, where the code of a loop or of a block goes on. -/
theorem SxM.range {ps : Array Tmp} {as bd : Code} {id : Nat} {f : Operand} {g : FuncId} {lb : Array Value} {B : Nat} {S : Nat → Prop} {Nxt : List (List Value) → List Value → Prop} {Fin : List (List Value) → Prop}
    (hf : ev E f = some (.func (.func g) #[] lb)) (hg : callable P g = true) (hpn : (ps.toList.all fun t => Nat.blt t n) = true)
    (I : List (List Value) → List Nat → World → Prop) (hI : Rounds I B) (hB : B ≤ w.heap.size) (X0 : List Nat) (h0 : I [] X0 w) (hS : ∀ k ∈ X0, ¬ S k) (hSl : ∀ k, S k → k < w.heap.size)
    (hiter : ∀ W, Ext [] w W → IterE P g lb B S Nxt Fin W) (hps : ∀ pre x, Nxt pre x → x.length = ps.size)
    (round : ∀ pre x X W l, Nxt pre x → I pre X W → w.heap.size ≤ l → l < W.heap.size → l ∉ X →
      Sx (some l) P n [] as (fun e E1 W1 => e = .normal ∧ Ext [] W W1 ∧ ∀ W2, Ext [l] W1 W2 →
        Sx (some l) P n [] bd (fun e E2 W3 => e = .normal ∧ ∃ X', I (pre ++ [x]) X' W3 ∧ (∃ Y, Ext Y W2 W3 ∧ ∀ y ∈ Y, y ∈ X ∨ W.heap.size ≤ y) ∧ ∀ k ∈ X', k ∈ X ∨ W.heap.size ≤ k) E1 W2) (bindE ps.toList x E) W)
    (done : ∀ (D : Nat) pre X W', w.heap.size ≤ D → Rec W' D → D ∉ X → Fin pre → I pre X W' → Q .normal (D :: Ds) E W') :
    SxM P n Ds (.block id (.rangeFunc f ps as bd)) Q E w := by
  intro a ha hd
  refine wpIn_block (wpIn_rangeE ha hf hg I hI hB X0 h0 hS hSl hiter hps (fun t ht => ?_) round fun D pre X W' h1 h2 h3 h4 h5 => ?_)
  · have := List.all_eq_true.1 hpn t ht; simpa [Nat.blt_eq] using this
  · exact ⟨D :: Ds, E, ⟨ha.size, ha.val⟩, by show mark D :: a.defers = _; rw [hd]; rfl, done D pre X W' h1 h2 h3 h4 h5⟩

/-- What a body owes at its end, behind such loops. -/
def endL (fn : Func) (P : Program) (R : Ending → World → Prop) : PostM
  | .ret, Ds, E, w | .normal, Ds, E, w => Ds.Nodup ∧ (∀ D ∈ Ds, Rec w D) ∧ ∀ w', Ext Ds w w' → ∃ v, (∀ tmps : Array Value, (∀ t v, get E t = some v → tmps[t]? = some v) → (results fn tmps).run P w' = .ok v w') ∧ R (.returned v) w'
  | _, _, _, _ => False
theorem endL_ret {fn : Func} {R : Ending → World → Prop} {e : Exit} (he : e = .ret ∨ e = .normal) (vs : List Value) (hn : Ds.Nodup) (hD : ∀ D ∈ Ds, Rec w D) (hr : ∀ w', Ext Ds w w' → resOK P E w' fn.results.toList vs) (h : ∀ w', Ext Ds w w' → R (.returned (resV vs)) w') :
    endL fn P R e Ds E w := by
  rcases he with rfl | rfl <;> exact ⟨hn, hD, fun w' he => ⟨_, results_run (hr w' he), h w' he⟩⟩
theorem leavesL {fn : Func} {R : Ending → World → Prop} {tmps : Array Value} : ∀ (Ds : List Nat) (w : World), Ds.Nodup → (∀ D ∈ Ds, Rec w D) → (∀ w', Ext Ds w w' → ∃ v, (results fn tmps).run P w' = .ok v w' ∧ R (.returned v) w') → LeavesInM Fence.wide 0 P fn tmps R (Ds.map mark) .returning w
  | [], w, _, _, h => h w (Ext.refl _ _)
  | D :: Ds, w, hn, hD, h => by
    have hn' := List.nodup_cons.1 hn
    refine ⟨by simp, .inl ⟨D, _, rfl, run_takeDeferred (hD D List.mem_cons_self), ?_⟩⟩
    have he := putObj_ext w D (.deferred none)
    refine leavesL Ds _ hn'.2 (fun D' h' => (hD D' (List.mem_cons_of_mem _ h')).ext he (fun hm => hn'.1 (by rw [← List.mem_singleton.1 hm]; exact h'))) fun w' he' => h w' ?_
    exact (he.mono (fun k hk => by rw [List.mem_singleton.1 hk]; exact List.mem_cons_self)).trans (he'.mono (fun k hk => List.mem_cons_of_mem _ hk))
theorem endL_done {fn : Func} {R : Ending → World → Prop} : ∀ e a w, liftM fn.ntmps (endL fn P R) e a w → bodyPostM Fence.wide 0 P fn R e a w := by
  have key : ∀ (a : Act) (w : World), (∃ Ds E, Agr fn.ntmps E a ∧ a.defers = Ds.map mark ∧ endL fn P R .ret Ds E w) → LeavesInM Fence.wide 0 P fn a.tmps R a.defers .returning w := by
    rintro a w ⟨Ds, E, h1, h2, h3, h4, h5⟩
    rw [h2]
    exact leavesL Ds w h3 h4 fun w' he => by obtain ⟨v, h6, h7⟩ := h5 w' he; exact ⟨v, h6 _ h1.val, h7⟩
  intro e a w h
  obtain ⟨Ds, E, h1, h2, h3⟩ := h
  cases e with
  | normal => exact key a w ⟨Ds, E, h1, h2, h3⟩
  | ret => exact key a w ⟨Ds, E, h1, h2, h3⟩
  | _ => exact h3.elim
theorem calls_of_SxM {f : FuncId} {fn : Func} {c : Code} {args : List Value} {w : World} {R : Ending → World → Prop}
    (hf : P.funcs[f]? = some fn) (hb : fn.body = some c) (hn : Nat.ble args.length fn.ntmps = true) (h : SxM P fn.ntmps [] c (endL fn P R) (entryEnv 0 args) w) : Calls P f args.toArray w R :=
  calls_of_SxG hf hb hn fun a ha hd => wpIn_mono (h a ha hd) endL_done

end
end Go.Eng
