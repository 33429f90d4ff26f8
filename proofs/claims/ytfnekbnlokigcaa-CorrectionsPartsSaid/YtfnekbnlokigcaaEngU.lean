/- The engine, part eleven: maps. -/
import Derived.Test.YtfnekbnlokigcaaEngS
import Derived.Maps.RangeRun
set_option linter.unusedVariables false
set_option linter.unusedSimpArgs false
set_option linter.unusedSectionVars false
namespace Go.Eng
open Go

section
variable {P : Program} {n : Nat} {ds : List Deferred} {Q : PostE} {E : Env} {w : World} {o : Oper}
variable {κ β : Type} [DecidableEq κ]

/-! ## Entries as a list -/
def look : List (κ × β) → κ → Option (Nat × β)
  | [], _ => none
  | x :: l, k => if x.1 = k then some (0, x.2) else (look l k).map fun r => (r.1 + 1, r.2)
theorem look_none : ∀ {l : List (κ × β)} {k : κ}, look l k = none ↔ ∀ x ∈ l, x.1 ≠ k
  | [], k => by simp [look]
  | x :: l, k => by
    simp only [look]
    by_cases h : x.1 = k
    · simp [h]
    · simp [h, look_none (l := l)]
theorem look_some : ∀ {l : List (κ × β)} {k : κ} {r : Nat × β}, look l k = some r → ∃ h : r.1 < l.length, l[r.1] = (k, r.2)
  | [], k, r, h => by cases h
  | x :: l, k, r, h => by
    simp only [look] at h
    by_cases hx : x.1 = k
    · rw [if_pos hx] at h
      obtain rfl := Option.some.inj h
      exact ⟨by simp, by simp [← hx]⟩
    · rw [if_neg hx] at h
      obtain ⟨r', h1, rfl⟩ := Option.map_eq_some_iff.1 h
      obtain ⟨h2, h3⟩ := look_some h1
      exact ⟨by simpa using h2, by simpa using h3⟩
def putL (l : List (κ × β)) (k : κ) (v : β) : List (κ × β) := match look l k with
  | some r => l.set r.1 (k, v)
  | none => l ++ [(k, v)]

/-- What a map's key type gives. -/
structure KeyT (P : Program) (kt : TypeId) (kv : κ → Value) : Prop where
  check : ∀ e k w, (Instr.checkKey e 10000 kt (kv k)).run P w = .ok () w
  find : ∀ (k : κ) (es : List MapEntry) (ks : List κ) (w : World), es.map (·.key) = ks.map kv → (Instr.findKey kt (kv k) es).run P w = .ok ((look (ks.zip (es.map (·.val))) k)) w
  same : ∀ k, Instr.sameBits 10000 (kv k) (kv k) = true

theorem findAsking_run {kt : TypeId} {kv : κ → Value} (heq : ∀ a b w, (Op.equal kt (kv a) (kv b)).run P w = .ok (decide (a = b)) w) (k : κ) : ∀ (es : List MapEntry) (ks : List κ) (i : Nat) (w : World), es.map (·.key) = ks.map kv →
    (Instr.findAsking kt (kv k) es i).run P w = .ok ((look (ks.zip (es.map (·.val))) k).map fun r => (i + r.1, r.2)) w
  | [], ks, i, w, h => by simp [Instr.findAsking, look]
  | e :: es, [], i, w, h => by simp at h
  | e :: es, a :: ks, i, w, h => by
    simp only [List.map_cons, List.cons.injEq] at h
    have ih := findAsking_run heq k es ks (i + 1) w h.2
    by_cases hk : a = k
    · subst hk
      have h2 := heq a a w
      rw [decide_eq_true rfl] at h2
      simp [Instr.findAsking, h.1, Sem.run_bind, h2, look, Result.andThen]
    · have h2 := heq k a w
      rw [decide_eq_false (fun h => hk h.symm)] at h2
      simp only [Instr.findAsking, h.1, Sem.run_bind, h2, Result.andThen, Bool.false_eq_true, if_false, ih, List.map_cons, List.zip_cons_cons, look, if_neg hk, Option.map_map]
      congr 2
      funext r
      simp; omega

/-- Keys that are structs (or whatever is no plain type). -/
theorem KeyT.ofEq {kt : TypeId} {kv : κ → Value} {d : TypeDesc} (hd : P.underlying kt = some d) (hn : ∀ k v, Instr.sameNow d (kv k) v = none) (hc : ∀ e k w, (Instr.checkKey e 10000 kt (kv k)).run P w = .ok () w)
    (heq : ∀ a b w, (Op.equal kt (kv a) (kv b)).run P w = .ok (decide (a = b)) w) (hs : ∀ k, Instr.sameBits 10000 (kv k) (kv k) = true) : KeyT P kt kv := by
  refine ⟨hc, fun k es ks w h => ?_, hs⟩
  have h1 := findAsking_run heq k es ks 0 w h
  simp only [Nat.zero_add] at h1
  have h2 : ∀ l : Option (Nat × Value), l.map (fun r => (r.1, r.2)) = l := fun l => by cases l <;> rfl
  rw [h2] at h1
  cases es with
  | nil => cases ks with
    | nil => simp [Instr.findKey, run_underlying hd, Instr.findNow, look]
    | cons a ks => simp at h
  | cons e es => simp only [Instr.findKey, Sem.run_bind, run_underlying hd, Result.andThen, Instr.findNow, hn, h1]

/-- A map in memory: its entries as a list. -/
def MapL (kv : κ → Value) (ev : β → Value) (w : World) (b : Nat) (l : List (κ × β)) : Prop :=
  ∃ es clock, w.heap[b]? = some (.map es clock) ∧ es.toList.map (fun e => (e.key, e.val)) = l.map (fun x => (kv x.1, ev x.2)) ∧ (∀ e ∈ es.toList, e.born < clock) ∧ (es.toList.map (·.born)).Nodup

theorem MapL.ext {kv : κ → Value} {ev : β → Value} {w w' : World} {b : Nat} {l : List (κ × β)} {X : List Nat} (h : MapL kv ev w b l) (he : Ext X w w') (hX : b ∉ X) : MapL kv ev w' b l := by
  obtain ⟨es, clock, hb, h1, h2, h3⟩ := h
  exact ⟨es, clock, (he.keep b (Array.getElem?_eq_some_iff.1 hb).1 hX).trans hb, h1, h2, h3⟩
theorem MapL.ext0 {kv : κ → Value} {ev : β → Value} {w w' : World} {b : Nat} {l : List (κ × β)} (h : MapL kv ev w b l) (he : Ext [] w w') : MapL kv ev w' b l := h.ext he (by simp)
theorem MapL.lt {kv : κ → Value} {ev : β → Value} {w : World} {b : Nat} {l : List (κ × β)} (h : MapL kv ev w b l) : b < w.heap.size := by
  obtain ⟨es, clock, hb, _⟩ := h
  exact (Array.getElem?_eq_some_iff.1 hb).1

theorem fst_of_rel {kv : κ → Value} {ev : β → Value} {es : List MapEntry} {l : List (κ × β)} (h : es.map (fun e => (e.key, e.val)) = l.map (fun x => (kv x.1, ev x.2))) : es.map (·.key) = (l.map Prod.fst).map kv := by
  have := congrArg (List.map Prod.fst) h
  simpa [List.map_map, Function.comp_def] using this
theorem snd_of_rel {kv : κ → Value} {ev : β → Value} {es : List MapEntry} {l : List (κ × β)} (h : es.map (fun e => (e.key, e.val)) = l.map (fun x => (kv x.1, ev x.2))) : es.map (·.val) = (l.map Prod.snd).map ev := by
  have := congrArg (List.map Prod.snd) h
  simpa [List.map_map, Function.comp_def] using this
theorem look_zip (ev : β → Value) (k : κ) : ∀ l : List (κ × β), look ((l.map Prod.fst).zip ((l.map Prod.snd).map ev)) k = (look l k).map fun r => (r.1, ev r.2)
  | [] => rfl
  | x :: l => by
    simp only [List.map_cons, List.zip_cons_cons, look, look_zip ev k l]
    by_cases h : x.1 = k
    · simp [h]
    · simp [h, Function.comp_def]

/-- A key is looked for. -/
theorem KeyT.run {kt : TypeId} {kv : κ → Value} {ev : β → Value} (K : KeyT P kt kv) {es : List MapEntry} {l : List (κ × β)} (h : es.map (fun e => (e.key, e.val)) = l.map (fun x => (kv x.1, ev x.2))) (k : κ) (w : World) :
    (Instr.findKey kt (kv k) es).run P w = .ok ((look l k).map fun r => (r.1, ev r.2)) w := by
  rw [K.find k es _ w (fst_of_rel h), snd_of_rel h, look_zip]

/-- A new map. -/
theorem acts_makeMap {t : TypeId} (kv : κ → Value) (ev : β → Value) (ho : o.op = .makeMap t none) : Acts P n ds E o w (fun v w' => Ext [] w w' ∧ ∃ b, v = .map (some b) ∧ w.heap.size ≤ b ∧ MapL kv ev w' b []) Q := by
  intro a ha _
  refine .inl ⟨.map (some w.heap.size), w.alloc (.map #[] 0), ?_, Ext.push _ _ _, w.heap.size, rfl, Nat.le_refl _, #[], 0, ?_, rfl, by simp, by simp⟩
  · simp [execOp, ho, Instr.makeMap]
  · show (w.heap.push _)[w.heap.size]? = _; simp

theorem nodup_inj {α : Type} {l : List α} (h : l.Nodup) {i j : Nat} (hi : i < l.length) (hj : j < l.length) (he : l[i] = l[j]) : i = j := by
  have h2 := List.pairwise_iff_getElem.1 h
  rcases Nat.lt_trichotomy i j with h3 | h3 | h3
  · exact absurd he (h2 i j hi hj h3)
  · exact h3
  · exact absurd he.symm (h2 j i hj hi h3)
theorem filterMap_range {α : Type} (l : List α) : (List.range l.length).filterMap (fun j => l[j]?) = l := by
  have h : ∀ n, (List.range n).filterMap (fun j => l[j]?) = l.take n := fun n => by
    induction n with
    | zero => simp
    | succ n ih =>
      rw [List.range_succ, List.filterMap_append, ih, List.take_add_one]
      congr 1
  rw [h, List.take_length]
theorem setObj_ext (w : World) (r : Nat) (o : Obj) : Ext [r] w { w with heap := w.heap.setIfInBounds r o } :=
  ⟨rfl, rfl, rfl, by simp, fun k _ hk => by simp only [Array.getElem?_setIfInBounds]; rw [if_neg (fun e => hk (by simp [e]))], Nat.le_refl _⟩

/-- A store into a map. -/
theorem acts_mapUpdate {t kt et : TypeId} {kv : κ → Value} {ev : β → Value} {x y z : Operand} {b : Nat} {l : List (κ × β)} (k : κ) (v : β) (ho : o.op = .mapUpdate t x y z) (ht : P.underlying t = some (.map kt et)) (K : KeyT P kt kv)
    (hx : Go.Eng.ev E x = some (.map (some b))) (hy : Go.Eng.ev E y = some (kv k)) (hz : Go.Eng.ev E z = some (ev v)) (hM : MapL kv ev w b l) : Acts P n ds E o w (fun u w' => u = undef ∧ Ext [b] w w' ∧ MapL kv ev w' b (putL l k v)) Q := by
  intro a ha _
  obtain ⟨es, clock, hb, hrel, hlt, hnd⟩ := hM
  have hf := K.run hrel k w
  have hlt' : b < w.heap.size := (Array.getElem?_eq_some_iff.1 hb).1
  have hx' := ha.eval hx
  have hy' := ha.eval hy
  have hz' := ha.eval hz
  cases hl : look l k with
  | none =>
    rw [hl] at hf
    refine .inr (.inl ⟨{ w with heap := w.heap.setIfInBounds b (.map (es.push { key := kv k, val := ev v, born := clock }) (clock + 1)) }, ?_, rfl, setObj_ext _ _ _, es.push { key := kv k, val := ev v, born := clock }, clock + 1, ?_, ?_, ?_, ?_⟩)
    · simp [execOp, ho, hx', hy', hz', Instr.mapUpdate, run_underlying ht, MapKept.run_getObj_map hb, K.check, hf, MapKept.run_setObj_map _ hb, Result.andThen]
    · simp [hlt']
    · simp [putL, hl, hrel]
    · intro e he
      simp only [Array.toList_push, List.mem_append, List.mem_singleton] at he
      rcases he with he | rfl
      · have := hlt e he; omega
      · simp
    · simp only [Array.toList_push, List.map_append, List.map_cons, List.map_nil, List.nodup_append]
      refine ⟨hnd, by simp, fun x hx y hy => ?_⟩
      obtain ⟨e, he, rfl⟩ := List.mem_map.1 hx
      simp only [List.mem_singleton] at hy
      have := hlt e he
      omega
  | some r =>
    rw [hl] at hf
    obtain ⟨hr, hre⟩ := look_some hl
    have hlen : es.toList.length = l.length := by have := congrArg List.length hrel; simpa using this
    have hres : r.1 < es.size := by rw [Array.length_toList] at hlen; omega
    have hkey : es[r.1].key = kv k := by
      have := congrArg (fun x => (x[r.1]?).map Prod.fst) hrel
      simpa [hr, hres, hre] using this
    have hst : (Instr.keyThatStays (((es[r.1]?).map (·.key)).getD (kv k)) (kv k)).run P w = .ok (kv k) w := by
      rw [Array.getElem?_eq_getElem hres]
      simp [hkey, Instr.keyThatStays, K.same]
    refine .inr (.inl ⟨{ w with heap := w.heap.setIfInBounds b (.map (es.modify r.1 fun e => { e with key := kv k, val := ev v }) clock) }, ?_, rfl, setObj_ext _ _ _, es.modify r.1 fun e => { e with key := kv k, val := ev v }, clock, ?_, ?_, ?_, ?_⟩)
    · simp only [execOp, ho, hx', hy', hz', Instr.mapUpdate, Sem.run_bind, run_underlying ht, MapKept.run_getObj_map hb, K.check, hf, Result.andThen, Option.map_some, hst, MapKept.run_setObj_map _ hb]
      rfl
    · simp [hlt']
    · simp only [putL, hl]
      apply List.ext_getElem
      · simp [hlen]
      · intro j h1 h2
        simp only [List.length_map, Array.length_toList, Array.size_modify] at h1
        have h3 : j < l.length := by rw [← hlen]; simpa using h1
        have h4 := congrArg (fun x => x[j]?) hrel
        simp only [List.getElem?_map, Array.getElem?_toList, Array.getElem?_eq_getElem h1, List.getElem?_eq_getElem h3, Option.map_some, Option.some.injEq] at h4
        simp only [List.getElem_map, Array.getElem_toList, Array.getElem_modify, List.getElem_set]
        by_cases hj : r.1 = j
        · simp [hj]
        · simp [hj, h4]
    · intro e he
      obtain ⟨j, hj, rfl⟩ := List.getElem_of_mem he
      simp only [Array.length_toList, Array.size_modify] at hj
      simp only [Array.getElem_toList, Array.getElem_modify]
      have := hlt es[j] (by simp)
      split <;> simpa using this
    · have : (es.modify r.1 fun e => { e with key := kv k, val := ev v }).toList.map (·.born) = es.toList.map (·.born) := by
        apply List.ext_getElem
        · simp
        · intro j h1 h2
          simp only [List.getElem_map, Array.getElem_toList, Array.getElem_modify]
          split <;> rfl
      rw [this]; exact hnd

/-! ## A range over a map -/

/-- A range over the map in b, with the iterator in r: done has come. -/
def MapIt (kv : κ → Value) (ev : β → Value) (w : World) (b r : Nat) (l done : List (κ × β)) : Prop :=
  ∃ es clock since seen c0, w.heap[b]? = some (.map es clock) ∧ es.toList.map (fun e => (e.key, e.val)) = l.map (fun x => (kv x.1, ev x.2)) ∧ (∀ e ∈ es.toList, e.born < clock) ∧ (es.toList.map (·.born)).Nodup ∧
    w.heap[r]? = some (.mapIter (some b) since seen c0) ∧ (∀ e ∈ es.toList, e.born < since) ∧ since ≤ c0 ∧ since ≤ clock ∧ (done ≠ [] → c0 = clock) ∧
    ∃ js : List Nat, js.Nodup ∧ (∀ j ∈ js, j < l.length) ∧ seen.toList = js.filterMap (fun j => es[j]?.map (·.born)) ∧ done = js.filterMap (fun j => l[j]?)

theorem MapIt.ext {kv : κ → Value} {ev : β → Value} {w w' : World} {b r : Nat} {l done : List (κ × β)} {X : List Nat} (h : MapIt kv ev w b r l done) (he : Ext X w w') (hb : b ∉ X) (hr : r ∉ X) : MapIt kv ev w' b r l done := by
  obtain ⟨es, clock, since, seen, c0, h1, h2, h3, h4, h5, h6⟩ := h
  exact ⟨es, clock, since, seen, c0, (he.keep b (Array.getElem?_eq_some_iff.1 h1).1 hb).trans h1, h2, h3, h4, (he.keep r (Array.getElem?_eq_some_iff.1 h5).1 hr).trans h5, h6⟩
theorem MapIt.lt {kv : κ → Value} {ev : β → Value} {w : World} {b r : Nat} {l done : List (κ × β)} (h : MapIt kv ev w b r l done) : r < w.heap.size := by
  obtain ⟨es, clock, since, seen, c0, h1, h2, h3, h4, h5, h6⟩ := h
  exact (Array.getElem?_eq_some_iff.1 h5).1
theorem MapIt.owns {kv : κ → Value} {ev : β → Value} {w : World} {b r : Nat} {l done : List (κ × β)} (h : MapIt kv ev w b r l done) : MapL kv ev w b l := by
  obtain ⟨es, clock, since, seen, c0, h1, h2, h3, h4, _⟩ := h
  exact ⟨es, clock, h1, h2, h3, h4⟩

theorem acts_rangeMap {t kt et : TypeId} {kv : κ → Value} {ev : β → Value} {x : Operand} {b : Nat} {l : List (κ × β)} (ho : o.op = .range t x) (ht : P.underlying t = some (.map kt et))
    (hx : Go.Eng.ev E x = some (.map (some b))) (hM : MapL kv ev w b l) : Acts P n ds E o w (fun v w' => Ext [] w w' ∧ ∃ r, v = .pointer (some ⟨r, 0, none⟩) ∧ w.heap.size ≤ r ∧ MapIt kv ev w' b r l []) Q := by
  intro a ha _
  have hlt := hM.lt
  obtain ⟨es, clock, hb, hrel, hlt2, hnd⟩ := hM
  have hx' := ha.eval hx
  refine .inl ⟨_, w.alloc (.mapIter (some b) clock #[] clock), ?_, Ext.push _ _ _, w.heap.size, rfl, Nat.le_refl _, es, clock, clock, #[], clock, ?_, hrel, hlt2, hnd, ?_, hlt2, Nat.le_refl _, Nat.le_refl _, fun h => absurd rfl h, [], by simp, by simp, by simp, by simp⟩
  · have := run_range_map w t kt et b es clock ht hb
    simp [execOp, ho, hx', this]
  · show (w.heap.push _)[b]? = _; rw [Array.getElem?_push, if_neg (by omega)]; exact hb
  · show (w.heap.push _)[w.heap.size]? = _; simp

theorem acts_nextMap {x : Operand} {kv : κ → Value} {ev : β → Value} {b r : Nat} {l done : List (κ × β)} (ho : o.op = .next x false) (hx : Go.Eng.ev E x = some (.pointer (some ⟨r, 0, none⟩))) (hM : MapIt kv ev w b r l done) (hl : l.Nodup) :
    Acts P n ds E o w (fun v w' => (v = .tuple #[.bool false] ∧ w' = w ∧ done.Perm l) ∨ ∃ y ∈ l, y ∉ done ∧ v = .tuple #[.bool true, kv y.1, ev y.2] ∧ Ext [r] w w' ∧ MapIt kv ev w' b r l (done ++ [y])) Q := by
  intro a ha _
  obtain ⟨es, clock, since, seen, c0, hb, hrel, hlt2, hnd, hr, hold, hsc, hsk, hck, js, hjn, hjl, hseen, hdone⟩ := hM
  have hx' := ha.eval hx
  have hlen : es.size = l.length := by have := congrArg List.length hrel; simpa using this
  have hrlt := (Array.getElem?_eq_some_iff.1 hr).1
  have hat : ∀ j (h : j < l.length), (es[j]'(by omega)).key = kv l[j].1 ∧ (es[j]'(by omega)).val = ev l[j].2 := fun j h => by
    have h1 : j < es.size := by omega
    have := congrArg (fun x => x[j]?) hrel
    simp only [List.getElem?_map, Array.getElem?_toList, Array.getElem?_eq_getElem h1, List.getElem?_eq_getElem h, Option.map_some, Option.some.injEq, Prod.mk.injEq] at this
    exact this
  have hseenm : ∀ j (h : j < es.size), es[j].born ∈ seen ↔ j ∈ js := fun j h => by
    rw [← Array.mem_toList_iff, hseen, List.mem_filterMap]
    constructor
    · rintro ⟨i, hi, he⟩
      have hil : i < es.size := by have := hjl i hi; omega
      rw [Array.getElem?_eq_getElem hil, Option.map_some, Option.some.injEq] at he
      have := nodup_inj hnd (i := i) (j := j) (by simpa using hil) (by simpa using h) (by simpa using he)
      rw [← this]; exact hi
    · intro hj
      exact ⟨j, hj, by simp [h]⟩
  rcases run_next_at (P := P) w o.type r b since c0 seen es clock hr hb hold hsc with ⟨h0, hrun⟩ | ⟨e, he, w1, hw1, hrun⟩
  · refine .inl ⟨_, w, ?_, .inl ⟨rfl, rfl, ?_⟩⟩
    · simp [execOp, ho, hx', hrun]
    · have hall : ∀ j, j < l.length → j ∈ js := fun j hj => by
        have h1 : j < es.size := by omega
        refine (hseenm j h1).1 ?_
        have := Array.eq_empty_of_size_eq_zero h0
        unfold leftOf at this
        rw [Array.filter_eq_empty_iff] at this
        simpa using this es[j] (by simp)
      have hjp : js.Perm (List.range l.length) := (List.perm_ext_iff_of_nodup hjn List.nodup_range).2 fun j => by
        rw [List.mem_range]; exact ⟨hjl j, hall j⟩
      rw [hdone]
      exact (hjp.filterMap _).trans (.of_eq (filterMap_range l))
  · have hmem : e ∈ es.toList ∧ e.born ∉ seen := by unfold leftOf at he; simpa using he
    obtain ⟨j, hj, rfl⟩ := List.getElem_of_mem hmem.1
    have hj1 : j < es.size := by simpa using hj
    have hj2 : j < l.length := by omega
    simp only [Array.getElem_toList] at hmem hrun
    have hjs : j ∉ js := fun h => hmem.2 ((hseenm j hj1).2 h)
    have hexw : Ext [] w w1 := by
      rcases hw1 with rfl | rfl
      · exact Ext.refl _ _
      · exact Ext.draw _ _
    have hr1 : r < w1.heap.size := Nat.lt_of_lt_of_le hrlt hexw.size
    have hb1 : w1.heap[b]? = some (.map es clock) := (hexw.keep b (Array.getElem?_eq_some_iff.1 hb).1 (by simp)).trans hb
    have hbr : r ≠ b := fun h => by rw [h, hb] at hr; cases hr
    have hdl : l[j] ∉ done := fun h => by
      rw [hdone, List.mem_filterMap] at h
      obtain ⟨i, hi, he⟩ := h
      have hil := hjl i hi
      rw [List.getElem?_eq_getElem hil, Option.some.injEq] at he
      exact hjs (nodup_inj hl hil hj2 he ▸ hi)
    refine .inl ⟨.tuple #[.bool true, es[j].key, es[j].val], ChangeMaps.setBlock w1 r (.mapIter (some b) since (seen.push es[j].born) clock), ?_, .inr ⟨l[j], List.getElem_mem hj2, hdl, ?_, (hexw.up).trans (setObj_ext w1 r _), es, clock, since, seen.push es[j].born, clock, ?_, hrel, hlt2, hnd, ?_, hold, hsk, hsk, fun _ => rfl, js ++ [j], ?_, ?_, ?_, ?_⟩⟩
    · simp only [execOp, ho, hx', Sem.run_bind, hrun, Result.andThen]; rfl
    · rw [(hat j hj2).1, (hat j hj2).2]
    · show (w1.heap.setIfInBounds r _)[b]? = _
      rw [Array.getElem?_setIfInBounds, if_neg hbr]; exact hb1
    · show (w1.heap.setIfInBounds r _)[r]? = _
      rw [Array.getElem?_setIfInBounds, if_pos rfl, if_pos hr1]
    · rw [List.nodup_append]
      exact ⟨hjn, by simp, fun a ha b hb => by simp only [List.mem_singleton] at hb; rintro rfl; exact hjs (hb ▸ ha)⟩
    · intro i hi
      rcases List.mem_append.1 hi with h | h
      · exact hjl i h
      · rw [List.mem_singleton.1 h]; exact hj2
    · simp [hseen, hj1]
    · simp [hdone, hj2]

theorem acts_entryMap {x : Operand} {kv : κ → Value} {ev : β → Value} {b r : Nat} {l done : List (κ × β)} {y : κ × β} (ho : o.op = .entry x) (hx : Go.Eng.ev E x = some (.pointer (some ⟨r, 0, none⟩))) (hM : MapIt kv ev w b r l (done ++ [y])) :
    Acts P n ds E o w (fun v w' => v = .tuple #[kv y.1, ev y.2] ∧ w' = w) Q := by
  intro a ha _
  obtain ⟨es, clock, since, seen, c0, hb, hrel, hlt2, hnd, hr, hold, hsc, hck, hcc, js, hjn, hjl, hseen, hdone⟩ := hM
  have hx' := ha.eval hx
  have hlen : es.size = l.length := by have := congrArg List.length hrel; simpa using this
  have hmp : ∀ is : List Nat, (∀ j ∈ is, j < l.length) → (is.filterMap fun j => l[j]?).length = is.length := fun is => by
    induction is with
    | nil => intro _; rfl
    | cons j is ih => intro h; simp [List.getElem?_eq_getElem (h j (by simp)), ih fun i hi => h i (by simp [hi])]
  obtain ⟨is, j, rfl⟩ : ∃ is j, js = is ++ [j] := by
    rcases List.eq_nil_or_concat js with rfl | ⟨is, j, rfl⟩
    · simp at hdone
    · exact ⟨is, j, by simp⟩
  have hj2 := hjl j (by simp)
  have hj1 : j < es.size := by omega
  have hy : y = l[j] := by
    simp only [List.filterMap_append, List.filterMap_cons, List.filterMap_nil, List.getElem?_eq_getElem hj2] at hdone
    have := congrArg List.getLast? hdone
    simpa using this
  have hs : seen = (seen.pop).push es[j].born := by
    simp only [List.filterMap_append, List.filterMap_cons, List.filterMap_nil, Array.getElem?_eq_getElem hj1, Option.map_some] at hseen
    apply Array.toList_inj.1
    rw [Array.toList_push, Array.toList_pop, hseen]
    simp
  have hkv : es[j].key = kv l[j].1 ∧ es[j].val = ev l[j].2 := by
    have := congrArg (fun x => x[j]?) hrel
    simpa [hj1, hj2] using this
  have hc := hcc (by simp)
  subst hc
  rw [hs] at hr
  have hrun := run_entry_at (P := P) w r b since seen.pop es c0 es[j] hr hb (by simp) hnd
  refine .inl ⟨.tuple #[es[j].key, es[j].val], w, ?_, ?_, rfl⟩
  · simp only [execOp, ho, hx', Sem.run_bind, hrun, Result.andThen]; rfl
  · rw [hkv.1, hkv.2, hy]

theorem nodup_len : ∀ (n : Nat) (js : List Nat), js.Nodup → (∀ j ∈ js, j < n) → js.length ≤ n
  | 0, js, _, h => by
    cases js with
    | nil => simp
    | cons j js => exact absurd (h j (by simp)) (by omega)
  | n + 1, js, hn, h => by
    by_cases hm : n ∈ js
    · have h1 := nodup_len n (js.erase n) (hn.erase n) (fun j hj => by
        have h2 := h j (List.mem_of_mem_erase hj)
        have h3 : j ≠ n := fun e => by subst e; exact (List.Nodup.not_mem_erase hn) hj
        omega)
      have := List.length_erase_of_mem hm
      omega
    · have := nodup_len n js hn (fun j hj => by
        have h2 := h j hj
        have h3 : j ≠ n := fun e => hm (e ▸ hj)
        omega)
      omega
theorem MapIt.le {kv : κ → Value} {ev : β → Value} {w : World} {b r : Nat} {l done : List (κ × β)} (h : MapIt kv ev w b r l done) : done.length ≤ l.length := by
  obtain ⟨es, clock, since, seen, c0, hb, hrel, hlt2, hnd, hr, hold, hsc, hck, hcc, js, hjn, hjl, hseen, hdone⟩ := h
  have hmp : ∀ is : List Nat, (∀ j ∈ is, j < l.length) → (is.filterMap fun j => l[j]?).length = is.length := fun is => by
    induction is with
    | nil => intro _; rfl
    | cons j is ih => intro h; simp [List.getElem?_eq_getElem (h j (by simp)), ih fun i hi => h i (by simp [hi])]
  rw [hdone, hmp js hjl]
  exact nodup_len _ _ hjn hjl
/-- Nothing is left. -/
theorem acts_nextMap_done {x : Operand} {kv : κ → Value} {ev : β → Value} {b r : Nat} {l done : List (κ × β)} (ho : o.op = .next x false) (hx : Go.Eng.ev E x = some (.pointer (some ⟨r, 0, none⟩))) (hM : MapIt kv ev w b r l done) (hl : l.Nodup) (hd : l.length ≤ done.length) :
    Acts P n ds E o w (fun v w' => v = .tuple #[.bool false] ∧ w' = w ∧ done.Perm l) Q :=
  (acts_nextMap ho hx hM hl).mono fun v w' h => by
    rcases h with h | ⟨y, _, _, _, _, h⟩
    · exact h
    · have := h.le; simp at this; omega
/-- One more comes. -/
theorem acts_nextMap_more {x : Operand} {kv : κ → Value} {ev : β → Value} {b r : Nat} {l done : List (κ × β)} (ho : o.op = .next x false) (hx : Go.Eng.ev E x = some (.pointer (some ⟨r, 0, none⟩))) (hM : MapIt kv ev w b r l done) (hl : l.Nodup) (hd : done.length < l.length) :
    Acts P n ds E o w (fun v w' => ∃ y ∈ l, y ∉ done ∧ v = .tuple #[.bool true, kv y.1, ev y.2] ∧ Ext [r] w w' ∧ MapIt kv ev w' b r l (done ++ [y])) Q :=
  (acts_nextMap ho hx hM hl).mono fun v w' h => by
    rcases h with ⟨_, _, h⟩ | h
    · have := h.length_eq; omega
    · exact h

/-- A struct's fields may be keys if each may. -/
theorem run_checkStruct {t : TypeId} {fs : Array Field} {cs : Array Value} {m : Nat} (e : Bool) (ht : P.underlying t = some (.struct fs)) (w : World)
    (h : ∀ f ∈ fs.toList, ∃ v, (part f.type cs f.offset).run P w = .ok v w ∧ (Instr.checkKey e m f.type v).run P w = .ok () w) : (Instr.checkKey e (m + 1) t (.agg cs)).run P w = .ok () w := by
  rw [Instr.checkKey]
  simp only [Sem.run_bind, run_underlying ht, Result.andThen_ok]
  rw [← Array.forIn_toList]
  generalize fs.toList = L at h
  induction L with
  | nil => simp
  | cons f L ih =>
    obtain ⟨v, h1, h2⟩ := h f (by simp)
    by_cases hn : f.name = "_"
    · simp only [List.forIn_cons, Sem.run_bind, hn, ne_eq, not_true_eq_false, if_false, Result.andThen_ok, Sem.run_pure]
      exact ih (fun y hy => h y (by simp [hy]))
    · simp only [List.forIn_cons, Sem.run_bind, hn, ne_eq, not_false_eq_true, if_true, Result.andThen_ok, h1, h2, Sem.run_pure]
      exact ih (fun y hy => h y (by simp [hy]))

end

/-! ## Scopes (functions that hold labels, no goto) -/
def scopeE (Q : PostE) : PostE
  | .goto _, _, _ => False
  | .normal, E, w => Q .normal E w
  | .exit j, E, w => Q (.exit j) E w
  | .ret, E, w => Q .ret E w
  | .panic c, E, w => Q (.panic c) E w
  | .outgrown, E, w => Q .outgrown E w
section
variable {F : Fence} {n : Nat} {P : Program} {Q : PostE} {E : Env} {w : World} {ds : List Deferred} {ro : Option Nat}
theorem scopeE_normal (h : Q .normal E w) : scopeE Q .normal E w := h
theorem scopeE_exit {j : Nat} (h : Q (.exit j) E w) : scopeE Q (.exit j) E w := h
theorem scopeE_ret (h : Q .ret E w) : scopeE Q .ret E w := h
theorem scopeE_panic {c : List PanicEntry} (h : Q (.panic c) E w) : scopeE Q (.panic c) E w := h
theorem stepR_scope {b : Frame} {a : Act} {k : List Item} {cs : List Frame} {c : Code} : step P (lone (b.atR a (.code (.scope c) :: k)) cs w) = .next (lone (b.atR a (.code c :: .inScope c :: k)) cs w) :=
  step_lone_go (by simp [stepG, stepG.exec, Frame.atR])
theorem stepR_inScope {b : Frame} {a : Act} {k : List Item} {cs : List Frame} {c : Code} : step P (lone (b.atR a (.inScope c :: k)) cs w) = .next (lone (b.atR a k) cs w) :=
  step_lone_go (by simp [stepG, stepG.exec, Frame.atR])
theorem wpIn_scope {R R' : Exit → Act → World → Prop} {a : Act} {c : Code} (h : c.wpIn F n P R' a w) (hR : ∀ e a w, R' e a w → R e a w ∧ ∀ l, e ≠ .goto l) : (Code.scope c).wpIn F n P R a w := by
  intro b k cs hro hb hr
  have h0 : (lone (b.atR a (.code (.scope c) :: k)) cs w).fenced P F := fenced_calm hb hr rfl
  obtain ⟨e, a₁, w₁, hq, harr⟩ := h b (.inScope c :: k) cs hro hb hr
  obtain ⟨hq, hng⟩ := hR _ _ _ hq
  cases e with
  | normal => exact ⟨.normal, a₁, w₁, hq, .head h0 stepR_scope (StepsIn.trans harr (.one (fenced_calm hb hr rfl) stepR_inScope))⟩
  | exit id =>
    have hx : exitTo id (.inScope c :: k) = exitTo id k := by simp [exitTo]
    exact ⟨.exit id, a₁, w₁, hq, fun k' hk => .head h0 stepR_scope (harr.1 k' (by rw [hx]; exact hk)),
      fun hr' hk => let ⟨k₁, h1, h2⟩ := harr.2 hr' (by rw [hx]; exact hk); ⟨k₁, h1, .head h0 stepR_scope h2⟩⟩
  | goto l => exact absurd rfl (hng l)
  | ret => exact ⟨_, a₁, w₁, hq, .of_steps (.one h0 stepR_scope) harr⟩
  | panic ch => exact ⟨_, a₁, w₁, hq, .of_steps (.one h0 stepR_scope) harr⟩
  | outgrown => exact ⟨_, a₁, w₁, hq, .of_steps (.one h0 stepR_scope) harr⟩
theorem Sx.scope {c : Code} (h : Sx ro P n ds c (scopeE Q) E w) : Sx ro P n ds (.scope c) Q E w := fun a ha hd =>
  wpIn_scope (h a ha hd) fun e a w h => by
    obtain ⟨E', h1, h2, h3⟩ := h
    cases e with
    | goto l => exact h3.elim
    | _ => exact ⟨⟨E', h1, h2, h3⟩, fun l h => by cases h⟩
end

section
variable {P : Program} {n : Nat} {ds : List Deferred} {ops : List Oper} {Q : PostE} {dets done : List Nat} {m : Nat} {pend : Pend} {E : Env} {w : World}
/-- Three acts may come up. -/
theorem Wx.fork3 {i j k : Nat} (hr : (Region.ready .any ops.toArray (listedOf ops done) == [i, j, k]) = true) (hi : Br P n ds ops Q dets done m pend E w i) (hj : Br P n ds ops Q dets done m pend E w j) (hl : Br P n ds ops Q dets done m pend E w k) :
    Wx P n ds ops Q dets done [] (m + 1) pend E w := by
  intro hs _ hc hp a ha hds
  have hr := eq_of_beq hr
  refine ⟨fun h0 => (by rw [h0] at hr; cases hr), fun x hk => ?_⟩
  have hk' := hk
  rw [hr] at hk'
  simp only [List.mem_cons, List.not_mem_nil, or_false] at hk'
  rcases hk' with rfl | rfl | rfl
  · have := hi hs hc hk hp a ha hds
    simpa using this
  · have := hj hs hc hk hp a ha hds
    simpa using this
  · have := hl hs hc hk hp a ha hds
    simpa using this
end
end Go.Eng
