/- The engine, part five: memory. Cells at an address; rows of the call's own; what allocates, loads, stores, appends, copies, calls. -/
import Derived.Test.YtfnekbnlokigcaaEngO
import Derived.Deep.AppendSrc
import Derived.Laws.CopyOwn
import Derived.Laws.IdiomStrings
import Derived.Laws.MakeOwn
import Derived.Laws.BytesString
import Derived.KernelRfl
set_option linter.unusedVariables false
set_option linter.unusedSimpArgs false
namespace Go.Eng
open Go

/-- The cells from A on. -/
def Cells (w : World) (A : Addr) (cs : List Value) : Prop := ∀ i v, cs[i]? = some v → w.cell? (A.add i) = some v

section
variable {P : Program} {n : Nat} {ds : List Deferred} {ops : List Oper} {Q : PostE} {E : Env} {w w' : World} {o : Oper} {l : List Oper} {A : Addr} {cs : List Value} {X : List Nat}

theorem addr_lit (b i : Nat) : (⟨b, 0, none⟩ : Addr).add i = ⟨b, i, none⟩ := by
  unfold Addr.add
  split
  · rename_i h; rw [h]
  · simp

theorem Cells.ext (h : Cells w A cs) (he : Ext X w w') (hx : A.block ∉ X) : Cells w' A cs := fun i v hi => he.cell (h i v hi) (by rw [addr_block]; exact hx)
theorem Cells.take (h : Cells w A cs) (k : Nat) : Cells w A (cs.take k) := fun i v hi => by
  rw [List.getElem?_take] at hi
  split at hi
  · exact h i v hi
  · cases hi
theorem Cells.ext0 (h : Cells w A cs) (he : Ext [] w w') : Cells w' A cs := h.ext he (by simp)
theorem Cells.part (h : Cells w A cs) {off m : Nat} {cs' : List Value} (hc : (cs.drop off).take m = cs') : Cells w (A.add off) cs' := fun i v hi => by
  rw [addr_add_add]
  refine h (off + i) v ?_
  rw [← hc, List.getElem?_take] at hi
  split at hi
  · rw [List.getElem?_drop] at hi; exact hi
  · cases hi
theorem Cells.drop (h : Cells w A cs) (k : Nat) : Cells w (A.add k) (cs.drop k) := h.part (off := k) (m := (cs.drop k).length) (by rw [List.take_length])
theorem addr_add0 (A : Addr) : A.add 0 = A := by simp [Addr.add]
theorem cells_nil (w : World) (A : Addr) : Cells w A [] := fun i v hi => by simp at hi
theorem Cells.lt (h : Cells w A cs) (hne : cs ≠ []) : A.block < w.heap.size := by
  cases cs with
  | nil => exact absurd rfl hne
  | cons v r =>
    have := h 0 v rfl
    exact World.block_lt_of_cell? w A (by simpa [Addr.add] using this)

/-! ### Loads -/

theorem ld_cell {t : TypeId} {v : Value} (ht : aggOf P t = some false) (hc : w.cell? A = some v) : Ld P w t A v := by
  simp [Ld, loadVar, run_agg ht, hc]
theorem ld_agg {t : TypeId} (ht : aggOf P t = some true) (hm : szOf P t = some cs.length) (hc : Cells w A cs) : Ld P w t A (.agg cs.toArray) := by
  have := run_loadCells_list (P := P) w A cs (fun j v hj => hc j v hj)
  simp [Ld, loadVar, run_agg ht, run_szOf hm, this]

theorem Cells.ld {t : TypeId} {v : Value} (h : Cells w A cs) (off : Nat) (ht : aggOf P t = some false) (hi : cs[off]? = some v) : Ld P w t (A.add off) v := ld_cell ht (h off v hi)
theorem Cells.ld0 {t : TypeId} {v : Value} (h : Cells w A cs) (ht : aggOf P t = some false) (hi : cs[0]? = some v) : Ld P w t A v := ld_cell ht (by simpa [Addr.add] using h 0 v hi)
theorem Cells.ldA {t : TypeId} (h : Cells w A cs) (ht : aggOf P t = some true) (hm : szOf P t = some cs.length) : Ld P w t A (.agg cs.toArray) := ld_agg ht hm h
theorem Cells.ldL {t m : TypeId} (h : Cells w A cs) (ht : aggOf P t = some true) (hm : szOf P t = some m) (hl : cs.length = m) : Ld P w t A (.agg cs.toArray) := ld_agg ht (hl ▸ hm) h
theorem Cells.ldP {t m : TypeId} {cs' : List Value} (h : Cells w A cs) (off : Nat) (ht : aggOf P t = some true) (hm : szOf P t = some m) (hc : (cs.drop off).take m = cs') (hl : cs'.length = m) : Ld P w t (A.add off) (.agg cs'.toArray) :=
  ld_agg ht (by rw [hm, hl]) (h.part hc)

theorem Cells.l1 {u : World} {t : TypeId} {v : Value} (h : Cells w A cs) (he : Ext [] w u) (off : Nat) (ht : aggOf P t = some false) (hi : cs[off]? = some v) : Ld P u t (A.add off) v := (h.ext0 he).ld off ht hi
theorem Cells.l0 {u : World} {t : TypeId} {v : Value} (h : Cells w A cs) (he : Ext [] w u) (ht : aggOf P t = some false) (hi : cs[0]? = some v) : Ld P u t A v := (h.ext0 he).ld0 ht hi
theorem Cells.lA {u : World} {t : TypeId} (h : Cells w A cs) (he : Ext [] w u) (ht : aggOf P t = some true) (hm : szOf P t = some cs.length) : Ld P u t A (.agg cs.toArray) := (h.ext0 he).ldA ht hm
theorem Cells.lL {u : World} {t m : TypeId} (h : Cells w A cs) (he : Ext [] w u) (ht : aggOf P t = some true) (hm : szOf P t = some m) (hl : cs.length = m) : Ld P u t A (.agg cs.toArray) := (h.ext0 he).ldL ht hm hl
theorem Cells.lP {u : World} {t m : TypeId} {cs' : List Value} (h : Cells w A cs) (he : Ext [] w u) (off : Nat) (ht : aggOf P t = some true) (hm : szOf P t = some m) (hc : (cs.drop off).take m = cs') (hl : cs'.length = m) : Ld P u t (A.add off) (.agg cs'.toArray) := (h.ext0 he).ldP off ht hm hc hl

theorem rv_load {t : TypeId} {x : Operand} {v : Value} (ho : o.op = .load t x) (hx : ev E x = some (.pointer (some A))) (h : ∀ u, Ext X w u → Ld P u t A v) : RunV P n E o X w v := by
  intro a u hu ha
  have := h u hu
  unfold Ld at this
  simp [execOp, ho, ha.eval hx, Instr.loadAt, Instr.sureAddr, this]

/-! ### New memory -/

/-- A block is known whole. -/
def Blk (w : World) (b : Nat) (t : TypeId) (cs : List Value) : Prop := w.heap[b]? = some (.cells cs.toArray t (0, 0))

theorem Blk.cells {b : Nat} {t : TypeId} (h : Blk w b t cs) : Cells w ⟨b, 0, none⟩ cs := fun i v hi => by
  have hadd : (⟨b, 0, none⟩ : Addr).add i = ⟨b, i, none⟩ := by unfold Addr.add; split <;> simp_all
  rw [hadd]
  unfold Blk at h
  simp [World.cell?, h, hi]
theorem Blk.ext {b : Nat} {t : TypeId} (h : Blk w b t cs) (he : Ext X w w') (hx : b ∉ X) : Blk w' b t cs := by
  unfold Blk at *
  have hlt : b < w.heap.size := by
    rcases Nat.lt_or_ge b w.heap.size with h1 | h1
    · exact h1
    · rw [Array.getElem?_eq_none h1] at h; cases h
  rw [he.keep b hlt hx]; exact h
theorem Blk.lt {b : Nat} {t : TypeId} (h : Blk w b t cs) : b < w.heap.size := by
  rcases Nat.lt_or_ge b w.heap.size with h1 | h1
  · exact h1
  · unfold Blk at h; rw [Array.getElem?_eq_none h1] at h; cases h
theorem Blk.push (w : World) (t : TypeId) (cs : List Value) : Blk { w with heap := w.heap.push (.cells cs.toArray t) } w.heap.size t cs := by simp [Blk]

/-- A new block, and where it lies. -/
abbrev NewBlk (w : World) (t : TypeId) (cs : List Value) : Value → World → Prop := fun v w' => Ext [] w w' ∧ ∃ b, v = .pointer (some ⟨b, 0, none⟩) ∧ w.heap.size ≤ b ∧ Blk w' b t cs

theorem acts_box {t : TypeId} {x : Operand} {v : Value} (ho : o.op = .box t x) (hx : ev E x = some v) : Acts P n ds E o w (NewBlk w t v.cells.toList) Q := by
  intro a ha _
  refine .inl ⟨_, { w with heap := w.heap.push (.cells v.cells t) }, ?_, Ext.push _ _ _, w.heap.size, rfl, Nat.le_refl _, ?_⟩
  · simp [execOp, ho, ha.eval hx, Instr.box, newVar, newRow]
  · have := Blk.push w t v.cells.toList
    simpa using this
theorem acts_alloc {t : TypeId} {z : Value} (ho : o.op = .alloc t) (hz : zrOf P t = some z) : Acts P n ds E o w (NewBlk w t z.cells.toList) Q := by
  intro a ha _
  refine .inl ⟨_, { w with heap := w.heap.push (.cells z.cells t) }, ?_, Ext.push _ _ _, w.heap.size, rfl, Nat.le_refl _, ?_⟩
  · simp [execOp, ho, Instr.alloc, run_zero hz, newVar, newRow]
  · have := Blk.push w t z.cells.toList
    simpa using this

/-! ### Stores into a block that is known whole -/

/-- cs with the cells from off on written over. -/
def over (cs : List Value) (off : Nat) (news : List Value) : List Value := cs.take off ++ news ++ cs.drop (off + news.length)

theorem over_length {off : Nat} {news : List Value} (h : off + news.length ≤ cs.length) : (over cs off news).length = cs.length := by simp [over]; omega

theorem setRow_ext (w : World) (b : Nat) (c : Array Value) (hX : b ∈ X) : Ext X w (w.setRow b c) :=
  ⟨rfl, rfl, rfl, by simp, fun k _ hk => setRow_other w b k _ (fun e => hk (e ▸ hX)), Nat.le_refl _⟩

theorem acts_store {t : TypeId} {x y : Operand} {v : Value} {b off : Nat} {bt : TypeId} (ho : o.op = .store t x y) (hx : ev E x = some (.pointer (some A))) (hA : A = (⟨b, 0, none⟩ : Addr).add off) (hy : ev E y = some v)
    (hm : szOf P t = some v.cells.size) (hB : Blk w b bt cs) (hfit : off + v.cells.size ≤ cs.length) (h1 : ∀ u ∈ v.cells.toList, u.oneCell' = true) :
    Acts P n ds E o w (fun u w' => u = undef ∧ Ext [b] w w' ∧ Blk w' b bt (over cs off v.cells.toList)) Q := by
  intro a ha _
  have hadd : A = ⟨b, off, none⟩ := by rw [hA]; unfold Addr.add; split <;> simp_all
  have hst := run_storeCells_at P b off bt v.cells.toList 0 cs.toArray w hB (by simpa using hfit) h1
  simp only [Nat.add_zero] at hst
  refine .inr (.inl ⟨w.setRow b (cs.take off ++ v.cells.toList ++ cs.drop (off + v.cells.toList.length)).toArray, ?_, rfl, setRow_ext w b _ (by simp), ?_⟩)
  · simp only [execOp, ho, ha.eval hx, ha.eval hy, Instr.storeAt, Instr.sureAddr, storeVar, Sem.run_bind, Sem.run_pure, Result.andThen_ok, run_szOf hm, ne_eq, not_true_eq_false, if_false, hadd, hst]
  · unfold Blk over
    have := setRow_heap w b cs.toArray (cs.take off ++ v.cells.toList ++ cs.drop (off + v.cells.toList.length)).toArray bt _ hB
    simpa using this

theorem over_all {news : List Value} (h : cs.length = news.length) : over cs 0 news = news := by simp [over, h]
/-- A whole block is written over. -/
theorem acts_store_all {t : TypeId} {x y : Operand} {v : Value} {b m : Nat} {bt : TypeId} (ho : o.op = .store t x y) (hx : ev E x = some (.pointer (some ⟨b, 0, none⟩))) (hy : ev E y = some v)
    (hB : Blk w b bt cs) (hm : szOf P t = some m) (hl : v.cells.size = m) (hcs : cs.length = m) (h1 : ∀ u ∈ v.cells.toList, u.oneCell' = true) :
    Acts P n ds E o w (fun u w' => u = undef ∧ Ext [b] w w' ∧ Blk w' b bt v.cells.toList) Q := by
  have h := acts_store (Q := Q) (ds := ds) (n := n) (off := 0) ho hx (addr_lit b 0).symm hy (hl ▸ hm) hB (by omega) h1
  rwa [over_all (by simp; omega)] at h
theorem Blk.cellsL {b : Nat} {t : TypeId} {c : List Value} (h : Blk w b t (Value.agg c.toArray).cells.toList) : Cells w ⟨b, 0, none⟩ c := h.cells
/-- What a new block's writing over leaves alone. -/
theorem Ext.renew {w0 : World} {b : Nat} (h0 : Ext [] w0 w) (h : Ext [b] w w') (hb : w0.heap.size ≤ b) : Ext [] w0 w' :=
  (h0.up.trans h).fresh (fun k hk => by simp at hk; omega)

/-! ### Slices -/

/-- A slice whose elements take sz cells each: n of them, the cells cs. -/
def Sl (w : World) (p : Option Addr) (A : Addr) (len : Nat) (cs : List Value) : Prop := (0 < len → p = some A) ∧ Cells w A cs

theorem Sl.ext0 {p : Option Addr} {len : Nat} (h : Sl w p A len cs) (he : Ext [] w w') : Sl w' p A len cs := ⟨h.1, h.2.ext0 he⟩

/-- What a source of append or copy yields. -/
structure Source (P : Program) (size : Nat) (tx : TypeId) (x : Value) (m : Nat) (news : List Value) (w : World) : Prop where
  src : Src P size tx x m news w

theorem source_slice {size : Nat} {tx e' : TypeId} {p : Option Addr} {m c : Nat} {news : List Value} (hk : P.underlying tx = some (.slice e')) (hl : news.length = m * size) (hp : 0 < m → p = some A) (hc : Cells w A news) (h1 : ∀ u ∈ news, u.oneCell' = true) :
    Src P size tx (.slice p m c) m news w := by
  rcases Nat.eq_zero_or_pos m with h0 | h0
  · subst h0
    have hn : news = [] := List.eq_nil_of_length_eq_zero (by simpa using hl)
    subst hn
    cases p with
    | none => exact Src.ofNil w hk c
    | some a => exact Src.ofSlice w hk a 0 c [] (by simp) (by simp) (by simp)
  · rw [hp h0]
    exact Src.ofSlice w hk A m c news hl hc h1

/-- append onto a row of the call's own. -/
theorem run_append_src (base : Nat) (t tx ty e : TypeId) (i : TypeInfo) (z : Value) (size bytes : Nat) (ht : P.underlying t = some (.slice e)) (hi : P.info? e = some i) (hz : i.zero = some z)
    (hsize : i.size = size) (hby : i.bytes = bytes) (hzs : z.cells.size = size) (hsz : 0 < size)
    (v : Value) (m : Nat) (xs : List Value) (k : Nat) (hown : w.ownsRow base e size v k xs)
    (x : Value) (news : List Value) (hs : Src P size tx x m news w)
    (h63 : k + m ≤ maxLen) (hbytes : (k + m) * bytes ≤ 140737488355328) (hbase : base ≤ w.heap.size) :
    ∃ v' w', (Builtin.append_ #[t, tx] ty #[v, x]).run P w = .ok v' w' ∧ w'.ownsRow base e size v' (k + m) (xs ++ news) ∧ Ext v.ownBlock.toList w w' ∧
      (v'.ownBlock = v.ownBlock ∨ v'.ownBlock = some w.heap.size) := by
  subst hsize
  subst hby
  have hl := hs.newsLen
  have hsmall : k + m ≤ 9223372036854775807 := by simp only [maxLen] at h63; omega
  have hlen : (xs ++ news).length = (k + m) * i.size := by rw [List.length_append, hown.1, hl, Nat.add_mul]
  have grown : ∀ (old : Nat), old < k + m → ∀ (row : Option Nat),
      (w.drew.alloc (.cells ((xs ++ news).toArray ++ Builtin.zeroCells z.cells (grownCap w (k + m) old e - (k + m))) e)).ownsRow base e i.size
        (.slice (some ⟨w.heap.size, 0, none⟩) (k + m) (grownCap w (k + m) old e)) (k + m) (xs ++ news) ∧
      Ext row.toList w (w.drew.alloc (.cells ((xs ++ news).toArray ++ Builtin.zeroCells z.cells (grownCap w (k + m) old e - (k + m))) e)) := by
    intro old ho row
    have hge := grownCap_ge w (k + m) old e
    have hcm : grownCap w (k + m) old e ≤ maxLen := grownCap_le_maxLen w (k + m) old e h63
    refine ⟨⟨hlen, .inr ⟨w.heap.size, _, _, rfl, hbase, heap_alloc_new w.drew _, hge, hcm, ?_, ?_⟩⟩, ⟨rfl, rfl, rfl, by simp, fun j hk _ => Go.heap_alloc_old w.drew _ hk, Nat.le_succ _⟩⟩
    · simp only [Array.size_append, List.size_toArray, size_zeroCells, hzs]
      rw [hlen, ← Nat.add_mul]
      congr 1
      omega
    · simp only [Array.toList_append, ← hlen]
      exact List.take_left
  rcases hown.2 with ⟨rfl, rfl⟩ | ⟨g, cap, cur, rfl, hbg, hg, hnc, hcm, hcs, htake⟩
  · have hx : xs = [] := List.eq_nil_of_length_eq_zero (by simpa using hown.1)
    subst hx
    by_cases hm : m = 0
    · subst hm
      have hn : news = [] := List.eq_nil_of_length_eq_zero (by simpa using hl)
      subst hn
      refine ⟨.slice none 0 0, w, ?_, World.ownsRow_nil w base e i.size, ⟨rfl, rfl, rfl, Nat.le_refl _, fun _ _ _ => rfl, Nat.le_refl _⟩, .inl rfl⟩
      have hs' := hs.cells
      rcases hs.kind with ⟨e', hk⟩ | hk <;>
        simp [Builtin.append_, run_underlying ht, run_underlying hk, sizeOf, typeInfo, hi, hs.len, hs']
    · have hr := run_append_grow_src (P := P) w t tx ty e i z ht hi hz none 0 0 [] (run_firstCells_none w.drew i.size 0 0 0) x m news hs (by omega) (by omega) (growslice_fits (by omega) (by simpa using hbytes))
      have hgr := grown 0 (by omega) (Value.ownBlock (.slice none 0 0))
      exact ⟨_, _, hr, hgr.1, hgr.2, .inr rfl⟩
  · by_cases hroom : k + m ≤ cap
    · have hfit : k * i.size + news.length ≤ cur.size := by rw [hl, hcs, ← Nat.add_mul]; exact Nat.mul_le_mul_right _ hroom
      have hst := run_storeCells_at P g (k * i.size) e news 0 cur w hg (by simpa using hfit) hs.one
      simp only [Nat.add_zero] at hst
      have hr : (Builtin.append_ #[t, tx] ty #[.slice (some ⟨g, 0, none⟩) k cap, x]).run P w =
          .ok (.slice (some ⟨g, 0, none⟩) (k + m) cap) (w.setRow g (cur.toList.take (k * i.size) ++ news ++ cur.toList.drop (k * i.size + news.length)).toArray) := by
        have hs' := hs.cells
        rcases hs.kind with ⟨e', hk⟩ | hk <;>
          simp [Builtin.append_, run_underlying ht, run_underlying hk, sizeOf, typeInfo, hi, hs.len, hroom, hs', Addr.add_lit, hst]
      refine ⟨_, _, hr, ⟨hlen, .inr ⟨g, cap, _, rfl, hbg, setRow_heap w g cur _ e _ hg, hroom, hcm, ?_, ?_⟩⟩, ⟨rfl, rfl, rfl, by simp, fun j _ hk => setRow_other w g j _ (fun e => hk (by simp [Value.ownBlock, e])), Nat.le_refl _⟩, .inl rfl⟩
      · simp only [List.size_toArray, List.length_append, List.length_take, List.length_drop, Array.length_toList]
        omega
      · rw [htake, ← hlen]
        exact List.take_left
    · have hold : (Builtin.firstCells i.size k (.slice (some ⟨g, 0, none⟩) k cap)).run P w.drew = .ok xs.toArray w.drew :=
        run_firstCells_some w.drew i.size k ⟨g, 0, none⟩ k cap xs hown.1 (by
          have := hown.cells (g := g) rfl
          simpa using this)
      have hr := run_append_grow_src (P := P) w t tx ty e i z ht hi hz (some ⟨g, 0, none⟩) k cap xs hold x m news hs (by omega) (by omega) (growslice_fits (by omega) hbytes)
      have hgr := grown cap (by omega) (Value.ownBlock (.slice (some ⟨g, 0, none⟩) k cap))
      exact ⟨_, _, hr, hgr.1, hgr.2, .inr rfl⟩

/-- append onto whatever slice that is full: a new row (or the same slice, where nothing is appended). -/
theorem run_append_full (base : Nat) (t tx ty e : TypeId) (i : TypeInfo) (z : Value) (size bytes : Nat) (ht : P.underlying t = some (.slice e)) (hi : P.info? e = some i) (hz : i.zero = some z)
    (hsize : i.size = size) (hby : i.bytes = bytes) (hzs : z.cells.size = size)
    (p : Option Addr) (k : Nat) (xs : List Value) (hp : 0 < k → p = some A) (hl : xs.length = k * size) (hxs : Cells w A xs)
    (x : Value) (m : Nat) (news : List Value) (hs : Src P size tx x m news w) (hm : 0 < m)
    (h63 : k + m ≤ maxLen) (hbytes : (k + m) * bytes ≤ 140737488355328) (hbase : base ≤ w.heap.size) :
    ∃ v' w', (Builtin.append_ #[t, tx] ty #[.slice p k k, x]).run P w = .ok v' w' ∧ w'.ownsRow base e size v' (k + m) (xs ++ news) ∧ Ext [] w w' ∧ v'.ownBlock = some w.heap.size := by
  subst hsize
  subst hby
  have hnl := hs.newsLen
  have hsmall : k + m ≤ 9223372036854775807 := by simp only [maxLen] at h63; omega
  have hlen : (xs ++ news).length = (k + m) * i.size := by rw [List.length_append, hl, hnl, Nat.add_mul]
  have hold : (Builtin.firstCells i.size k (.slice p k k)).run P w.drew = .ok xs.toArray w.drew := by
    rcases Nat.eq_zero_or_pos k with h0 | h0
    · subst h0
      have hn : xs = [] := List.eq_nil_of_length_eq_zero (by simpa using hl)
      subst hn
      cases p with
      | none => exact run_firstCells_none w.drew i.size 0 0 0
      | some a => exact run_firstCells_some w.drew i.size 0 a 0 0 [] (by simp) (by simp)
    · rw [hp h0]
      exact run_firstCells_some w.drew i.size k A k k xs hl (by
        have := hxs
        unfold Cells at this
        simpa using this)
  have hr := run_append_grow_src (P := P) w t tx ty e i z ht hi hz p k k xs hold x m news hs (by omega) (by omega) (growslice_fits (by omega) hbytes)
  have hge := grownCap_ge w (k + m) k e
  have hcm : grownCap w (k + m) k e ≤ maxLen := grownCap_le_maxLen w (k + m) k e h63
  refine ⟨_, _, hr, ⟨hlen, .inr ⟨w.heap.size, _, _, rfl, hbase, heap_alloc_new w.drew _, hge, hcm, ?_, ?_⟩⟩, ⟨rfl, rfl, rfl, by simp, fun j hk _ => Go.heap_alloc_old w.drew _ hk, Nat.le_succ _⟩, rfl⟩
  · simp only [Array.size_append, List.size_toArray, size_zeroCells, hzs]
    rw [hlen, ← Nat.add_mul]
    congr 1
    omega
  · simp only [Array.toList_append, ← hlen]
    exact List.take_left

/-- The facts of an element type, in one. -/
def elemOK (P : Program) (t e : TypeId) (size bytes : Nat) : Bool :=
  match P.underlying t, P.info? e with
  | some (.slice e'), some i => Nat.beq e' e && Nat.beq i.size size && Nat.beq i.bytes bytes && Nat.blt 0 size && (match i.zero with | some z => Nat.beq z.cells.size size | none => false)
  | _, _ => false

theorem elemOK_spec {t e : TypeId} {size bytes : Nat} (h : elemOK P t e size bytes = true) : ∃ i z, P.underlying t = some (.slice e) ∧ P.info? e = some i ∧ i.zero = some z ∧ i.size = size ∧ i.bytes = bytes ∧ z.cells.size = size ∧ 0 < size := by
  unfold elemOK at h
  split at h
  · rename_i e' i h1 h2
    simp only [Bool.and_eq_true] at h
    obtain ⟨⟨⟨⟨h3, h4⟩, h5⟩, h6⟩, h7⟩ := h
    cases hz : i.zero with
    | none => rw [hz] at h7; cases h7
    | some z =>
      rw [hz] at h7
      have he := Nat.eq_of_beq_eq_true h3
      subst he
      exact ⟨i, z, h1, h2, hz, Nat.eq_of_beq_eq_true h4, Nat.eq_of_beq_eq_true h5, Nat.eq_of_beq_eq_true h7, by simpa [Nat.blt_eq] using h6⟩
  · cases h

/-- A row of the call's own has grown (or not): k elements, the cells xs; nothing but its block has changed; it lies where it lay, or in a new block. -/
structure Grew (base : Nat) (e : TypeId) (size : Nat) (w : World) (v : Value) (k : Nat) (xs : List Value) (v' : Value) (w' : World) : Prop where
  own : w'.ownsRow base e size v' k xs
  ext : Ext v.ownBlock.toList w w'
  at_ : v'.ownBlock = v.ownBlock ∨ ∃ g, v'.ownBlock = some g ∧ w.heap.size ≤ g

/-- The row is kept where something else happened. -/
theorem own_keep {base : Nat} {e : TypeId} {size : Nat} {v : Value} {k : Nat} {xs : List Value} (h : w.ownsRow base e size v k xs) (he : Ext X w w') (hv : ∀ g, v.ownBlock = some g → g ∉ X) : w'.ownsRow base e size v k xs := by
  refine ⟨h.1, ?_⟩
  rcases h.2 with hn | ⟨g, cap, cur, rfl, hb, hgg, rest⟩
  · exact .inl hn
  · exact .inr ⟨g, cap, cur, rfl, hb, (he.keep g (Array.getElem?_eq_some_iff.1 hgg).1 (hv g rfl)).trans hgg, rest⟩
theorem own_keep0 {base : Nat} {e : TypeId} {size : Nat} {v : Value} {k : Nat} {xs : List Value} (h : w.ownsRow base e size v k xs) (he : Ext [] w w') : w'.ownsRow base e size v k xs := own_keep h he (by simp)

theorem Grew.refl {base : Nat} {e : TypeId} {size : Nat} {v : Value} {k : Nat} {xs : List Value} (h : w.ownsRow base e size v k xs) : Grew base e size w v k xs v w := ⟨h, Ext.refl _ _, .inl rfl⟩
theorem Grew.trans {base : Nat} {e : TypeId} {size : Nat} {v v1 v2 : Value} {k k1 : Nat} {xs xs1 : List Value} {w1 w2 : World} (h : Grew base e size w v k xs v1 w1) (h2 : Grew base e size w1 v1 k1 xs1 v2 w2) : Grew base e size w v k1 xs1 v2 w2 := by
  refine ⟨h2.own, ⟨h2.ext.os.trans h.ext.os, h2.ext.tape.trans h.ext.tape, h2.ext.output.trans h.ext.output, Nat.le_trans h.ext.size h2.ext.size, fun j hj hx => ?_, Nat.le_trans h.ext.drawn h2.ext.drawn⟩, ?_⟩
  · refine (h2.ext.keep j (Nat.lt_of_lt_of_le hj h.ext.size) fun hm => ?_).trans (h.ext.keep j hj hx)
    rcases h.at_ with h3 | ⟨g, h3, h4⟩
    · rw [h3] at hm; exact hx hm
    · rw [h3] at hm; simp at hm; omega
  · rcases h2.at_ with h3 | ⟨g, h3, h4⟩
    · rw [h3]; exact h.at_
    · exact .inr ⟨g, h3, Nat.le_trans h.ext.size h4⟩
theorem Grew.step {base : Nat} {e : TypeId} {size : Nat} {v v1 : Value} {k : Nat} {xs : List Value} {w1 w2 : World} (h : Grew base e size w v k xs v1 w1) (he : Ext [] w1 w2) : Grew base e size w v k xs v1 w2 :=
  h.trans ⟨own_keep0 h.own he, he.up, .inl rfl⟩
/-- What lies below the base, or was made before and is not the row's own, stays. -/
theorem Grew.ext0 {base : Nat} {e : TypeId} {size : Nat} {v v' : Value} {k : Nat} {xs : List Value} {w0 : World} (h : Grew base e size w v k xs v' w') (he : Ext [] w0 w) (hv : ∀ g, v.ownBlock = some g → w0.heap.size ≤ g) : Ext [] w0 w' :=
  ⟨h.ext.os.trans he.os, h.ext.tape.trans he.tape, h.ext.output.trans he.output, Nat.le_trans he.size h.ext.size, fun j hj hx =>
    (h.ext.keep j (Nat.lt_of_lt_of_le hj he.size) fun hm => by
      cases hb : v.ownBlock with
      | none => rw [hb] at hm; simp at hm
      | some g => rw [hb] at hm; simp at hm; have := hv g hb; omega).trans (he.keep j hj hx), Nat.le_trans he.drawn h.ext.drawn⟩
theorem Grew.blk {base : Nat} {e : TypeId} {size : Nat} {v v' : Value} {k : Nat} {xs : List Value} (h : Grew base e size w v k xs v' w') : ∀ y, y ∈ v'.ownBlock.toList → y ∈ v.ownBlock.toList ∨ w.heap.size ≤ y := fun y hy => by
  rcases h.at_ with h1 | ⟨g, h1, h2⟩
  · rw [h1] at hy; exact .inl hy
  · rw [h1] at hy; simp at hy; exact .inr (by omega)
theorem own_lt {base : Nat} {e : TypeId} {size : Nat} {v : Value} {k : Nat} {xs : List Value} (h : w.ownsRow base e size v k xs) : ∀ y, y ∈ v.ownBlock.toList → base ≤ y ∧ y < w.heap.size := fun y hy => h.lt y (by simpa using hy)
theorem own_base {base base' : Nat} {e : TypeId} {size : Nat} {v : Value} {k : Nat} {xs : List Value} (h : w.ownsRow base e size v k xs) (hb : base' ≤ base) : w.ownsRow base' e size v k xs := by
  refine ⟨h.1, h.2.imp id ?_⟩
  rintro ⟨g, cap, cur, h1, h2, h3⟩
  exact ⟨g, cap, cur, h1, Nat.le_trans hb h2, h3⟩
/-- The row that has nothing yet. -/
abbrev nilS : Value := .slice none 0 0
theorem own_built {base : Nat} {e : TypeId} {size b len : Nat} {xs : List Value} (hB : Blk w b e xs) (hb : base ≤ b) (hl : xs.length = len * size) (hm : len ≤ 140737488355328) : w.ownsRow base e size (.slice (some ⟨b, 0, none⟩) len len) len xs :=
  ⟨hl, .inr ⟨b, len, xs.toArray, rfl, hb, hB, Nat.le_refl _, by unfold maxLen; omega, by simpa using hl, by simp [← hl]⟩⟩
theorem grew_built {base : Nat} {e : TypeId} {size b len : Nat} {xs : List Value} (he : Ext [] w w') (hB : Blk w' b e xs) (hb : w.heap.size ≤ b) (hbase : base ≤ w.heap.size) (hl : xs.length = len * size) (hm : len ≤ 140737488355328) :
    Grew base e size w nilS len xs (.slice (some ⟨b, 0, none⟩) len len) w' := ⟨own_built hB (by omega) hl hm, he, .inr ⟨b, rfl, hb⟩⟩
theorem grew_nil (base : Nat) (e : TypeId) (size : Nat) (w : World) : Grew base e size w nilS 0 [] nilS w := Grew.refl (World.ownsRow_nil w base e size)
/-- A row of one's own, read. -/
theorem own_sl {base : Nat} {e : TypeId} {size : Nat} {v : Value} {k : Nat} {xs : List Value} (h : w.ownsRow base e size v k xs) :
    ∃ p cap A, v = .slice p k cap ∧ Sl w p A k xs ∧ k ≤ cap ∧ cap ≤ 9223372036854775807 ∧ (0 < k → base ≤ A.block ∧ A.block < w.heap.size) ∧ (∀ g, v.ownBlock = some g → A.block = g) := by
  obtain ⟨hl, h | ⟨g, cap, cur, rfl, hb, hg, hk, hc, hs, ht⟩⟩ := h
  · obtain ⟨rfl, rfl⟩ := h
    have : xs = [] := List.eq_nil_of_length_eq_zero (by omega)
    subst this
    exact ⟨none, 0, ⟨0, 0, none⟩, rfl, ⟨by simp, fun i v hi => by simp at hi⟩, by simp, by simp, by simp, fun g hg => by simp [Value.ownBlock] at hg⟩
  · refine ⟨_, cap, ⟨g, 0, none⟩, rfl, ⟨fun _ => rfl, ?_⟩, hk, by unfold maxLen at hc; omega, fun _ => ⟨hb, (Array.getElem?_eq_some_iff.1 hg).1⟩, fun g' hg' => by simpa [Value.ownBlock] using hg'⟩
    have hB : Blk w g e cur.toList := by simpa [Blk] using hg
    intro i v hi
    have hi' : cur.toList[i]? = some v := by
      rw [← ht, List.getElem?_take] at hi
      split at hi
      · exact hi
      · cases hi
    exact hB.cells i v hi'

theorem acts_append {x y : Operand} {t tx e : TypeId} {size bytes : Nat} {base : Nat} {v u : Value} {k m : Nat} {xs news : List Value}
    (ho : o.op = .call { callee := .builtin .append, args := #[x, y], argTypes := #[t, tx] }) (he : elemOK P t e size bytes = true)
    (hx : ev E x = some v) (hy : ev E y = some u) (hown : w.ownsRow base e size v k xs) (hs : Src P size tx u m news w)
    (hbytes : (k + m) * bytes ≤ 140737488355328) (h63 : k + m ≤ 140737488355328) (hbase : base ≤ w.heap.size) : Acts P n ds E o w (Grew base e size w v (k + m) (xs ++ news)) Q := by
  intro a ha _
  obtain ⟨i, z, h1, h2, h3, h4, h5, h6, h7⟩ := elemOK_spec he
  obtain ⟨v', w', hr, g1, g2, g3⟩ := run_append_src (P := P) (w := w) base t tx o.type e i z size bytes h1 h2 h3 h4 h5 h6 h7 v m xs k hown u news hs (by unfold maxLen; omega) hbytes hbase
  refine .inl ⟨v', w', ?_, g1, g2, g3.imp id fun h => ⟨_, h, Nat.le_refl _⟩⟩
  simp [execOp, ho, resolve, invoke, builtin, ha.eval hx, ha.eval hy, hr]

theorem acts_append_full {x y : Operand} {t tx e : TypeId} {size bytes : Nat} {p : Option Addr} {u : Value} {k m : Nat} {xs news : List Value}
    (ho : o.op = .call { callee := .builtin .append, args := #[x, y], argTypes := #[t, tx] }) (he : elemOK P t e size bytes = true)
    (hx : ev E x = some (.slice p k k)) (hy : ev E y = some u) (hp : 0 < k → p = some A) (hl : xs.length = k * size) (hc : Cells w A xs) (hs : Src P size tx u m news w) (hm : 0 < m)
    (hbytes : (k + m) * bytes ≤ 140737488355328) (h63 : k + m ≤ 140737488355328) (base : Nat) (hbase : base ≤ w.heap.size) :
    Acts P n ds E o w (fun v' w' => w'.ownsRow base e size v' (k + m) (xs ++ news) ∧ Ext [] w w') Q := by
  intro a ha _
  obtain ⟨i, z, h1, h2, h3, h4, h5, h6, h7⟩ := elemOK_spec he
  obtain ⟨v', w', hr, g1, g2, g3⟩ := run_append_full (P := P) (w := w) base t tx o.type e i z size bytes h1 h2 h3 h4 h5 h6 p k xs hp hl hc u m news hs hm (by unfold maxLen; omega) hbytes hbase
  refine .inl ⟨v', w', ?_, g1, g2⟩
  simp [execOp, ho, resolve, invoke, builtin, ha.eval hx, ha.eval hy, hr]

/-! ### Calls -/

def callable (P : Program) (g : FuncId) : Bool := (P.funcs[g]?).any fun fn => fn.body.isSome && fn.name != "runtime.NumGoroutine"

/-- It returns, and R holds of what it returns. -/
def Ret (R : Value → World → Prop) : Ending → World → Prop
  | .returned v, w => R v w
  | _, _ => False

theorem run_callFunc {g : FuncId} (hg : callable P g = true) (args : Array Value) (w : World) : (callFunc g args).run P w = .ok (.enter g args) w := by
  unfold callable at hg
  cases hf : P.funcs[g]? with
  | none => rw [hf] at hg; cases hg
  | some fn =>
    rw [hf] at hg
    simp only [Option.any_some, Bool.and_eq_true, bne_iff_ne, ne_eq] at hg
    have hb : fn.body.isNone = false := by
      cases hbo : fn.body <;> simp [hbo] at hg ⊢
    have hb' : fn.body ≠ none := fun e => by rw [e] at hb; cases hb
    simp [callFunc, hf, hg.2, hb']

theorem acts_call' {f : Operand} {g : FuncId} {first cap : Array Value} {xs : List Operand} {ts : Array TypeId} {vs : List Value} {R : Ending → World → Prop} {K : Value → World → Prop}
    (ho : o.op = .call { callee := .value f, args := xs.toArray, argTypes := ts }) (hf : ev E f = some (.func (.func g) first cap)) (hx : evs E xs = some vs) (hg : callable P g = true)
    (hc : Calls P g (first ++ vs.toArray ++ cap) w R) (hR : ∀ e w', R e w' → match e with | .returned v => K v w' | .panicked c => Q (.panic c) [] w' | .outgrown => False) : Acts P n ds E o w K Q := by
  intro a ha _
  refine .inr (.inr (.inl ⟨g, first ++ vs.toArray ++ cap, w, ?_, hc.mono hR⟩))
  have h1 : xs.toArray.map a.eval = vs.toArray := by rw [← ha.evals hx]; simp
  simp only [execOp, ho, resolve, Deferred.ofValue, ha.eval hf, h1, Sem.run_bind, Sem.run_pure, Result.andThen_ok, invoke, run_callFunc hg]

theorem acts_call {g : FuncId} {xs : List Operand} {ts : Array TypeId} {vs : List Value} {R : Value → World → Prop}
    (ho : o.op = .call { callee := .value (.func g), args := xs.toArray, argTypes := ts }) (hx : evs E xs = some vs) (hg : callable P g = true)
    (hc : Calls P g vs.toArray w (Ret R)) : Acts P n ds E o w R Q :=
  acts_call' (first := #[]) (cap := #[]) (R := Ret R) ho rfl hx hg (by simpa using hc) fun e w' h => by
    cases e with
    | returned v => exact h
    | panicked c => exact h.elim
    | outgrown => exact h.elim

theorem acts_callv {f : Operand} {g : FuncId} {cap : Array Value} {xs : List Operand} {ts : Array TypeId} {vs : List Value} {R : Value → World → Prop}
    (ho : o.op = .call { callee := .value f, args := xs.toArray, argTypes := ts }) (hf : ev E f = some (.func (.func g) #[] cap)) (hx : evs E xs = some vs) (hg : callable P g = true)
    (hc : Calls P g (vs.toArray ++ cap) w (Ret R)) : Acts P n ds E o w R Q :=
  acts_call' (first := #[]) (R := Ret R) ho hf hx hg (by simpa using hc) fun e w' h => by
    cases e with
    | returned v => exact h
    | panicked c => exact h.elim
    | outgrown => exact h.elim

/-- A call that may panic. -/
def RetOr (R : Value → World → Prop) (Z : List PanicEntry → World → Prop) : Ending → World → Prop
  | .returned v, w => R v w
  | .panicked c, w => Z c w
  | .outgrown, _ => False

theorem acts_call_or {g : FuncId} {xs : List Operand} {ts : Array TypeId} {vs : List Value} {R : Value → World → Prop} {Z : List PanicEntry → World → Prop}
    (ho : o.op = .call { callee := .value (.func g), args := xs.toArray, argTypes := ts }) (hx : evs E xs = some vs) (hg : callable P g = true)
    (hc : Calls P g vs.toArray w (RetOr R Z)) (hZ : ∀ c w', Z c w' → Q (.panic c) [] w') : Acts P n ds E o w R Q :=
  acts_call' (first := #[]) (cap := #[]) (R := RetOr R Z) ho rfl hx hg (by simpa using hc) fun e w' h => by
    cases e with
    | returned v => exact h
    | panicked c => exact hZ c w' h
    | outgrown => exact h.elim

/-- A call that panics for sure. -/
theorem acts_never {g : FuncId} {xs : List Operand} {ts : Array TypeId} {vs : List Value} {R : Value → World → Prop} {Z : List PanicEntry → World → Prop}
    (ho : o.op = .call { callee := .value (.func g), args := xs.toArray, argTypes := ts }) (hx : evs E xs = some vs) (hg : callable P g = true)
    (hc : Calls P g vs.toArray w (RetOr R Z)) (hZ : ∀ c w', (Z c w' → Q (.panic c) [] w')) (hR : ∀ v w', ¬ R v w') : Acts P n ds E o w (fun _ _ => False) Q :=
  acts_call' (first := #[]) (cap := #[]) (R := RetOr R Z) ho rfl hx hg (by simpa using hc) fun e w' h => by
    cases e with
    | returned v => exact (hR v w' h).elim
    | panicked c => exact hZ c w' h
    | outgrown => exact h.elim
theorem Acts.mono {K K' : Value → World → Prop} (h : Acts P n ds E o w K Q) (hk : ∀ v w', K v w' → K' v w') : Acts P n ds E o w K' Q := by
  intro a ha hd
  rcases h a ha hd with ⟨v, w', h1, h2⟩ | ⟨w', h1, h2⟩ | ⟨f, args, w1, h1, h2⟩ | ⟨v, w', h1, h2⟩ | ⟨l, f, tmps, as, bd, w1, h1, h2⟩
  · exact .inl ⟨v, w', h1, hk _ _ h2⟩
  · exact .inr (.inl ⟨w', h1, hk _ _ h2⟩)
  · refine .inr (.inr (.inl ⟨f, args, w1, h1, h2.mono fun e w' he => ?_⟩))
    cases e with
    | returned v => exact hk _ _ he
    | panicked c => exact he
    | outgrown => exact he
  · exact .inr (.inr (.inr (.inl ⟨v, w', h1, h2⟩)))
  · refine .inr (.inr (.inr (.inr ⟨l, f, tmps, as, bd, w1, h1, h2.mono fun e w' he => ?_⟩)))
    cases e with
    | returned v => exact hk _ _ he
    | panicked c => exact he
    | outgrown => exact he

theorem acts_panic {x : Operand} {t : TypeId} {v : Value} (ho : o.op = .panic x) (hx : ev E x = some (.iface t v)) (hQ : Q (.panic [{ v := .iface t v, recovered := false }]) [] w) {K : Value → World → Prop} : Acts P n ds E o w K Q := by
  intro a ha _
  refine .inr (.inr (.inr (.inl ⟨.iface t v, w, ?_, hQ⟩)))
  simp [execOp, ho, ha.eval hx, Instr.panic]

/-- What yields a value at once, as an act. -/
theorem acts_val {v : Value} (hv : RunV P n E o [] w v) : Acts P n ds E o w (fun u w' => u = v ∧ w' = w) Q :=
  fun a ha _ => .inl ⟨v, w, hv a w (Ext.refl _ _) ha, rfl, rfl⟩

/-! ### Literals -/

theorem over_set {L r : List Value} {k : Nat} {v : Value} (h : k + 1 + r.length ≤ L.length) : over (L.set k v) (k + 1) r = over L k (v :: r) := by
  have h1 : (L.set k v).take (k + 1) = L.take k ++ [v] := by
    apply List.ext_getElem?
    intro i
    rcases Nat.lt_trichotomy i k with h1 | h1 | h1
    · rw [List.getElem?_take_of_lt (by omega), List.getElem?_set_ne (by omega), List.getElem?_append_left (by simp; omega), List.getElem?_take_of_lt h1]
    · subst h1
      rw [List.getElem?_take_of_lt (by omega), List.getElem?_set_self (by omega), List.getElem?_append_right (by simp; omega)]
      have : min i L.length = i := by omega
      simp [this]
    · rw [List.getElem?_eq_none (by simp; omega), List.getElem?_eq_none (by simp; omega)]
  have h2 : (L.set k v).drop (k + 1 + r.length) = L.drop (k + (r.length + 1)) := by
    apply List.ext_getElem?
    intro i
    rw [List.getElem?_drop, List.getElem?_drop, List.getElem?_set_ne (by omega)]
    congr 1
    omega
  simp only [over, h1, h2, List.length_cons, List.append_assoc, List.cons_append, List.nil_append]

theorem fold_over (off : Nat) : ∀ (vs : List Value) (j : Nat) (cs : Array Value), off + j + vs.length ≤ cs.size →
    (vs.zipIdx j).foldl (fun cs (x : Value × Nat) => cs.setIfInBounds (off + x.2) x.1) cs = (over cs.toList (off + j) vs).toArray
  | [], j, cs, h => by simp [over]
  | v :: r, j, cs, h => by
    simp only [List.length_cons] at h
    simp only [List.zipIdx_cons, List.foldl_cons]
    rw [fold_over off r (j + 1) _ (by simp; omega), Array.toList_setIfInBounds, ← over_set (by simp; omega)]
    rfl

/-- The cells of a literal, part by part. -/
def fillL (place : Nat → Option (Nat × Nat)) : List Value → List (Nat × Value) → Option (List Value)
  | cs, [] => some cs
  | cs, (i, v) :: r => match place i with
    | none => none
    | some (off, size) => match Nat.beq v.cells.size size && Nat.ble (off + v.cells.size) cs.length with
      | true => fillL place (over cs off v.cells.toList) r
      | false => none

theorem fill_fillL {place : Nat → Option (Nat × Nat)} : ∀ (ps : List (Nat × Value)) (cs cs' : List Value), fillL place cs ps = some cs' → Instr.fill place cs.toArray ps = some cs'.toArray
  | [], cs, cs', h => by simp [fillL] at h; simp [Instr.fill, h]
  | (i, v) :: r, cs, cs', h => by
    simp only [fillL] at h
    cases hp : place i with
    | none => rw [hp] at h; cases h
    | some q =>
      obtain ⟨off, size⟩ := q
      rw [hp] at h
      simp only at h
      split at h
      · rename_i hb
        simp only [Bool.and_eq_true] at hb
        have h1 := Nat.eq_of_beq_eq_true hb.1
        have h2 := Nat.le_of_ble_eq_true hb.2
        have h3 : ¬ (v.cells.size ≠ size ∨ off + v.cells.size > cs.length) := by omega
        have h3' : (v.cells.size ≠ size || off + v.cells.size > cs.toArray.size) = false := by simp; omega
        have hf := fold_over off v.cells.toList 0 cs.toArray (by simpa using h2)
        simp only [Nat.add_zero] at hf
        simp only [Instr.fill, hp, h3', Bool.false_eq_true, if_false]
        have hz : v.cells.zipIdx.foldl (fun cs (x : Value × Nat) => cs.setIfInBounds (off + x.2) x.1) cs.toArray = (v.cells.toList.zipIdx 0).foldl (fun cs (x : Value × Nat) => cs.setIfInBounds (off + x.2) x.1) cs.toArray := by
          rw [← Array.foldl_toList, Array.toList_zipIdx]
        have := fill_fillL r (over cs off v.cells.toList) cs' h
        rw [← this]
        congr 1
        exact hz.trans hf
      · cases h

theorem evs_parts {a : Act} (ha : Agr n E a) : ∀ {ps : List (Nat × Operand)} {vs : List Value}, evs E (ps.map (·.2)) = some vs → ps.map (fun p => (p.1, a.eval p.2)) = (ps.map (·.1)).zip vs
  | [], vs, h => by simp [evs] at h; simp [h]
  | (i, x) :: r, vs, h => by
    simp only [List.map_cons, evs] at h
    split at h
    · rename_i v l h1 h2
      simp only [Option.some.injEq] at h
      subst h
      simp [ha.eval h1, evs_parts ha h2]
    · cases h

/-- The zeros of a new row. -/
def zerosL (z : List Value) (m : Nat) : List Value := (List.range m).map fun i => z.getD (i % z.length) undef

/-- `[]T{..}`. -/
theorem acts_buildSlice {t e : TypeId} {len sz : Nat} {z : Value} {ps : List (Nat × Operand)} {vs cs' : List Value} (ho : o.op = .buildSlice t len ps.toArray) (ht : P.underlying t = some (.slice e)) (hsz : szOf P e = some sz) (hz : zrOf P e = some z)
    (hx : evs E (ps.map (·.2)) = some vs) (hlen : Nat.ble (len * sz) 16777216 = true) (hzs : Nat.beq z.cells.size sz = true) (hfill : fillL (fun i => some (i * sz, sz)) (zerosL z.cells.toList (len * sz)) ((ps.map (·.1)).zip vs) = some cs') :
    Acts P n ds E o w (fun v w' => Ext [] w w' ∧ ∃ b, v = .slice (some ⟨b, 0, none⟩) len len ∧ w.heap.size ≤ b ∧ Blk w' b e cs') Q := by
  intro a ha _
  have h1 : ¬ len * sz > 2 ^ 24 := by have := Nat.le_of_ble_eq_true hlen; omega
  have h2 : ps.toArray.map (fun (i, x) => (i, a.eval x)) = ((ps.map (·.1)).zip vs).toArray := by
    rw [← evs_parts ha hx]; simp
  have hzs' := Nat.eq_of_beq_eq_true hzs
  have hzero : ∀ (zc : Array Value), (len * sz = 0 → zc = #[]) → (len * sz ≠ 0 → zc = z.cells) → (Array.range (len * sz)).map (fun i => zc[i % zc.size]!) = (zerosL z.cells.toList (len * sz)).toArray := by
    intro zc hc1 hc2
    by_cases h0 : len * sz = 0
    · simp [h0, zerosL, Array.range]
    · rw [hc2 h0]
      apply Array.ext'
      simp only [Array.toList_map, Array.toList_range, zerosL]
      apply List.map_congr_left
      intro i hi
      have hpos : 0 < z.cells.size := by
        rw [hzs']; exact Nat.pos_of_ne_zero fun h => h0 (by rw [h, Nat.mul_zero])
      have hlt : i % z.cells.size < z.cells.size := Nat.mod_lt _ hpos
      simp [hlt, List.getD]
  have hf := fill_fillL _ _ _ hfill
  refine .inl ⟨_, { w with heap := w.heap.push (.cells cs'.toArray e) }, ?_, Ext.push _ _ _, w.heap.size, rfl, Nat.le_refl _, Blk.push w e cs'⟩
  have hrun : (Instr.buildSlice t len ((ps.map (·.1)).zip vs).toArray).run P w = .ok (.slice (some ⟨w.heap.size, 0, none⟩) len len) { w with heap := w.heap.push (.cells cs'.toArray e) } := by
    by_cases h0 : len * sz = 0
    · have hz0 := hzero #[] (fun _ => rfl) (fun h => absurd h0 h)
      rw [h0] at hz0 hf h1
      simp only [Instr.buildSlice, Sem.run_bind, run_und ht, Result.andThen_ok, run_szOf hsz, h0, h1, if_false, Sem.run_pure, if_true]
      rw [hz0]
      simp only [hf, newRow, Sem.run_bind, run_newObj, Result.andThen_ok, Sem.run_pure]
    · have hz0 := hzero z.cells (fun h => absurd h h0) (fun _ => rfl)
      simp only [Instr.buildSlice, Sem.run_bind, run_und ht, Result.andThen_ok, run_szOf hsz, h1, if_false, Sem.run_pure, h0, run_zero hz]
      simp only [hz0, hf, newRow, Sem.run_bind, run_newObj, Result.andThen_ok, Sem.run_pure]
  simp only [execOp, ho, h2, Sem.run_bind, hrun, Result.andThen_ok, Sem.run_pure]

/-! ### Bytes and strings -/

def bytesV (l : List UInt8) : List Value := l.map fun b => .int .u8 (b.toNat : Int)

theorem bytesV_length (l : List UInt8) : (bytesV l).length = l.length := by simp [bytesV]
theorem bytesV_append (a b : List UInt8) : bytesV (a ++ b) = bytesV a ++ bytesV b := by simp [bytesV]
theorem bytesV_one (l : List UInt8) : ∀ u ∈ bytesV l, u.oneCell' = true := fun u hu => by
  obtain ⟨b, _, rfl⟩ := List.mem_map.1 hu; rfl


theorem source_string {tx : TypeId} {s : List UInt8} (hk : P.underlying tx = some .string) : Src P 1 tx (.string ⟨s.toArray⟩) s.length (bytesV s) w := by
  have h := Src.ofString w hk ⟨s.toArray⟩
  rw [show (ByteArray.mk s.toArray).size = s.length by simp [ByteArray.size]] at h
  exact h
theorem rp_buildA {t e : TypeId} {m sz : Nat} {z : Value} {ps : List (Nat × Operand)} {vs cs' : List Value} (ho : o.op = .build t ps.toArray) (ht : P.underlying t = some (.array m e)) (hsz : szOf P e = some sz) (hz : zrOf P t = some z)
    (hx : evs E (ps.map (·.2)) = some vs) (hfill : fillL (fun i => some (i * sz, sz)) z.cells.toList ((ps.map (·.1)).zip vs) = some cs') : RunP P n E o (.agg cs'.toArray) := by
  intro a u ha
  have h2 : ps.toArray.map (fun (i, x) => (i, a.eval x)) = ((ps.map (·.1)).zip vs).toArray := by
    rw [← evs_parts ha hx]; simp
  have hf := fill_fillL _ _ _ hfill
  simp only [Array.toArray_toList] at hf
  simp only [execOp, ho, h2, Instr.build, Sem.run_bind, run_zero hz, run_und ht, run_szOf hsz, Result.andThen_ok, hf, Sem.run_pure]

/-- Where a struct's fields lie. -/
def placesOf (P : Program) (t : TypeId) : Option (List (Nat × Nat)) :=
  match P.underlying t with
  | some (.struct fs) => fs.toList.mapM fun f => (szOf P f.type).map fun m => (f.offset, m)
  | _ => none

theorem run_places {fs : List Field} {l : List (Nat × Nat)} (w : World) (h : fs.mapM (fun f => (szOf P f.type).map fun m => (f.offset, m)) = some l) :
    (fs.mapM (m := Sem) (fun f => do pure (f.offset, ← sizeOf f.type))).run P w = .ok l w := by
  induction fs generalizing l with
  | nil => simp at h; simp [h]
  | cons f r ih =>
    simp only [List.mapM_cons, Option.bind_eq_bind, Option.pure_def] at h
    cases hs : szOf P f.type with
    | none => rw [hs] at h; simp at h
    | some m =>
      rw [hs] at h
      simp only [Option.map_some, Option.bind_some] at h
      cases hr : r.mapM (fun f => (szOf P f.type).map fun m => (f.offset, m)) with
      | none => rw [hr] at h; simp at h
      | some l' =>
        rw [hr] at h
        simp only [Option.bind_some, Option.some.injEq] at h
        subst h
        simp only [List.mapM_cons, Sem.run_bind, run_szOf hs, Result.andThen_ok, Sem.run_pure, ih hr]

theorem rp_buildS {t : TypeId} {l : List (Nat × Nat)} {z : Value} {ps : List (Nat × Operand)} {vs cs' : List Value} (ho : o.op = .build t ps.toArray) (hp : placesOf P t = some l) (hz : zrOf P t = some z)
    (hx : evs E (ps.map (·.2)) = some vs) (hfill : fillL (fun (i : Nat) => l[i]?) z.cells.toList ((ps.map (·.1)).zip vs) = some cs') : RunP P n E o (.agg cs'.toArray) := by
  intro a u ha
  have h2 : ps.toArray.map (fun (i, x) => (i, a.eval x)) = ((ps.map (·.1)).zip vs).toArray := by
    rw [← evs_parts ha hx]; simp
  unfold placesOf at hp
  split at hp
  · rename_i fs hfs
    have hm := run_places (P := P) u hp
    have hma : (fs.mapM (m := Sem) (fun f => do pure (f.offset, ← sizeOf f.type))).run P u = .ok l.toArray u := by
      have harr : fs = fs.toList.toArray := by simp
      rw [harr, List.mapM_toArray, Sem.run_map, hm]
      rfl
    have hf := fill_fillL _ _ _ hfill
    simp only [Array.toArray_toList] at hf
    have hpl : (fun (i : Nat) => l.toArray[i]?) = fun (i : Nat) => l[i]? := by funext i; simp
    simp only [execOp, ho, h2, Instr.build, Sem.run_bind, run_zero hz, run_und hfs, Result.andThen_ok, hma, hpl, hf, Sem.run_pure]
  · cases hp

theorem rp_field {t : TypeId} {x : Operand} {i : Nat} {ft off : Nat} {cs : Array Value} {v : Value} (ho : o.op = .field t x i) (hf' : fieldOf P t i = some (ft, off)) (hx : ev E x = some (.agg cs)) (ha' : aggOf P ft = some false) (hv : cs[off]? = some v) : RunP P n E o v := by
  intro a u ha
  obtain ⟨fs, g, h1, h2, h3, h4⟩ := fieldOf_some hf'
  subst h3; subst h4
  simp [execOp, ho, ha.eval hx, Instr.field, run_und h1, h2, asAgg, part, run_agg ha', hv]
theorem rp_fieldA {t : TypeId} {x : Operand} {i : Nat} {ft off m : Nat} {cs : Array Value} (ho : o.op = .field t x i) (hf' : fieldOf P t i = some (ft, off)) (hx : ev E x = some (.agg cs)) (ha' : aggOf P ft = some true) (hm : szOf P ft = some m) : RunP P n E o (.agg (cs.extract off (off + m))) := by
  intro a u ha
  obtain ⟨fs, g, h1, h2, h3, h4⟩ := fieldOf_some hf'
  subst h3; subst h4
  simp [execOp, ho, ha.eval hx, Instr.field, run_und h1, h2, asAgg, part, run_agg ha', run_szOf hm]
theorem rp_capS {x : Operand} {t e : TypeId} {p : Option Addr} {len cap : Nat} (ho : o.op = .call { callee := .builtin .cap, args := #[x], argTypes := #[t] }) (ht : P.underlying t = some (.slice e)) (hx : ev E x = some (.slice p len cap)) :
    RunP P n E o (.int .i64 cap) := by
  intro f u hf; simp [execOp, ho, resolve, invoke, builtin, hf.eval hx, Builtin.cap_, run_und ht, goInt]
theorem rp_convS {s t : TypeId} {x : Operand} {b : ByteArray} {d : TypeDesc} (ho : o.op = .convert s t x) (hs : P.underlying s = some d) (ht : P.underlying t = some .string) (hx : ev E x = some (.string b)) : RunP P n E o (.string b) := by
  intro f u hf; simp [execOp, ho, hf.eval hx, convert, run_und hs, run_und ht]

/-- string(b). -/
theorem rv_bytes {s t e : TypeId} {x : Operand} {p : Option Addr} {len cap : Nat} {l : List UInt8} (ho : o.op = .convert s t x) (hs : P.underlying s = some (.slice e)) (he : P.underlying e = some (.int .u8)) (ht : P.underlying t = some .string)
    (hx : ev E x = some (.slice p len cap)) (hl : l.length = len) (hp : 0 < len → p = some A) (h : ∀ u, Ext X w u → Cells u A (bytesV l)) : RunV P n E o X w (.string ⟨l.toArray⟩) := by
  intro a u hu ha
  have hc := h u hu
  cases p with
  | none =>
    have h0 : len = 0 := by
      rcases Nat.eq_zero_or_pos len with h1 | h1
      · exact h1
      · cases hp h1
    have hn : l = [] := List.eq_nil_of_length_eq_zero (by omega)
    subst hn
    simp [execOp, ho, ha.eval hx, convert, run_und hs, run_und he, run_und ht, Conv.bytesToString]
    rfl
  | some a0 =>
    have hr : (convert s t (.slice (some a0) len cap)).run P u = .ok (.string ⟨l.toArray⟩) u := by
      rcases Nat.eq_zero_or_pos len with h1 | h1
      · have hn : l = [] := List.eq_nil_of_length_eq_zero (by omega)
        subst hn
        have := run_convert_bytes_back (P := P) u s t e a0 cap [] hs he ht (fun j hj => absurd hj (by simp))
        simpa [h1] using this
      · have hA := hp h1
        simp only [Option.some.injEq] at hA
        subst hA
        have := run_convert_bytes_back (P := P) u s t e a0 cap l hs he ht (fun j hj => hc j _ (by simp [bytesV, hj]))
        rw [hl] at this
        exact this
    simp [execOp, ho, ha.eval hx, hr]

/-- []byte(s). -/
theorem acts_bytes {s t e : TypeId} {x : Operand} {b : ByteArray} (ho : o.op = .convert s t x) (hs : P.underlying s = some .string) (ht : P.underlying t = some (.slice e)) (he : P.underlying e = some (.int .u8)) (hx : ev E x = some (.string b)) :
    Acts P n ds E o w (fun v w' => Ext [] w w' ∧ ∃ g cap, v = .slice (some ⟨g, 0, none⟩) b.data.toList.length cap ∧ w.heap.size ≤ g ∧ b.data.toList.length ≤ cap ∧ Cells w' ⟨g, 0, none⟩ (bytesV b.data.toList)) Q := by
  intro a ha _
  have hr := run_bytes_of_string (P := P) w s t e b hs ht he
  have hsz : b.size = b.data.toList.length := by rw [Array.length_toList]; rfl
  refine .inl ⟨.slice (some ⟨w.heap.size, 0, none⟩) b.size (grownCap w b.size 0 e), _, by simp only [execOp, ho, ha.eval hx, Sem.run_bind, hr, Result.andThen_ok, Sem.run_pure]; rfl, ?_, w.heap.size, grownCap w b.size 0 e, congrArg (fun k => Value.slice _ k _) hsz, Nat.le_refl _, ?_, ?_⟩
  · exact ⟨rfl, rfl, rfl, by simp [World.alloc], fun k hk _ => Go.heap_alloc_old w.drew _ hk, Nat.le_succ _⟩
  · rw [← hsz]; exact grownCap_ge w b.size 0 e
  · intro i v hi
    have hadd : (⟨w.heap.size, 0, none⟩ : Addr).add i = ⟨w.heap.size, i, none⟩ := addr_lit _ i
    rw [hadd]
    have := World.cell?_alloc_mark w.drew (bytesRow b (grownCap w b.size 0 e)) e ((bytesRow b (grownCap w b.size 0 e)).size, (bytesRow b (grownCap w b.size 0 e)).size + 1) i
    have hlt : i < b.data.size := by
      simp only [bytesV, List.getElem?_map] at hi
      rcases Nat.lt_or_ge i b.data.toList.length with h1 | h1
      · simpa using h1
      · rw [List.getElem?_eq_none h1] at hi; cases hi
    refine Eq.trans this ?_
    rw [bytesRow_at b _ i hlt]
    have hl2 : b.data.toList[i]? = some b[i] := by rw [Array.getElem?_toList, Array.getElem?_eq_getElem hlt]; rfl
    rw [bytesV, List.getElem?_map, hl2] at hi
    exact hi

end
end Go.Eng
