/- Texts of one proof, put together: EngM, EngT, EngS, EngU. -/
import Derived.Deep.AppendSrc
import Derived.Laws.CopyOwn
import Derived.Laws.IdiomStrings
import Derived.Laws.MakeOwn
import Derived.Laws.BytesString
import Derived.KernelRfl
import Derived.Laws.StructEq
import Derived.Maps.RangeRun
import Derived.Test.YtfgckcochilpkaaW1P0
/- The engine, part five: memory. Cells at an address; rows of the call's own; what allocates, loads, stores, appends, copies, calls. -/
set_option linter.unusedVariables false
set_option linter.unusedSimpArgs false
namespace Go.Eng
open Go

/-- The cells from A on. -/
def Cells (w : World) (A : Addr) (cs : List Value) : Prop := ∀ i v, cs[i]? = some v → w.cell? (A.add i) = some v

section
variable {P : Program} {n : Nat} {ds : List Deferred} {ops : List Oper} {Q : PostE} {E : Env} {w w' : World} {o : Oper} {l : List Oper} {A : Addr} {cs : List Value} {X : List Nat}

theorem addr_lit (b i : Nat) : (⟨b, 0, none⟩ : Addr).add i = ⟨b, i, none⟩ := by
  unfold Addr.add
  split
  · rename_i h; rw [h]
  · simp

theorem Cells.ext (h : Cells w A cs) (he : Ext X w w') (hx : A.block ∉ X) : Cells w' A cs := fun i v hi => he.cell (h i v hi) (by rw [addr_block]; exact hx)
theorem Cells.take (h : Cells w A cs) (k : Nat) : Cells w A (cs.take k) := fun i v hi => by
  rw [List.getElem?_take] at hi
  split at hi
  · exact h i v hi
  · cases hi
theorem Cells.ext0 (h : Cells w A cs) (he : Ext [] w w') : Cells w' A cs := h.ext he (by simp)
theorem Cells.part (h : Cells w A cs) {off m : Nat} {cs' : List Value} (hc : (cs.drop off).take m = cs') : Cells w (A.add off) cs' := fun i v hi => by
  rw [addr_add_add]
  refine h (off + i) v ?_
  rw [← hc, List.getElem?_take] at hi
  split at hi
  · rw [List.getElem?_drop] at hi; exact hi
  · cases hi
theorem Cells.drop (h : Cells w A cs) (k : Nat) : Cells w (A.add k) (cs.drop k) := h.part (off := k) (m := (cs.drop k).length) (by rw [List.take_length])
theorem addr_add0 (A : Addr) : A.add 0 = A := by simp [Addr.add]
theorem cells_nil (w : World) (A : Addr) : Cells w A [] := fun i v hi => by simp at hi
theorem Cells.lt (h : Cells w A cs) (hne : cs ≠ []) : A.block < w.heap.size := by
  cases cs with
  | nil => exact absurd rfl hne
  | cons v r =>
    have := h 0 v rfl
    exact World.block_lt_of_cell? w A (by simpa [Addr.add] using this)

/-! ### Loads -/

theorem ld_cell {t : TypeId} {v : Value} (ht : aggOf P t = some false) (hc : w.cell? A = some v) : Ld P w t A v := by
  simp [Ld, loadVar, run_agg ht, hc]
theorem ld_agg {t : TypeId} (ht : aggOf P t = some true) (hm : szOf P t = some cs.length) (hc : Cells w A cs) : Ld P w t A (.agg cs.toArray) := by
  have := run_loadCells_list (P := P) w A cs (fun j v hj => hc j v hj)
  simp [Ld, loadVar, run_agg ht, run_szOf hm, this]

theorem Cells.ld {t : TypeId} {v : Value} (h : Cells w A cs) (off : Nat) (ht : aggOf P t = some false) (hi : cs[off]? = some v) : Ld P w t (A.add off) v := ld_cell ht (h off v hi)
theorem Cells.ld0 {t : TypeId} {v : Value} (h : Cells w A cs) (ht : aggOf P t = some false) (hi : cs[0]? = some v) : Ld P w t A v := ld_cell ht (by simpa [Addr.add] using h 0 v hi)
theorem Cells.ldA {t : TypeId} (h : Cells w A cs) (ht : aggOf P t = some true) (hm : szOf P t = some cs.length) : Ld P w t A (.agg cs.toArray) := ld_agg ht hm h
theorem Cells.ldL {t m : TypeId} (h : Cells w A cs) (ht : aggOf P t = some true) (hm : szOf P t = some m) (hl : cs.length = m) : Ld P w t A (.agg cs.toArray) := ld_agg ht (hl ▸ hm) h
theorem Cells.ldP {t m : TypeId} {cs' : List Value} (h : Cells w A cs) (off : Nat) (ht : aggOf P t = some true) (hm : szOf P t = some m) (hc : (cs.drop off).take m = cs') (hl : cs'.length = m) : Ld P w t (A.add off) (.agg cs'.toArray) :=
  ld_agg ht (by rw [hm, hl]) (h.part hc)

theorem Cells.l1 {u : World} {t : TypeId} {v : Value} (h : Cells w A cs) (he : Ext [] w u) (off : Nat) (ht : aggOf P t = some false) (hi : cs[off]? = some v) : Ld P u t (A.add off) v := (h.ext0 he).ld off ht hi
theorem Cells.l0 {u : World} {t : TypeId} {v : Value} (h : Cells w A cs) (he : Ext [] w u) (ht : aggOf P t = some false) (hi : cs[0]? = some v) : Ld P u t A v := (h.ext0 he).ld0 ht hi
theorem Cells.lA {u : World} {t : TypeId} (h : Cells w A cs) (he : Ext [] w u) (ht : aggOf P t = some true) (hm : szOf P t = some cs.length) : Ld P u t A (.agg cs.toArray) := (h.ext0 he).ldA ht hm
theorem Cells.lL {u : World} {t m : TypeId} (h : Cells w A cs) (he : Ext [] w u) (ht : aggOf P t = some true) (hm : szOf P t = some m) (hl : cs.length = m) : Ld P u t A (.agg cs.toArray) := (h.ext0 he).ldL ht hm hl
theorem Cells.lP {u : World} {t m : TypeId} {cs' : List Value} (h : Cells w A cs) (he : Ext [] w u) (off : Nat) (ht : aggOf P t = some true) (hm : szOf P t = some m) (hc : (cs.drop off).take m = cs') (hl : cs'.length = m) : Ld P u t (A.add off) (.agg cs'.toArray) := (h.ext0 he).ldP off ht hm hc hl

theorem rv_load {t : TypeId} {x : Operand} {v : Value} (ho : o.op = .load t x) (hx : ev E x = some (.pointer (some A))) (h : ∀ u, Ext X w u → Ld P u t A v) : RunV P n E o X w v := by
  intro a u hu ha
  have := h u hu
  unfold Ld at this
  simp [execOp, ho, ha.eval hx, Instr.loadAt, Instr.sureAddr, this]

/-! ### New memory -/

/-- A block is known whole. -/
def Blk (w : World) (b : Nat) (t : TypeId) (cs : List Value) : Prop := w.heap[b]? = some (.cells cs.toArray t (0, 0))

theorem Blk.cells {b : Nat} {t : TypeId} (h : Blk w b t cs) : Cells w ⟨b, 0, none⟩ cs := fun i v hi => by
  have hadd : (⟨b, 0, none⟩ : Addr).add i = ⟨b, i, none⟩ := by unfold Addr.add; split <;> simp_all
  rw [hadd]
  unfold Blk at h
  simp [World.cell?, h, hi]
theorem Blk.ext {b : Nat} {t : TypeId} (h : Blk w b t cs) (he : Ext X w w') (hx : b ∉ X) : Blk w' b t cs := by
  unfold Blk at *
  have hlt : b < w.heap.size := by
    rcases Nat.lt_or_ge b w.heap.size with h1 | h1
    · exact h1
    · rw [Array.getElem?_eq_none h1] at h; cases h
  rw [he.keep b hlt hx]; exact h
theorem Blk.lt {b : Nat} {t : TypeId} (h : Blk w b t cs) : b < w.heap.size := by
  rcases Nat.lt_or_ge b w.heap.size with h1 | h1
  · exact h1
  · unfold Blk at h; rw [Array.getElem?_eq_none h1] at h; cases h
theorem Blk.push (w : World) (t : TypeId) (cs : List Value) : Blk { w with heap := w.heap.push (.cells cs.toArray t) } w.heap.size t cs := by simp [Blk]

/-- A new block, and where it lies. -/
abbrev NewBlk (w : World) (t : TypeId) (cs : List Value) : Value → World → Prop := fun v w' => Ext [] w w' ∧ ∃ b, v = .pointer (some ⟨b, 0, none⟩) ∧ w.heap.size ≤ b ∧ Blk w' b t cs

theorem acts_box {t : TypeId} {x : Operand} {v : Value} (ho : o.op = .box t x) (hx : ev E x = some v) : Acts P n ds E o w (NewBlk w t v.cells.toList) Q := by
  intro a ha _
  refine .inl ⟨_, { w with heap := w.heap.push (.cells v.cells t) }, ?_, Ext.push _ _ _, w.heap.size, rfl, Nat.le_refl _, ?_⟩
  · simp [execOp, ho, ha.eval hx, Instr.box, newVar, newRow]
  · have := Blk.push w t v.cells.toList
    simpa using this
theorem acts_alloc {t : TypeId} {z : Value} (ho : o.op = .alloc t) (hz : zrOf P t = some z) : Acts P n ds E o w (NewBlk w t z.cells.toList) Q := by
  intro a ha _
  refine .inl ⟨_, { w with heap := w.heap.push (.cells z.cells t) }, ?_, Ext.push _ _ _, w.heap.size, rfl, Nat.le_refl _, ?_⟩
  · simp [execOp, ho, Instr.alloc, run_zero hz, newVar, newRow]
  · have := Blk.push w t z.cells.toList
    simpa using this

/-! ### Stores into a block that is known whole -/

/-- cs with the cells from off on written over. -/
def over (cs : List Value) (off : Nat) (news : List Value) : List Value := cs.take off ++ news ++ cs.drop (off + news.length)

theorem over_length {off : Nat} {news : List Value} (h : off + news.length ≤ cs.length) : (over cs off news).length = cs.length := by simp [over]; omega

theorem setRow_ext (w : World) (b : Nat) (c : Array Value) (hX : b ∈ X) : Ext X w (w.setRow b c) :=
  ⟨rfl, rfl, rfl, by simp, fun k _ hk => setRow_other w b k _ (fun e => hk (e ▸ hX)), Nat.le_refl _⟩

theorem acts_store {t : TypeId} {x y : Operand} {v : Value} {b off : Nat} {bt : TypeId} (ho : o.op = .store t x y) (hx : ev E x = some (.pointer (some A))) (hA : A = (⟨b, 0, none⟩ : Addr).add off) (hy : ev E y = some v)
    (hm : szOf P t = some v.cells.size) (hB : Blk w b bt cs) (hfit : off + v.cells.size ≤ cs.length) (h1 : ∀ u ∈ v.cells.toList, u.oneCell' = true) :
    Acts P n ds E o w (fun u w' => u = undef ∧ Ext [b] w w' ∧ Blk w' b bt (over cs off v.cells.toList)) Q := by
  intro a ha _
  have hadd : A = ⟨b, off, none⟩ := by rw [hA]; unfold Addr.add; split <;> simp_all
  have hst := run_storeCells_at P b off bt v.cells.toList 0 cs.toArray w hB (by simpa using hfit) h1
  simp only [Nat.add_zero] at hst
  refine .inr (.inl ⟨w.setRow b (cs.take off ++ v.cells.toList ++ cs.drop (off + v.cells.toList.length)).toArray, ?_, rfl, setRow_ext w b _ (by simp), ?_⟩)
  · simp only [execOp, ho, ha.eval hx, ha.eval hy, Instr.storeAt, Instr.sureAddr, storeVar, Sem.run_bind, Sem.run_pure, Result.andThen_ok, run_szOf hm, ne_eq, not_true_eq_false, if_false, hadd, hst]
  · unfold Blk over
    have := setRow_heap w b cs.toArray (cs.take off ++ v.cells.toList ++ cs.drop (off + v.cells.toList.length)).toArray bt _ hB
    simpa using this

theorem over_all {news : List Value} (h : cs.length = news.length) : over cs 0 news = news := by simp [over, h]
/-- A whole block is written over. -/
theorem acts_store_all {t : TypeId} {x y : Operand} {v : Value} {b m : Nat} {bt : TypeId} (ho : o.op = .store t x y) (hx : ev E x = some (.pointer (some ⟨b, 0, none⟩))) (hy : ev E y = some v)
    (hB : Blk w b bt cs) (hm : szOf P t = some m) (hl : v.cells.size = m) (hcs : cs.length = m) (h1 : ∀ u ∈ v.cells.toList, u.oneCell' = true) :
    Acts P n ds E o w (fun u w' => u = undef ∧ Ext [b] w w' ∧ Blk w' b bt v.cells.toList) Q := by
  have h := acts_store (Q := Q) (ds := ds) (n := n) (off := 0) ho hx (addr_lit b 0).symm hy (hl ▸ hm) hB (by omega) h1
  rwa [over_all (by simp; omega)] at h
theorem Blk.cellsL {b : Nat} {t : TypeId} {c : List Value} (h : Blk w b t (Value.agg c.toArray).cells.toList) : Cells w ⟨b, 0, none⟩ c := h.cells
/-- What a new block's writing over leaves alone. -/
theorem Ext.renew {w0 : World} {b : Nat} (h0 : Ext [] w0 w) (h : Ext [b] w w') (hb : w0.heap.size ≤ b) : Ext [] w0 w' :=
  (h0.up.trans h).fresh (fun k hk => by simp at hk; omega)

/-! ### Slices -/

/-- A slice whose elements take sz cells each: n of them, the cells cs. -/
def Sl (w : World) (p : Option Addr) (A : Addr) (len : Nat) (cs : List Value) : Prop := (0 < len → p = some A) ∧ Cells w A cs

theorem Sl.ext0 {p : Option Addr} {len : Nat} (h : Sl w p A len cs) (he : Ext [] w w') : Sl w' p A len cs := ⟨h.1, h.2.ext0 he⟩

/-- What a source of append or copy yields. -/
structure Source (P : Program) (size : Nat) (tx : TypeId) (x : Value) (m : Nat) (news : List Value) (w : World) : Prop where
  src : Src P size tx x m news w

theorem source_slice {size : Nat} {tx e' : TypeId} {p : Option Addr} {m c : Nat} {news : List Value} (hk : P.underlying tx = some (.slice e')) (hl : news.length = m * size) (hp : 0 < m → p = some A) (hc : Cells w A news) (h1 : ∀ u ∈ news, u.oneCell' = true) :
    Src P size tx (.slice p m c) m news w := by
  rcases Nat.eq_zero_or_pos m with h0 | h0
  · subst h0
    have hn : news = [] := List.eq_nil_of_length_eq_zero (by simpa using hl)
    subst hn
    cases p with
    | none => exact Src.ofNil w hk c
    | some a => exact Src.ofSlice w hk a 0 c [] (by simp) (by simp) (by simp)
  · rw [hp h0]
    exact Src.ofSlice w hk A m c news hl hc h1

/-- append onto a row of the call's own. -/
theorem run_append_src (base : Nat) (t tx ty e : TypeId) (i : TypeInfo) (z : Value) (size bytes : Nat) (ht : P.underlying t = some (.slice e)) (hi : P.info? e = some i) (hz : i.zero = some z)
    (hsize : i.size = size) (hby : i.bytes = bytes) (hzs : z.cells.size = size) (hsz : 0 < size)
    (v : Value) (m : Nat) (xs : List Value) (k : Nat) (hown : w.ownsRow base e size v k xs)
    (x : Value) (news : List Value) (hs : Src P size tx x m news w)
    (h63 : k + m ≤ maxLen) (hbytes : (k + m) * bytes ≤ 140737488355328) (hbase : base ≤ w.heap.size) :
    ∃ v' w', (Builtin.append_ #[t, tx] ty #[v, x]).run P w = .ok v' w' ∧ w'.ownsRow base e size v' (k + m) (xs ++ news) ∧ Ext v.ownBlock.toList w w' ∧
      (v'.ownBlock = v.ownBlock ∨ v'.ownBlock = some w.heap.size) := by
  subst hsize
  subst hby
  have hl := hs.newsLen
  have hsmall : k + m ≤ 9223372036854775807 := by simp only [maxLen] at h63; omega
  have hlen : (xs ++ news).length = (k + m) * i.size := by rw [List.length_append, hown.1, hl, Nat.add_mul]
  have grown : ∀ (old : Nat), old < k + m → ∀ (row : Option Nat),
      (w.drew.alloc (.cells ((xs ++ news).toArray ++ Builtin.zeroCells z.cells (grownCap w (k + m) old e - (k + m))) e)).ownsRow base e i.size
        (.slice (some ⟨w.heap.size, 0, none⟩) (k + m) (grownCap w (k + m) old e)) (k + m) (xs ++ news) ∧
      Ext row.toList w (w.drew.alloc (.cells ((xs ++ news).toArray ++ Builtin.zeroCells z.cells (grownCap w (k + m) old e - (k + m))) e)) := by
    intro old ho row
    have hge := grownCap_ge w (k + m) old e
    have hcm : grownCap w (k + m) old e ≤ maxLen := grownCap_le_maxLen w (k + m) old e h63
    refine ⟨⟨hlen, .inr ⟨w.heap.size, _, _, rfl, hbase, heap_alloc_new w.drew _, hge, hcm, ?_, ?_⟩⟩, ⟨rfl, rfl, rfl, by simp, fun j hk _ => Go.heap_alloc_old w.drew _ hk, Nat.le_succ _⟩⟩
    · simp only [Array.size_append, List.size_toArray, size_zeroCells, hzs]
      rw [hlen, ← Nat.add_mul]
      congr 1
      omega
    · simp only [Array.toList_append, ← hlen]
      exact List.take_left
  rcases hown.2 with ⟨rfl, rfl⟩ | ⟨g, cap, cur, rfl, hbg, hg, hnc, hcm, hcs, htake⟩
  · have hx : xs = [] := List.eq_nil_of_length_eq_zero (by simpa using hown.1)
    subst hx
    by_cases hm : m = 0
    · subst hm
      have hn : news = [] := List.eq_nil_of_length_eq_zero (by simpa using hl)
      subst hn
      refine ⟨.slice none 0 0, w, ?_, World.ownsRow_nil w base e i.size, ⟨rfl, rfl, rfl, Nat.le_refl _, fun _ _ _ => rfl, Nat.le_refl _⟩, .inl rfl⟩
      have hs' := hs.cells
      rcases hs.kind with ⟨e', hk⟩ | hk <;>
        simp [Builtin.append_, run_underlying ht, run_underlying hk, sizeOf, typeInfo, hi, hs.len, hs']
    · have hr := run_append_grow_src (P := P) w t tx ty e i z ht hi hz none 0 0 [] (run_firstCells_none w.drew i.size 0 0 0) x m news hs (by omega) (by omega) (growslice_fits (by omega) (by simpa using hbytes))
      have hgr := grown 0 (by omega) (Value.ownBlock (.slice none 0 0))
      exact ⟨_, _, hr, hgr.1, hgr.2, .inr rfl⟩
  · by_cases hroom : k + m ≤ cap
    · have hfit : k * i.size + news.length ≤ cur.size := by rw [hl, hcs, ← Nat.add_mul]; exact Nat.mul_le_mul_right _ hroom
      have hst := run_storeCells_at P g (k * i.size) e news 0 cur w hg (by simpa using hfit) hs.one
      simp only [Nat.add_zero] at hst
      have hr : (Builtin.append_ #[t, tx] ty #[.slice (some ⟨g, 0, none⟩) k cap, x]).run P w =
          .ok (.slice (some ⟨g, 0, none⟩) (k + m) cap) (w.setRow g (cur.toList.take (k * i.size) ++ news ++ cur.toList.drop (k * i.size + news.length)).toArray) := by
        have hs' := hs.cells
        rcases hs.kind with ⟨e', hk⟩ | hk <;>
          simp [Builtin.append_, run_underlying ht, run_underlying hk, sizeOf, typeInfo, hi, hs.len, hroom, hs', Addr.add_lit, hst]
      refine ⟨_, _, hr, ⟨hlen, .inr ⟨g, cap, _, rfl, hbg, setRow_heap w g cur _ e _ hg, hroom, hcm, ?_, ?_⟩⟩, ⟨rfl, rfl, rfl, by simp, fun j _ hk => setRow_other w g j _ (fun e => hk (by simp [Value.ownBlock, e])), Nat.le_refl _⟩, .inl rfl⟩
      · simp only [List.size_toArray, List.length_append, List.length_take, List.length_drop, Array.length_toList]
        omega
      · rw [htake, ← hlen]
        exact List.take_left
    · have hold : (Builtin.firstCells i.size k (.slice (some ⟨g, 0, none⟩) k cap)).run P w.drew = .ok xs.toArray w.drew :=
        run_firstCells_some w.drew i.size k ⟨g, 0, none⟩ k cap xs hown.1 (by
          have := hown.cells (g := g) rfl
          simpa using this)
      have hr := run_append_grow_src (P := P) w t tx ty e i z ht hi hz (some ⟨g, 0, none⟩) k cap xs hold x m news hs (by omega) (by omega) (growslice_fits (by omega) hbytes)
      have hgr := grown cap (by omega) (Value.ownBlock (.slice (some ⟨g, 0, none⟩) k cap))
      exact ⟨_, _, hr, hgr.1, hgr.2, .inr rfl⟩

/-- append onto whatever slice that is full: a new row (or the same slice, where nothing is appended). -/
theorem run_append_full (base : Nat) (t tx ty e : TypeId) (i : TypeInfo) (z : Value) (size bytes : Nat) (ht : P.underlying t = some (.slice e)) (hi : P.info? e = some i) (hz : i.zero = some z)
    (hsize : i.size = size) (hby : i.bytes = bytes) (hzs : z.cells.size = size)
    (p : Option Addr) (k : Nat) (xs : List Value) (hp : 0 < k → p = some A) (hl : xs.length = k * size) (hxs : Cells w A xs)
    (x : Value) (m : Nat) (news : List Value) (hs : Src P size tx x m news w) (hm : 0 < m)
    (h63 : k + m ≤ maxLen) (hbytes : (k + m) * bytes ≤ 140737488355328) (hbase : base ≤ w.heap.size) :
    ∃ v' w', (Builtin.append_ #[t, tx] ty #[.slice p k k, x]).run P w = .ok v' w' ∧ w'.ownsRow base e size v' (k + m) (xs ++ news) ∧ Ext [] w w' ∧ v'.ownBlock = some w.heap.size := by
  subst hsize
  subst hby
  have hnl := hs.newsLen
  have hsmall : k + m ≤ 9223372036854775807 := by simp only [maxLen] at h63; omega
  have hlen : (xs ++ news).length = (k + m) * i.size := by rw [List.length_append, hl, hnl, Nat.add_mul]
  have hold : (Builtin.firstCells i.size k (.slice p k k)).run P w.drew = .ok xs.toArray w.drew := by
    rcases Nat.eq_zero_or_pos k with h0 | h0
    · subst h0
      have hn : xs = [] := List.eq_nil_of_length_eq_zero (by simpa using hl)
      subst hn
      cases p with
      | none => exact run_firstCells_none w.drew i.size 0 0 0
      | some a => exact run_firstCells_some w.drew i.size 0 a 0 0 [] (by simp) (by simp)
    · rw [hp h0]
      exact run_firstCells_some w.drew i.size k A k k xs hl (by
        have := hxs
        unfold Cells at this
        simpa using this)
  have hr := run_append_grow_src (P := P) w t tx ty e i z ht hi hz p k k xs hold x m news hs (by omega) (by omega) (growslice_fits (by omega) hbytes)
  have hge := grownCap_ge w (k + m) k e
  have hcm : grownCap w (k + m) k e ≤ maxLen := grownCap_le_maxLen w (k + m) k e h63
  refine ⟨_, _, hr, ⟨hlen, .inr ⟨w.heap.size, _, _, rfl, hbase, heap_alloc_new w.drew _, hge, hcm, ?_, ?_⟩⟩, ⟨rfl, rfl, rfl, by simp, fun j hk _ => Go.heap_alloc_old w.drew _ hk, Nat.le_succ _⟩, rfl⟩
  · simp only [Array.size_append, List.size_toArray, size_zeroCells, hzs]
    rw [hlen, ← Nat.add_mul]
    congr 1
    omega
  · simp only [Array.toList_append, ← hlen]
    exact List.take_left

/-- The facts of an element type, in one. -/
def elemOK (P : Program) (t e : TypeId) (size bytes : Nat) : Bool :=
  match P.underlying t, P.info? e with
  | some (.slice e'), some i => Nat.beq e' e && Nat.beq i.size size && Nat.beq i.bytes bytes && Nat.blt 0 size && (match i.zero with | some z => Nat.beq z.cells.size size | none => false)
  | _, _ => false

theorem elemOK_spec {t e : TypeId} {size bytes : Nat} (h : elemOK P t e size bytes = true) : ∃ i z, P.underlying t = some (.slice e) ∧ P.info? e = some i ∧ i.zero = some z ∧ i.size = size ∧ i.bytes = bytes ∧ z.cells.size = size ∧ 0 < size := by
  unfold elemOK at h
  split at h
  · rename_i e' i h1 h2
    simp only [Bool.and_eq_true] at h
    obtain ⟨⟨⟨⟨h3, h4⟩, h5⟩, h6⟩, h7⟩ := h
    cases hz : i.zero with
    | none => rw [hz] at h7; cases h7
    | some z =>
      rw [hz] at h7
      have he := Nat.eq_of_beq_eq_true h3
      subst he
      exact ⟨i, z, h1, h2, hz, Nat.eq_of_beq_eq_true h4, Nat.eq_of_beq_eq_true h5, Nat.eq_of_beq_eq_true h7, by simpa [Nat.blt_eq] using h6⟩
  · cases h

/-- A row of the call's own has grown (or not): k elements, the cells xs; nothing but its block has changed; it lies where it lay, or in a new block. -/
structure Grew (base : Nat) (e : TypeId) (size : Nat) (w : World) (v : Value) (k : Nat) (xs : List Value) (v' : Value) (w' : World) : Prop where
  own : w'.ownsRow base e size v' k xs
  ext : Ext v.ownBlock.toList w w'
  at_ : v'.ownBlock = v.ownBlock ∨ ∃ g, v'.ownBlock = some g ∧ w.heap.size ≤ g

/-- The row is kept where something else happened. -/
theorem own_keep {base : Nat} {e : TypeId} {size : Nat} {v : Value} {k : Nat} {xs : List Value} (h : w.ownsRow base e size v k xs) (he : Ext X w w') (hv : ∀ g, v.ownBlock = some g → g ∉ X) : w'.ownsRow base e size v k xs := by
  refine ⟨h.1, ?_⟩
  rcases h.2 with hn | ⟨g, cap, cur, rfl, hb, hgg, rest⟩
  · exact .inl hn
  · exact .inr ⟨g, cap, cur, rfl, hb, (he.keep g (Array.getElem?_eq_some_iff.1 hgg).1 (hv g rfl)).trans hgg, rest⟩
theorem own_keep0 {base : Nat} {e : TypeId} {size : Nat} {v : Value} {k : Nat} {xs : List Value} (h : w.ownsRow base e size v k xs) (he : Ext [] w w') : w'.ownsRow base e size v k xs := own_keep h he (by simp)

theorem Grew.refl {base : Nat} {e : TypeId} {size : Nat} {v : Value} {k : Nat} {xs : List Value} (h : w.ownsRow base e size v k xs) : Grew base e size w v k xs v w := ⟨h, Ext.refl _ _, .inl rfl⟩
theorem Grew.trans {base : Nat} {e : TypeId} {size : Nat} {v v1 v2 : Value} {k k1 : Nat} {xs xs1 : List Value} {w1 w2 : World} (h : Grew base e size w v k xs v1 w1) (h2 : Grew base e size w1 v1 k1 xs1 v2 w2) : Grew base e size w v k1 xs1 v2 w2 := by
  refine ⟨h2.own, ⟨h2.ext.os.trans h.ext.os, h2.ext.tape.trans h.ext.tape, h2.ext.output.trans h.ext.output, Nat.le_trans h.ext.size h2.ext.size, fun j hj hx => ?_, Nat.le_trans h.ext.drawn h2.ext.drawn⟩, ?_⟩
  · refine (h2.ext.keep j (Nat.lt_of_lt_of_le hj h.ext.size) fun hm => ?_).trans (h.ext.keep j hj hx)
    rcases h.at_ with h3 | ⟨g, h3, h4⟩
    · rw [h3] at hm; exact hx hm
    · rw [h3] at hm; simp at hm; omega
  · rcases h2.at_ with h3 | ⟨g, h3, h4⟩
    · rw [h3]; exact h.at_
    · exact .inr ⟨g, h3, Nat.le_trans h.ext.size h4⟩
theorem Grew.step {base : Nat} {e : TypeId} {size : Nat} {v v1 : Value} {k : Nat} {xs : List Value} {w1 w2 : World} (h : Grew base e size w v k xs v1 w1) (he : Ext [] w1 w2) : Grew base e size w v k xs v1 w2 :=
  h.trans ⟨own_keep0 h.own he, he.up, .inl rfl⟩
/-- What lies below the base, or was made before and is not the row's own, stays. -/
theorem Grew.ext0 {base : Nat} {e : TypeId} {size : Nat} {v v' : Value} {k : Nat} {xs : List Value} {w0 : World} (h : Grew base e size w v k xs v' w') (he : Ext [] w0 w) (hv : ∀ g, v.ownBlock = some g → w0.heap.size ≤ g) : Ext [] w0 w' :=
  ⟨h.ext.os.trans he.os, h.ext.tape.trans he.tape, h.ext.output.trans he.output, Nat.le_trans he.size h.ext.size, fun j hj hx =>
    (h.ext.keep j (Nat.lt_of_lt_of_le hj he.size) fun hm => by
      cases hb : v.ownBlock with
      | none => rw [hb] at hm; simp at hm
      | some g => rw [hb] at hm; simp at hm; have := hv g hb; omega).trans (he.keep j hj hx), Nat.le_trans he.drawn h.ext.drawn⟩
theorem Grew.blk {base : Nat} {e : TypeId} {size : Nat} {v v' : Value} {k : Nat} {xs : List Value} (h : Grew base e size w v k xs v' w') : ∀ y, y ∈ v'.ownBlock.toList → y ∈ v.ownBlock.toList ∨ w.heap.size ≤ y := fun y hy => by
  rcases h.at_ with h1 | ⟨g, h1, h2⟩
  · rw [h1] at hy; exact .inl hy
  · rw [h1] at hy; simp at hy; exact .inr (by omega)
theorem own_lt {base : Nat} {e : TypeId} {size : Nat} {v : Value} {k : Nat} {xs : List Value} (h : w.ownsRow base e size v k xs) : ∀ y, y ∈ v.ownBlock.toList → base ≤ y ∧ y < w.heap.size := fun y hy => h.lt y (by simpa using hy)
theorem own_base {base base' : Nat} {e : TypeId} {size : Nat} {v : Value} {k : Nat} {xs : List Value} (h : w.ownsRow base e size v k xs) (hb : base' ≤ base) : w.ownsRow base' e size v k xs := by
  refine ⟨h.1, h.2.imp id ?_⟩
  rintro ⟨g, cap, cur, h1, h2, h3⟩
  exact ⟨g, cap, cur, h1, Nat.le_trans hb h2, h3⟩
/-- The row that has nothing yet. -/
abbrev nilS : Value := .slice none 0 0
theorem own_built {base : Nat} {e : TypeId} {size b len : Nat} {xs : List Value} (hB : Blk w b e xs) (hb : base ≤ b) (hl : xs.length = len * size) (hm : len ≤ 140737488355328) : w.ownsRow base e size (.slice (some ⟨b, 0, none⟩) len len) len xs :=
  ⟨hl, .inr ⟨b, len, xs.toArray, rfl, hb, hB, Nat.le_refl _, by unfold maxLen; omega, by simpa using hl, by simp [← hl]⟩⟩
theorem grew_built {base : Nat} {e : TypeId} {size b len : Nat} {xs : List Value} (he : Ext [] w w') (hB : Blk w' b e xs) (hb : w.heap.size ≤ b) (hbase : base ≤ w.heap.size) (hl : xs.length = len * size) (hm : len ≤ 140737488355328) :
    Grew base e size w nilS len xs (.slice (some ⟨b, 0, none⟩) len len) w' := ⟨own_built hB (by omega) hl hm, he, .inr ⟨b, rfl, hb⟩⟩
theorem grew_nil (base : Nat) (e : TypeId) (size : Nat) (w : World) : Grew base e size w nilS 0 [] nilS w := Grew.refl (World.ownsRow_nil w base e size)
/-- A row of one's own, read. -/
theorem own_sl {base : Nat} {e : TypeId} {size : Nat} {v : Value} {k : Nat} {xs : List Value} (h : w.ownsRow base e size v k xs) :
    ∃ p cap A, v = .slice p k cap ∧ Sl w p A k xs ∧ k ≤ cap ∧ cap ≤ 9223372036854775807 ∧ (0 < k → base ≤ A.block ∧ A.block < w.heap.size) ∧ (∀ g, v.ownBlock = some g → A.block = g) := by
  obtain ⟨hl, h | ⟨g, cap, cur, rfl, hb, hg, hk, hc, hs, ht⟩⟩ := h
  · obtain ⟨rfl, rfl⟩ := h
    have : xs = [] := List.eq_nil_of_length_eq_zero (by omega)
    subst this
    exact ⟨none, 0, ⟨0, 0, none⟩, rfl, ⟨by simp, fun i v hi => by simp at hi⟩, by simp, by simp, by simp, fun g hg => by simp [Value.ownBlock] at hg⟩
  · refine ⟨_, cap, ⟨g, 0, none⟩, rfl, ⟨fun _ => rfl, ?_⟩, hk, by unfold maxLen at hc; omega, fun _ => ⟨hb, (Array.getElem?_eq_some_iff.1 hg).1⟩, fun g' hg' => by simpa [Value.ownBlock] using hg'⟩
    have hB : Blk w g e cur.toList := by simpa [Blk] using hg
    intro i v hi
    have hi' : cur.toList[i]? = some v := by
      rw [← ht, List.getElem?_take] at hi
      split at hi
      · exact hi
      · cases hi
    exact hB.cells i v hi'

theorem acts_append {x y : Operand} {t tx e : TypeId} {size bytes : Nat} {base : Nat} {v u : Value} {k m : Nat} {xs news : List Value}
    (ho : o.op = .call { callee := .builtin .append, args := #[x, y], argTypes := #[t, tx] }) (he : elemOK P t e size bytes = true)
    (hx : ev E x = some v) (hy : ev E y = some u) (hown : w.ownsRow base e size v k xs) (hs : Src P size tx u m news w)
    (hbytes : (k + m) * bytes ≤ 140737488355328) (h63 : k + m ≤ 140737488355328) (hbase : base ≤ w.heap.size) : Acts P n ds E o w (Grew base e size w v (k + m) (xs ++ news)) Q := by
  intro a ha _
  obtain ⟨i, z, h1, h2, h3, h4, h5, h6, h7⟩ := elemOK_spec he
  obtain ⟨v', w', hr, g1, g2, g3⟩ := run_append_src (P := P) (w := w) base t tx o.type e i z size bytes h1 h2 h3 h4 h5 h6 h7 v m xs k hown u news hs (by unfold maxLen; omega) hbytes hbase
  refine .inl ⟨v', w', ?_, g1, g2, g3.imp id fun h => ⟨_, h, Nat.le_refl _⟩⟩
  simp [execOp, ho, resolve, invoke, builtin, ha.eval hx, ha.eval hy, hr]

theorem acts_append_full {x y : Operand} {t tx e : TypeId} {size bytes : Nat} {p : Option Addr} {u : Value} {k m : Nat} {xs news : List Value}
    (ho : o.op = .call { callee := .builtin .append, args := #[x, y], argTypes := #[t, tx] }) (he : elemOK P t e size bytes = true)
    (hx : ev E x = some (.slice p k k)) (hy : ev E y = some u) (hp : 0 < k → p = some A) (hl : xs.length = k * size) (hc : Cells w A xs) (hs : Src P size tx u m news w) (hm : 0 < m)
    (hbytes : (k + m) * bytes ≤ 140737488355328) (h63 : k + m ≤ 140737488355328) (base : Nat) (hbase : base ≤ w.heap.size) :
    Acts P n ds E o w (fun v' w' => w'.ownsRow base e size v' (k + m) (xs ++ news) ∧ Ext [] w w') Q := by
  intro a ha _
  obtain ⟨i, z, h1, h2, h3, h4, h5, h6, h7⟩ := elemOK_spec he
  obtain ⟨v', w', hr, g1, g2, g3⟩ := run_append_full (P := P) (w := w) base t tx o.type e i z size bytes h1 h2 h3 h4 h5 h6 p k xs hp hl hc u m news hs hm (by unfold maxLen; omega) hbytes hbase
  refine .inl ⟨v', w', ?_, g1, g2⟩
  simp [execOp, ho, resolve, invoke, builtin, ha.eval hx, ha.eval hy, hr]

/-! ### Calls -/

def callable (P : Program) (g : FuncId) : Bool := (P.funcs[g]?).any fun fn => fn.body.isSome && fn.name != "runtime.NumGoroutine"

/-- It returns, and R holds of what it returns. -/
def Ret (R : Value → World → Prop) : Ending → World → Prop
  | .returned v, w => R v w
  | _, _ => False

theorem run_callFunc {g : FuncId} (hg : callable P g = true) (args : Array Value) (w : World) : (callFunc g args).run P w = .ok (.enter g args) w := by
  unfold callable at hg
  cases hf : P.funcs[g]? with
  | none => rw [hf] at hg; cases hg
  | some fn =>
    rw [hf] at hg
    simp only [Option.any_some, Bool.and_eq_true, bne_iff_ne, ne_eq] at hg
    have hb : fn.body.isNone = false := by
      cases hbo : fn.body <;> simp [hbo] at hg ⊢
    have hb' : fn.body ≠ none := fun e => by rw [e] at hb; cases hb
    simp [callFunc, hf, hg.2, hb']

theorem acts_call' {f : Operand} {g : FuncId} {first cap : Array Value} {xs : List Operand} {ts : Array TypeId} {vs : List Value} {R : Ending → World → Prop} {K : Value → World → Prop}
    (ho : o.op = .call { callee := .value f, args := xs.toArray, argTypes := ts }) (hf : ev E f = some (.func (.func g) first cap)) (hx : evs E xs = some vs) (hg : callable P g = true)
    (hc : Calls P g (first ++ vs.toArray ++ cap) w R) (hR : ∀ e w', R e w' → match e with | .returned v => K v w' | .panicked c => Q (.panic c) [] w' | .outgrown => False) : Acts P n ds E o w K Q := by
  intro a ha _
  refine .inr (.inr (.inl ⟨g, first ++ vs.toArray ++ cap, w, ?_, hc.mono hR⟩))
  have h1 : xs.toArray.map a.eval = vs.toArray := by rw [← ha.evals hx]; simp
  simp only [execOp, ho, resolve, Deferred.ofValue, ha.eval hf, h1, Sem.run_bind, Sem.run_pure, Result.andThen_ok, invoke, run_callFunc hg]

theorem acts_call {g : FuncId} {xs : List Operand} {ts : Array TypeId} {vs : List Value} {R : Value → World → Prop}
    (ho : o.op = .call { callee := .value (.func g), args := xs.toArray, argTypes := ts }) (hx : evs E xs = some vs) (hg : callable P g = true)
    (hc : Calls P g vs.toArray w (Ret R)) : Acts P n ds E o w R Q :=
  acts_call' (first := #[]) (cap := #[]) (R := Ret R) ho rfl hx hg (by simpa using hc) fun e w' h => by
    cases e with
    | returned v => exact h
    | panicked c => exact h.elim
    | outgrown => exact h.elim

theorem acts_callv {f : Operand} {g : FuncId} {cap : Array Value} {xs : List Operand} {ts : Array TypeId} {vs : List Value} {R : Value → World → Prop}
    (ho : o.op = .call { callee := .value f, args := xs.toArray, argTypes := ts }) (hf : ev E f = some (.func (.func g) #[] cap)) (hx : evs E xs = some vs) (hg : callable P g = true)
    (hc : Calls P g (vs.toArray ++ cap) w (Ret R)) : Acts P n ds E o w R Q :=
  acts_call' (first := #[]) (R := Ret R) ho hf hx hg (by simpa using hc) fun e w' h => by
    cases e with
    | returned v => exact h
    | panicked c => exact h.elim
    | outgrown => exact h.elim

/-- A call that may panic. -/
def RetOr (R : Value → World → Prop) (Z : List PanicEntry → World → Prop) : Ending → World → Prop
  | .returned v, w => R v w
  | .panicked c, w => Z c w
  | .outgrown, _ => False

theorem acts_call_or {g : FuncId} {xs : List Operand} {ts : Array TypeId} {vs : List Value} {R : Value → World → Prop} {Z : List PanicEntry → World → Prop}
    (ho : o.op = .call { callee := .value (.func g), args := xs.toArray, argTypes := ts }) (hx : evs E xs = some vs) (hg : callable P g = true)
    (hc : Calls P g vs.toArray w (RetOr R Z)) (hZ : ∀ c w', Z c w' → Q (.panic c) [] w') : Acts P n ds E o w R Q :=
  acts_call' (first := #[]) (cap := #[]) (R := RetOr R Z) ho rfl hx hg (by simpa using hc) fun e w' h => by
    cases e with
    | returned v => exact h
    | panicked c => exact hZ c w' h
    | outgrown => exact h.elim

/-- A call that panics for sure. -/
theorem acts_never {g : FuncId} {xs : List Operand} {ts : Array TypeId} {vs : List Value} {R : Value → World → Prop} {Z : List PanicEntry → World → Prop}
    (ho : o.op = .call { callee := .value (.func g), args := xs.toArray, argTypes := ts }) (hx : evs E xs = some vs) (hg : callable P g = true)
    (hc : Calls P g vs.toArray w (RetOr R Z)) (hZ : ∀ c w', (Z c w' → Q (.panic c) [] w')) (hR : ∀ v w', ¬ R v w') : Acts P n ds E o w (fun _ _ => False) Q :=
  acts_call' (first := #[]) (cap := #[]) (R := RetOr R Z) ho rfl hx hg (by simpa using hc) fun e w' h => by
    cases e with
    | returned v => exact (hR v w' h).elim
    | panicked c => exact hZ c w' h
    | outgrown => exact h.elim
theorem Acts.mono {K K' : Value → World → Prop} (h : Acts P n ds E o w K Q) (hk : ∀ v w', K v w' → K' v w') : Acts P n ds E o w K' Q := by
  intro a ha hd
  rcases h a ha hd with ⟨v, w', h1, h2⟩ | ⟨w', h1, h2⟩ | ⟨f, args, w1, h1, h2⟩ | ⟨v, w', h1, h2⟩ | ⟨l, f, tmps, asn, bd, w1, h1, h2⟩
  · exact .inl ⟨v, w', h1, hk _ _ h2⟩
  · exact .inr (.inl ⟨w', h1, hk _ _ h2⟩)
  · refine .inr (.inr (.inl ⟨f, args, w1, h1, h2.mono fun e w' he => ?_⟩))
    cases e with
    | returned v => exact hk _ _ he
    | panicked c => exact he
    | outgrown => exact he
  · exact .inr (.inr (.inr (.inl ⟨v, w', h1, h2⟩)))
  · refine .inr (.inr (.inr (.inr ⟨l, f, tmps, asn, bd, w1, h1, h2.mono fun e w' he => ?_⟩)))
    cases e with
    | returned v => exact hk _ _ he
    | panicked c => exact he
    | outgrown => exact he

theorem acts_panic {x : Operand} {t : TypeId} {v : Value} (ho : o.op = .panic x) (hx : ev E x = some (.iface t v)) (hQ : Q (.panic [{ v := .iface t v, recovered := false }]) [] w) {K : Value → World → Prop} : Acts P n ds E o w K Q := by
  intro a ha _
  refine .inr (.inr (.inr (.inl ⟨.iface t v, w, ?_, hQ⟩)))
  simp [execOp, ho, ha.eval hx, Instr.panic]

/-- What yields a value at once, as an act. -/
theorem acts_val {v : Value} (hv : RunV P n E o [] w v) : Acts P n ds E o w (fun u w' => u = v ∧ w' = w) Q :=
  fun a ha _ => .inl ⟨v, w, hv a w (Ext.refl _ _) ha, rfl, rfl⟩

/-! ### Literals -/

theorem over_set {L r : List Value} {k : Nat} {v : Value} (h : k + 1 + r.length ≤ L.length) : over (L.set k v) (k + 1) r = over L k (v :: r) := by
  have h1 : (L.set k v).take (k + 1) = L.take k ++ [v] := by
    apply List.ext_getElem?
    intro i
    rcases Nat.lt_trichotomy i k with h1 | h1 | h1
    · rw [List.getElem?_take_of_lt (by omega), List.getElem?_set_ne (by omega), List.getElem?_append_left (by simp; omega), List.getElem?_take_of_lt h1]
    · subst h1
      rw [List.getElem?_take_of_lt (by omega), List.getElem?_set_self (by omega), List.getElem?_append_right (by simp; omega)]
      have : min i L.length = i := by omega
      simp [this]
    · rw [List.getElem?_eq_none (by simp; omega), List.getElem?_eq_none (by simp; omega)]
  have h2 : (L.set k v).drop (k + 1 + r.length) = L.drop (k + (r.length + 1)) := by
    apply List.ext_getElem?
    intro i
    rw [List.getElem?_drop, List.getElem?_drop, List.getElem?_set_ne (by omega)]
    congr 1
    omega
  simp only [over, h1, h2, List.length_cons, List.append_assoc, List.cons_append, List.nil_append]

theorem fold_over (off : Nat) : ∀ (vs : List Value) (j : Nat) (cs : Array Value), off + j + vs.length ≤ cs.size →
    (vs.zipIdx j).foldl (fun cs (x : Value × Nat) => cs.setIfInBounds (off + x.2) x.1) cs = (over cs.toList (off + j) vs).toArray
  | [], j, cs, h => by simp [over]
  | v :: r, j, cs, h => by
    simp only [List.length_cons] at h
    simp only [List.zipIdx_cons, List.foldl_cons]
    rw [fold_over off r (j + 1) _ (by simp; omega), Array.toList_setIfInBounds, ← over_set (by simp; omega)]
    rfl

/-- The cells of a literal, part by part. -/
def fillL (place : Nat → Option (Nat × Nat)) : List Value → List (Nat × Value) → Option (List Value)
  | cs, [] => some cs
  | cs, (i, v) :: r => match place i with
    | none => none
    | some (off, size) => match Nat.beq v.cells.size size && Nat.ble (off + v.cells.size) cs.length with
      | true => fillL place (over cs off v.cells.toList) r
      | false => none

theorem fill_fillL {place : Nat → Option (Nat × Nat)} : ∀ (ps : List (Nat × Value)) (cs cs' : List Value), fillL place cs ps = some cs' → Instr.fill place cs.toArray ps = some cs'.toArray
  | [], cs, cs', h => by simp [fillL] at h; simp [Instr.fill, h]
  | (i, v) :: r, cs, cs', h => by
    simp only [fillL] at h
    cases hp : place i with
    | none => rw [hp] at h; cases h
    | some q =>
      obtain ⟨off, size⟩ := q
      rw [hp] at h
      simp only at h
      split at h
      · rename_i hb
        simp only [Bool.and_eq_true] at hb
        have h1 := Nat.eq_of_beq_eq_true hb.1
        have h2 := Nat.le_of_ble_eq_true hb.2
        have h3 : ¬ (v.cells.size ≠ size ∨ off + v.cells.size > cs.length) := by omega
        have h3' : (v.cells.size ≠ size || off + v.cells.size > cs.toArray.size) = false := by simp; omega
        have hf := fold_over off v.cells.toList 0 cs.toArray (by simpa using h2)
        simp only [Nat.add_zero] at hf
        simp only [Instr.fill, hp, h3', Bool.false_eq_true, if_false]
        have hz : v.cells.zipIdx.foldl (fun cs (x : Value × Nat) => cs.setIfInBounds (off + x.2) x.1) cs.toArray = (v.cells.toList.zipIdx 0).foldl (fun cs (x : Value × Nat) => cs.setIfInBounds (off + x.2) x.1) cs.toArray := by
          rw [← Array.foldl_toList, Array.toList_zipIdx]
        have := fill_fillL r (over cs off v.cells.toList) cs' h
        rw [← this]
        congr 1
        exact hz.trans hf
      · cases h

theorem evs_parts {a : Act} (ha : Agr n E a) : ∀ {ps : List (Nat × Operand)} {vs : List Value}, evs E (ps.map (·.2)) = some vs → ps.map (fun p => (p.1, a.eval p.2)) = (ps.map (·.1)).zip vs
  | [], vs, h => by simp [evs] at h; simp [h]
  | (i, x) :: r, vs, h => by
    simp only [List.map_cons, evs] at h
    split at h
    · rename_i v l h1 h2
      simp only [Option.some.injEq] at h
      subst h
      simp [ha.eval h1, evs_parts ha h2]
    · cases h

/-- The zeros of a new row. -/
def zerosL (z : List Value) (m : Nat) : List Value := (List.range m).map fun i => z.getD (i % z.length) undef

/-- `[]T{..}`. -/
theorem acts_buildSlice {t e : TypeId} {len sz : Nat} {z : Value} {ps : List (Nat × Operand)} {vs cs' : List Value} (ho : o.op = .buildSlice t len ps.toArray) (ht : P.underlying t = some (.slice e)) (hsz : szOf P e = some sz) (hz : zrOf P e = some z)
    (hx : evs E (ps.map (·.2)) = some vs) (hlen : Nat.ble (len * sz) 16777216 = true) (hzs : Nat.beq z.cells.size sz = true) (hfill : fillL (fun i => some (i * sz, sz)) (zerosL z.cells.toList (len * sz)) ((ps.map (·.1)).zip vs) = some cs') :
    Acts P n ds E o w (fun v w' => Ext [] w w' ∧ ∃ b, v = .slice (some ⟨b, 0, none⟩) len len ∧ w.heap.size ≤ b ∧ Blk w' b e cs') Q := by
  intro a ha _
  have h1 : ¬ len * sz > 2 ^ 24 := by have := Nat.le_of_ble_eq_true hlen; omega
  have h2 : ps.toArray.map (fun (i, x) => (i, a.eval x)) = ((ps.map (·.1)).zip vs).toArray := by
    rw [← evs_parts ha hx]; simp
  have hzs' := Nat.eq_of_beq_eq_true hzs
  have hzero : ∀ (zc : Array Value), (len * sz = 0 → zc = #[]) → (len * sz ≠ 0 → zc = z.cells) → (Array.range (len * sz)).map (fun i => zc[i % zc.size]!) = (zerosL z.cells.toList (len * sz)).toArray := by
    intro zc hc1 hc2
    by_cases h0 : len * sz = 0
    · simp [h0, zerosL, Array.range]
    · rw [hc2 h0]
      apply Array.ext'
      simp only [Array.toList_map, Array.toList_range, zerosL]
      apply List.map_congr_left
      intro i hi
      have hpos : 0 < z.cells.size := by
        rw [hzs']; exact Nat.pos_of_ne_zero fun h => h0 (by rw [h, Nat.mul_zero])
      have hlt : i % z.cells.size < z.cells.size := Nat.mod_lt _ hpos
      simp [hlt, List.getD]
  have hf := fill_fillL _ _ _ hfill
  refine .inl ⟨_, { w with heap := w.heap.push (.cells cs'.toArray e) }, ?_, Ext.push _ _ _, w.heap.size, rfl, Nat.le_refl _, Blk.push w e cs'⟩
  have hrun : (Instr.buildSlice t len ((ps.map (·.1)).zip vs).toArray).run P w = .ok (.slice (some ⟨w.heap.size, 0, none⟩) len len) { w with heap := w.heap.push (.cells cs'.toArray e) } := by
    by_cases h0 : len * sz = 0
    · have hz0 := hzero #[] (fun _ => rfl) (fun h => absurd h0 h)
      rw [h0] at hz0 hf h1
      simp only [Instr.buildSlice, Sem.run_bind, run_und ht, Result.andThen_ok, run_szOf hsz, h0, h1, if_false, Sem.run_pure, if_true]
      rw [hz0]
      simp only [hf, newRow, Sem.run_bind, run_newObj, Result.andThen_ok, Sem.run_pure]
    · have hz0 := hzero z.cells (fun h => absurd h h0) (fun _ => rfl)
      simp only [Instr.buildSlice, Sem.run_bind, run_und ht, Result.andThen_ok, run_szOf hsz, h1, if_false, Sem.run_pure, h0, run_zero hz]
      simp only [hz0, hf, newRow, Sem.run_bind, run_newObj, Result.andThen_ok, Sem.run_pure]
  simp only [execOp, ho, h2, Sem.run_bind, hrun, Result.andThen_ok, Sem.run_pure]

/-! ### Bytes and strings -/

def bytesV (l : List UInt8) : List Value := l.map fun b => .int .u8 (b.toNat : Int)

theorem bytesV_length (l : List UInt8) : (bytesV l).length = l.length := by simp [bytesV]
theorem bytesV_append (a b : List UInt8) : bytesV (a ++ b) = bytesV a ++ bytesV b := by simp [bytesV]
theorem bytesV_one (l : List UInt8) : ∀ u ∈ bytesV l, u.oneCell' = true := fun u hu => by
  obtain ⟨b, _, rfl⟩ := List.mem_map.1 hu; rfl


theorem source_string {tx : TypeId} {s : List UInt8} (hk : P.underlying tx = some .string) : Src P 1 tx (.string ⟨s.toArray⟩) s.length (bytesV s) w := by
  have h := Src.ofString w hk ⟨s.toArray⟩
  rw [show (ByteArray.mk s.toArray).size = s.length by simp [ByteArray.size]] at h
  exact h
theorem rp_buildA {t e : TypeId} {m sz : Nat} {z : Value} {ps : List (Nat × Operand)} {vs cs' : List Value} (ho : o.op = .build t ps.toArray) (ht : P.underlying t = some (.array m e)) (hsz : szOf P e = some sz) (hz : zrOf P t = some z)
    (hx : evs E (ps.map (·.2)) = some vs) (hfill : fillL (fun i => some (i * sz, sz)) z.cells.toList ((ps.map (·.1)).zip vs) = some cs') : RunP P n E o (.agg cs'.toArray) := by
  intro a u ha
  have h2 : ps.toArray.map (fun (i, x) => (i, a.eval x)) = ((ps.map (·.1)).zip vs).toArray := by
    rw [← evs_parts ha hx]; simp
  have hf := fill_fillL _ _ _ hfill
  simp only [Array.toArray_toList] at hf
  simp only [execOp, ho, h2, Instr.build, Sem.run_bind, run_zero hz, run_und ht, run_szOf hsz, Result.andThen_ok, hf, Sem.run_pure]

/-- Where a struct's fields lie. -/
def placesOf (P : Program) (t : TypeId) : Option (List (Nat × Nat)) :=
  match P.underlying t with
  | some (.struct fs) => fs.toList.mapM fun f => (szOf P f.type).map fun m => (f.offset, m)
  | _ => none

theorem run_places {fs : List Field} {l : List (Nat × Nat)} (w : World) (h : fs.mapM (fun f => (szOf P f.type).map fun m => (f.offset, m)) = some l) :
    (fs.mapM (m := Sem) (fun f => do pure (f.offset, ← sizeOf f.type))).run P w = .ok l w := by
  induction fs generalizing l with
  | nil => simp at h; simp [h]
  | cons f r ih =>
    simp only [List.mapM_cons, Option.bind_eq_bind, Option.pure_def] at h
    cases hs : szOf P f.type with
    | none => rw [hs] at h; simp at h
    | some m =>
      rw [hs] at h
      simp only [Option.map_some, Option.bind_some] at h
      cases hr : r.mapM (fun f => (szOf P f.type).map fun m => (f.offset, m)) with
      | none => rw [hr] at h; simp at h
      | some l' =>
        rw [hr] at h
        simp only [Option.bind_some, Option.some.injEq] at h
        subst h
        simp only [List.mapM_cons, Sem.run_bind, run_szOf hs, Result.andThen_ok, Sem.run_pure, ih hr]

theorem rp_buildS {t : TypeId} {l : List (Nat × Nat)} {z : Value} {ps : List (Nat × Operand)} {vs cs' : List Value} (ho : o.op = .build t ps.toArray) (hp : placesOf P t = some l) (hz : zrOf P t = some z)
    (hx : evs E (ps.map (·.2)) = some vs) (hfill : fillL (fun (i : Nat) => l[i]?) z.cells.toList ((ps.map (·.1)).zip vs) = some cs') : RunP P n E o (.agg cs'.toArray) := by
  intro a u ha
  have h2 : ps.toArray.map (fun (i, x) => (i, a.eval x)) = ((ps.map (·.1)).zip vs).toArray := by
    rw [← evs_parts ha hx]; simp
  unfold placesOf at hp
  split at hp
  · rename_i fs hfs
    have hm := run_places (P := P) u hp
    have hma : (fs.mapM (m := Sem) (fun f => do pure (f.offset, ← sizeOf f.type))).run P u = .ok l.toArray u := by
      have harr : fs = fs.toList.toArray := by simp
      rw [harr, List.mapM_toArray, Sem.run_map, hm]
      rfl
    have hf := fill_fillL _ _ _ hfill
    simp only [Array.toArray_toList] at hf
    have hpl : (fun (i : Nat) => l.toArray[i]?) = fun (i : Nat) => l[i]? := by funext i; simp
    simp only [execOp, ho, h2, Instr.build, Sem.run_bind, run_zero hz, run_und hfs, Result.andThen_ok, hma, hpl, hf, Sem.run_pure]
  · cases hp

theorem rp_field {t : TypeId} {x : Operand} {i : Nat} {ft off : Nat} {cs : Array Value} {v : Value} (ho : o.op = .field t x i) (hf' : fieldOf P t i = some (ft, off)) (hx : ev E x = some (.agg cs)) (ha' : aggOf P ft = some false) (hv : cs[off]? = some v) : RunP P n E o v := by
  intro a u ha
  obtain ⟨fs, g, h1, h2, h3, h4⟩ := fieldOf_some hf'
  subst h3; subst h4
  simp [execOp, ho, ha.eval hx, Instr.field, run_und h1, h2, asAgg, part, run_agg ha', hv]
theorem rp_fieldA {t : TypeId} {x : Operand} {i : Nat} {ft off m : Nat} {cs : Array Value} (ho : o.op = .field t x i) (hf' : fieldOf P t i = some (ft, off)) (hx : ev E x = some (.agg cs)) (ha' : aggOf P ft = some true) (hm : szOf P ft = some m) : RunP P n E o (.agg (cs.extract off (off + m))) := by
  intro a u ha
  obtain ⟨fs, g, h1, h2, h3, h4⟩ := fieldOf_some hf'
  subst h3; subst h4
  simp [execOp, ho, ha.eval hx, Instr.field, run_und h1, h2, asAgg, part, run_agg ha', run_szOf hm]
theorem rp_capS {x : Operand} {t e : TypeId} {p : Option Addr} {len cap : Nat} (ho : o.op = .call { callee := .builtin .cap, args := #[x], argTypes := #[t] }) (ht : P.underlying t = some (.slice e)) (hx : ev E x = some (.slice p len cap)) :
    RunP P n E o (.int .i64 cap) := by
  intro f u hf; simp [execOp, ho, resolve, invoke, builtin, hf.eval hx, Builtin.cap_, run_und ht, goInt]
theorem rp_convS {s t : TypeId} {x : Operand} {b : ByteArray} {d : TypeDesc} (ho : o.op = .convert s t x) (hs : P.underlying s = some d) (ht : P.underlying t = some .string) (hx : ev E x = some (.string b)) : RunP P n E o (.string b) := by
  intro f u hf; simp [execOp, ho, hf.eval hx, convert, run_und hs, run_und ht]

/-- string(b). -/
theorem rv_bytes {s t e : TypeId} {x : Operand} {p : Option Addr} {len cap : Nat} {l : List UInt8} (ho : o.op = .convert s t x) (hs : P.underlying s = some (.slice e)) (he : P.underlying e = some (.int .u8)) (ht : P.underlying t = some .string)
    (hx : ev E x = some (.slice p len cap)) (hl : l.length = len) (hp : 0 < len → p = some A) (h : ∀ u, Ext X w u → Cells u A (bytesV l)) : RunV P n E o X w (.string ⟨l.toArray⟩) := by
  intro a u hu ha
  have hc := h u hu
  cases p with
  | none =>
    have h0 : len = 0 := by
      rcases Nat.eq_zero_or_pos len with h1 | h1
      · exact h1
      · cases hp h1
    have hn : l = [] := List.eq_nil_of_length_eq_zero (by omega)
    subst hn
    simp [execOp, ho, ha.eval hx, convert, run_und hs, run_und he, run_und ht, Conv.bytesToString]
    rfl
  | some a0 =>
    have hr : (convert s t (.slice (some a0) len cap)).run P u = .ok (.string ⟨l.toArray⟩) u := by
      rcases Nat.eq_zero_or_pos len with h1 | h1
      · have hn : l = [] := List.eq_nil_of_length_eq_zero (by omega)
        subst hn
        have := run_convert_bytes_back (P := P) u s t e a0 cap [] hs he ht (fun j hj => absurd hj (by simp))
        simpa [h1] using this
      · have hA := hp h1
        simp only [Option.some.injEq] at hA
        subst hA
        have := run_convert_bytes_back (P := P) u s t e a0 cap l hs he ht (fun j hj => hc j _ (by simp [bytesV, hj]))
        rw [hl] at this
        exact this
    simp [execOp, ho, ha.eval hx, hr]

/-- []byte(s). -/
theorem acts_bytes {s t e : TypeId} {x : Operand} {b : ByteArray} (ho : o.op = .convert s t x) (hs : P.underlying s = some .string) (ht : P.underlying t = some (.slice e)) (he : P.underlying e = some (.int .u8)) (hx : ev E x = some (.string b)) :
    Acts P n ds E o w (fun v w' => Ext [] w w' ∧ ∃ g cap, v = .slice (some ⟨g, 0, none⟩) b.data.toList.length cap ∧ w.heap.size ≤ g ∧ b.data.toList.length ≤ cap ∧ Cells w' ⟨g, 0, none⟩ (bytesV b.data.toList)) Q := by
  intro a ha _
  have hr := run_bytes_of_string (P := P) w s t e b hs ht he
  have hsz : b.size = b.data.toList.length := by rw [Array.length_toList]; rfl
  refine .inl ⟨.slice (some ⟨w.heap.size, 0, none⟩) b.size (grownCap w b.size 0 e), _, by simp only [execOp, ho, ha.eval hx, Sem.run_bind, hr, Result.andThen_ok, Sem.run_pure]; rfl, ?_, w.heap.size, grownCap w b.size 0 e, congrArg (fun k => Value.slice _ k _) hsz, Nat.le_refl _, ?_, ?_⟩
  · exact ⟨rfl, rfl, rfl, by simp [World.alloc], fun k hk _ => Go.heap_alloc_old w.drew _ hk, Nat.le_succ _⟩
  · rw [← hsz]; exact grownCap_ge w b.size 0 e
  · intro i v hi
    have hadd : (⟨w.heap.size, 0, none⟩ : Addr).add i = ⟨w.heap.size, i, none⟩ := addr_lit _ i
    rw [hadd]
    have := World.cell?_alloc_mark w.drew (bytesRow b (grownCap w b.size 0 e)) e ((bytesRow b (grownCap w b.size 0 e)).size, (bytesRow b (grownCap w b.size 0 e)).size + 1) i
    have hlt : i < b.data.size := by
      simp only [bytesV, List.getElem?_map] at hi
      rcases Nat.lt_or_ge i b.data.toList.length with h1 | h1
      · simpa using h1
      · rw [List.getElem?_eq_none h1] at hi; cases hi
    refine Eq.trans this ?_
    rw [bytesRow_at b _ i hlt]
    have hl2 : b.data.toList[i]? = some b[i] := by rw [Array.getElem?_toList, Array.getElem?_eq_getElem hlt]; rfl
    rw [bytesV, List.getElem?_map, hl2] at hi
    exact hi

end
end Go.Eng

/- The engine, part six: small steps for proofs. -/
set_option linter.unusedVariables false
namespace Go.Eng
open Go

section
variable {P : Program} {n : Nat} {ds : List Deferred} {ops : List Oper} {Q : PostE} {E : Env} {w w' : World} {o : Oper} {l : List Oper} {A : Addr} {cs : List Value} {X : List Nat} {K : Env → World → Prop} {id : Nat}

theorem thenE_normal (h : K E w) : thenE K Q .normal E w := h
theorem thenE_exit {j : Nat} (h : Q (.exit j) E w) : thenE K Q (.exit j) E w := h
theorem thenE_ret (h : Q .ret E w) : thenE K Q .ret E w := h
theorem thenE_panic {c : List PanicEntry} (h : Q (.panic c) E w) : thenE K Q (.panic c) E w := h
theorem blockE_normal (h : Q .normal E w) : blockE id Q .normal E w := h
theorem blockE_ret (h : Q .ret E w) : blockE id Q .ret E w := h
theorem blockE_panic {c : List PanicEntry} (h : Q (.panic c) E w) : blockE id Q (.panic c) E w := h
theorem blockE_same (h : Q .normal E w) : blockE id Q (.exit id) E w := by
  simp only [blockE]
  have : Nat.beq id id = true := by simp
  rw [this]; exact h
theorem blockE_other {j : Nat} (hj : Nat.beq j id = false) (h : Q (.exit j) E w) : blockE id Q (.exit j) E w := by
  simp only [blockE]
  rw [hj]; exact h

theorem sub_nil : ∀ t v, get [] t = some v → get E t = some v := fun t v h => by cases h
theorem sub_cons {k : Nat} {u : Value} {E0 : Env} (h : get E k = some u) (hr : ∀ t v, get E0 t = some v → get E t = some v) : ∀ t v, get ((k, u) :: E0) t = some v → get E t = some v := fun t v ht => by
  rw [get_cons] at ht
  by_cases hk : k = t
  · subst hk; simp at ht; rw [h, ht]
  · simp only [hk, if_false] at ht; exact hr t v ht

/-- A region in the order of its text, whatever follows. -/
theorem sub_int {k : Nat} {ik : IntKind} {a b : Int} {E0 : Env} (h : get E k = some (.int ik a)) (hab : a = b) (hr : ∀ t v, get E0 t = some v → get E t = some v) : ∀ t v, get ((k, .int ik b) :: E0) t = some v → get E t = some v :=
  sub_cons (hab ▸ h) hr
theorem Sx.textR {ro : Option Nat} (h : Ox P n ds ops Q ops E w) : Sx ro P n ds (.region id ops.toArray false) Q E w := fun a ha hd => wpIn_region_lit (listE_wpIn ro _ _ _ (h a ha hd))
theorem Sx.walkR {ro : Option Nat} (hm : P.follows .mixedOrders = true) (hq : Calm Q) (L dets : List Nat) (m : Nat) (hok : (Region.noSelect ops.toArray && walkOk ops dets m [] L && L.length + m == ops.length) = true)
    (h : Calm Q → ∀ w0, Ext [] w w0 → Wx P n ds ops Q dets [] L m [] E w0) : Sx ro P n ds (.region id ops.toArray true) Q E w := by
  simp only [Bool.and_eq_true, beq_iff_eq] at hok
  obtain ⟨⟨h1, h2⟩, h3⟩ := hok
  refine fun a ha hd => wpIn_region_any hm ?_
  have := h hq { w with drawn := w.drawn + 1 } (Ext.draw _ _) h1 h2 (fun k o _ hk => by
    simp only [listedOf] at hk
    rcases Nat.lt_or_ge k ops.length with h' | h' <;> simp [h'] at hk) (fun p hp => by cases hp) a ha hd
  have h4 := wpAny_of_G ro _ _ _ _ _ this
  rw [h3] at h4
  simpa [listedOf] using h4

/-- Cut behind a piece: what the rest needs of the environment, and what holds of the world. -/
theorem Sx.cut {ro : Option Nat} {ι : Type} {x y : Code} (F : ι → Env) (R : ι → World → Prop) (hx : Sx ro P n ds x (thenE (fun E' w' => ∃ i, (∀ t v, get (F i) t = some v → get E' t = some v) ∧ R i w') Q) E w)
    (hy : ∀ i w', R i w' → Sx ro P n ds y Q (F i) w') : Sx ro P n ds (.seq x y) Q E w :=
  Sx.seq (hx.mono fun e E' w' he => by
    cases e with
    | normal => obtain ⟨i, h1, h2⟩ := he; exact (hy i w' h2).weaken h1
    | _ => exact he)

/-! ### Fitting numbers, decided tests -/

theorem binI_t {p : Prop} [Decidable p] (h : p) : (some (Value.bool (decide p)) : Option Value) = some (.bool true) := by rw [decide_eq_true h]
theorem binI_f {p : Prop} [Decidable p] (h : ¬ p) : (some (Value.bool (decide p)) : Option Value) = some (.bool false) := by rw [decide_eq_false h]
theorem binS_t {b : Bool} (h : b = true) : (some (Value.bool b) : Option Value) = some (.bool true) := by rw [h]
theorem binS_f {b : Bool} (h : b = false) : (some (Value.bool b) : Option Value) = some (.bool false) := by rw [h]
theorem rp_conv_fit {s t : TypeId} {x : Operand} {k k' : IntKind} {a : Int} {d : TypeDesc} (ho : o.op = .convert s t x) (hs : P.underlying s = some d) (ht : P.underlying t = some (.int k')) (hx : ev E x = some (.int k a)) (hf : k'.wrap a = a) :
    RunP P n E o (.int k' a) := by
  have := rp_conv (n := n) ho hs ht hx
  rwa [hf] at this
theorem rp_neg_fit {t : TypeId} {x : Operand} {k : IntKind} {a : Int} (ho : o.op = .unOp .neg t x) (hx : ev E x = some (.int k a)) (hf : k.wrap (0 - a) = 0 - a) : RunP P n E o (.int k (0 - a)) := by
  have := rp_neg (P := P) (n := n) ho hx
  rwa [hf] at this

/-- Up to the end of a piece: what holds there, and then the rest. -/
theorem Sx.upto {ro : Option Nat} {c : Code} (M : Env → World → Prop) (h : Sx ro P n ds c (thenE M Q) E w) (hM : ∀ E' w', M E' w' → Q .normal E' w') : Sx ro P n ds c Q E w :=
  h.mono fun e E w he => by cases e <;> first | exact hM _ _ he | exact he

theorem rp_lenL {x : Operand} {t : TypeId} {s : List UInt8} (ho : o.op = .call { callee := .builtin .len, args := #[x], argTypes := #[t] }) (ht : P.underlying t = some .string) (hx : ev E x = some (.string ⟨s.toArray⟩)) : RunP P n E o (.int .i64 (s.length : Int)) := by
  have := rp_lenT (P := P) (n := n) ho ht hx
  rwa [show (ByteArray.mk s.toArray).size = s.length by simp [ByteArray.size]] at this
theorem tdiv_nat (a b : Nat) : ((a : Int).tdiv (b : Int)) = ((a / b : Nat) : Int) := by
  rw [Int.tdiv_eq_ediv_of_nonneg (by omega)]; rfl
/-- A natural number's quotient. -/
theorem quo_nat {t t' : TypeId} {x y : Operand} {k : IntKind} {a b : Nat} (ho : o.op = .binOp .quo t x y t') (hx : ev E x = some (.int k (a : Int))) (hy : ev E y = some (.int k (b : Int))) (hb : b ≠ 0) (hf : k.wrap ((a / b : Nat) : Int) = ((a / b : Nat) : Int)) : RunP P n E o (.int k ((a / b : Nat) : Int)) := by
  have := rp_quo (P := P) (n := n) ho hx hy (by omega)
  rwa [tdiv_nat, hf] at this
theorem rem_nat {t t' : TypeId} {x y : Operand} {k : IntKind} {a b : Nat} (ho : o.op = .binOp .rem t x y t') (hx : ev E x = some (.int k (a : Int))) (hy : ev E y = some (.int k (b : Int))) (hb : b ≠ 0) : RunP P n E o (.int k ((a % b : Nat) : Int)) := by
  have := rp_rem (P := P) (n := n) ho hx hy (by omega)
  rwa [Int.tmod_eq_emod_of_nonneg (by omega), ← Int.natCast_emod] at this
theorem beq_dec (a b : List UInt8) : (a == b) = decide (a = b) := by
  by_cases h : a = b
  · rw [decide_eq_true h, beq_iff_eq]; exact h
  · rw [decide_eq_false h]; exact beq_eq_false_iff_ne.mpr h
theorem rp_strEq {t t' : TypeId} {x y : Operand} {a b : List UInt8} (ho : o.op = .binOp .eql t x y t') (hx : ev E x = some (.string ⟨a.toArray⟩)) (hy : ev E y = some (.string ⟨b.toArray⟩)) : RunP P n E o (.bool (decide (a = b))) :=
  rp_binS ho hx hy (by simp [binS, ByteArray.toList_mk, beq_dec])
theorem rp_strNe {t t' : TypeId} {x y : Operand} {a b : List UInt8} (ho : o.op = .binOp .neq t x y t') (hx : ev E x = some (.string ⟨a.toArray⟩)) (hy : ev E y = some (.string ⟨b.toArray⟩)) : RunP P n E o (.bool (decide (a ≠ b))) :=
  rp_binS ho hx hy (by simp [binS, ByteArray.toList_mk, beq_dec])
theorem rp_strEq_t {t t' : TypeId} {x y : Operand} {a b : List UInt8} (ho : o.op = .binOp .eql t x y t') (hx : ev E x = some (.string ⟨a.toArray⟩)) (hy : ev E y = some (.string ⟨b.toArray⟩)) (h : a = b) : RunP P n E o (.bool true) := by
  have := rp_strEq (P := P) (n := n) ho hx hy; rwa [decide_eq_true h] at this
theorem rp_strEq_f {t t' : TypeId} {x y : Operand} {a b : List UInt8} (ho : o.op = .binOp .eql t x y t') (hx : ev E x = some (.string ⟨a.toArray⟩)) (hy : ev E y = some (.string ⟨b.toArray⟩)) (h : a ≠ b) : RunP P n E o (.bool false) := by
  have := rp_strEq (P := P) (n := n) ho hx hy; rwa [decide_eq_false h] at this
theorem rp_strNe_t {t t' : TypeId} {x y : Operand} {a b : List UInt8} (ho : o.op = .binOp .neq t x y t') (hx : ev E x = some (.string ⟨a.toArray⟩)) (hy : ev E y = some (.string ⟨b.toArray⟩)) (h : a ≠ b) : RunP P n E o (.bool true) := by
  have := rp_strNe (P := P) (n := n) ho hx hy; rwa [decide_eq_true h] at this
theorem rp_strNe_f {t t' : TypeId} {x y : Operand} {a b : List UInt8} (ho : o.op = .binOp .neq t x y t') (hx : ev E x = some (.string ⟨a.toArray⟩)) (hy : ev E y = some (.string ⟨b.toArray⟩)) (h : a = b) : RunP P n E o (.bool false) := by
  have := rp_strNe (P := P) (n := n) ho hx hy; rwa [decide_eq_false (by simpa using h)] at this

/-! ### Bits of naturals -/
theorem ofInt_nat (m a : Nat) : (BitVec.ofInt m (a : Int)) = BitVec.ofNat m a := by
  apply BitVec.eq_of_toNat_eq; simp [BitVec.toNat_ofInt]
  try (rw [← Int.natCast_pow, ← Int.natCast_emod]; simp)
theorem or_u64 {a b : Nat} (ha : a < 18446744073709551616) (hb : b < 18446744073709551616) : binI .or .u64 (a : Int) (b : Int) = some (.int .u64 ((a ||| b : Nat) : Int)) := by
  have h1 : (BitVec.ofInt 64 (a : Int) ||| BitVec.ofInt 64 (b : Int)).toNat = a ||| b := by
    rw [ofInt_nat, ofInt_nat, BitVec.toNat_or, BitVec.toNat_ofNat, BitVec.toNat_ofNat, Nat.mod_eq_of_lt ha, Nat.mod_eq_of_lt hb]
  have h2 : (BitVec.ofInt IntKind.u64.bits (a : Int) ||| BitVec.ofInt IntKind.u64.bits (b : Int)).toNat = a ||| b := h1
  have h3 : a ||| b < 2 ^ 64 := Nat.or_lt_two_pow ha hb
  simp only [binI, h2]
  rw [wrapu64 (by omega)]
theorem or_add_u64 {a y s : Nat} (ha : a < 2 ^ s) (hb : y * 2 ^ s < 18446744073709551616) (hs : a < 18446744073709551616) : binI .or .u64 (a : Int) ((y * 2 ^ s : Nat) : Int) = some (.int .u64 ((a + y * 2 ^ s : Nat) : Int)) := by
  rw [or_u64 hs hb, Nat.or_comm, Nat.mul_comm y, ← Nat.two_pow_add_eq_or_of_lt ha, Nat.add_comm]
theorem shl_u64 {t t' : TypeId} {x y : Operand} {k' : IntKind} {a : Nat} {b : Int} (m : Nat) (ho : o.op = .binOp .shl t x y t') (hx : ev E x = some (.int .u64 (a : Int))) (hy : ev E y = some (.int k' b)) (hb : b = (m : Int)) (hm : m ≤ 63) (hf : a * 2 ^ m < 18446744073709551616) :
    RunP P n E o (.int .u64 ((a * 2 ^ m : Nat) : Int)) := by
  have := rp_shl (P := P) (n := n) m ho hx hy ⟨by omega, by simp only [IntKind.bits]; omega⟩
  rw [show (a : Int) * 2 ^ m = ((a * 2 ^ m : Nat) : Int) by simp, wrapu64 (by omega)] at this
  exact this
theorem and127 (c : UInt8) : binI .and .u8 (c.toNat : Int) 127 = some (.int .u8 ((c.toNat % 128 : Nat) : Int)) := by
  have h1 : (BitVec.ofInt 8 (c.toNat : Int) &&& BitVec.ofInt 8 127).toNat = c.toNat % 128 := by
    rw [ofInt_nat, show BitVec.ofInt 8 127 = BitVec.ofNat 8 127 by decide, BitVec.toNat_and, BitVec.toNat_ofNat, BitVec.toNat_ofNat]
    have : ∀ k < 256, (k &&& 127 % 2 ^ 8) = k % 128 := by decide +kernel
    rw [this _ (Nat.mod_lt _ (by decide))]
    omega
  have h2 : (BitVec.ofInt IntKind.u8.bits (c.toNat : Int) &&& BitVec.ofInt IntKind.u8.bits 127).toNat = c.toNat % 128 := h1
  simp only [binI, h2]
  rw [wrapu8 (by omega)]

/-- A panic with one entry. -/
abbrev pan (t : TypeId) (v : Value) : List PanicEntry := [{ v := .iface t v, recovered := false }]

end
end Go.Eng

/- The engine, part ten: structs held against each other; rows of structs; predicates handed over. -/
set_option linter.unusedVariables false
set_option linter.unusedSimpArgs false
namespace Go.Eng
open Go

section
variable {P : Program} {n : Nat} {ds : List Deferred} {Q : PostE} {E : Env} {w : World} {o : Oper}

/-! ## Equality of structs -/

theorem eqf_nil (d : Nat) (xs ys : Array Value) (w : World) : (Op.eqFields d xs ys []).run P w = .ok true w := rfl
theorem run_part {t : TypeId} {xs : Array Value} {off : Nat} {v : Value} (ha : aggOf P t = some false) (h : xs[off]? = some v) (w : World) : (part t xs off).run P w = .ok v w := by
  simp [part, run_agg ha, h]
theorem run_partA {t : TypeId} {xs : Array Value} {off m : Nat} (ha : aggOf P t = some true) (hm : szOf P t = some m) (w : World) : (part t xs off).run P w = .ok (.agg (xs.extract off (off + m))) w := by
  simp [part, run_agg ha, run_szOf hm]

theorem eqf_step {d : Nat} {xs ys : Array Value} {f : Field} {fs : List Field} {x y : Value} {q r : Bool} (hn : f.name ≠ "_")
    (hx : (part f.type xs f.offset).run P w = .ok x w) (hy : (part f.type ys f.offset).run P w = .ok y w) (hq : (Op.equalIn d f.type x y).run P w = .ok q w) (hr : (Op.eqFields d xs ys fs).run P w = .ok r w) :
    (Op.eqFields d xs ys (f :: fs)).run P w = .ok (q && r) w := by
  simp only [Op.eqFields, ne_eq, hn, not_false_eq_true, if_true, Sem.run_bind, hx, hy, hq, Result.andThen_ok]
  cases q <;> simp [hr]
theorem eqf_int {d : Nat} {xs ys : Array Value} {f : Field} {fs : List Field} {k k' : IntKind} {a b : Int} {r : Bool} (hn : f.name ≠ "_") (ha : aggOf P f.type = some false) (hu : P.underlying f.type = some (.int k'))
    (hx : xs[f.offset]? = some (.int k a)) (hy : ys[f.offset]? = some (.int k b)) (hr : (Op.eqFields (d + 1) xs ys fs).run P w = .ok r w) : (Op.eqFields (d + 1) xs ys (f :: fs)).run P w = .ok (decide (a = b) && r) w :=
  eqf_step hn (run_part ha hx w) (run_part ha hy w) (by rw [run_equalIn_int w d f.type k k' a b hu]; simp [Bool.beq_eq_decide_eq]) hr
theorem eqf_str {d : Nat} {xs ys : Array Value} {f : Field} {fs : List Field} {a b : List UInt8} {r : Bool} (hn : f.name ≠ "_") (ha : aggOf P f.type = some false) (hu : P.underlying f.type = some .string)
    (hx : xs[f.offset]? = some (.string ⟨a.toArray⟩)) (hy : ys[f.offset]? = some (.string ⟨b.toArray⟩)) (hr : (Op.eqFields (d + 1) xs ys fs).run P w = .ok r w) : (Op.eqFields (d + 1) xs ys (f :: fs)).run P w = .ok (decide (a = b) && r) w :=
  eqf_step hn (run_part ha hx w) (run_part ha hy w) (by rw [run_equalIn_string w d f.type _ _ hu]; simp [ByteArray.toList_mk, beq_dec]) hr
theorem eqf_bool {d : Nat} {xs ys : Array Value} {f : Field} {fs : List Field} {a b : Bool} {r : Bool} (hn : f.name ≠ "_") (ha : aggOf P f.type = some false) (hu : P.underlying f.type = some .bool)
    (hx : xs[f.offset]? = some (.bool a)) (hy : ys[f.offset]? = some (.bool b)) (hr : (Op.eqFields (d + 1) xs ys fs).run P w = .ok r w) : (Op.eqFields (d + 1) xs ys (f :: fs)).run P w = .ok (decide (a = b) && r) w :=
  eqf_step hn (run_part ha hx w) (run_part ha hy w) (by rw [run_equalIn_bool' w d f.type a b hu]; cases a <;> cases b <;> rfl) hr
theorem eqf_sub {d : Nat} {xs ys : Array Value} {f : Field} {fs : List Field} {m : Nat} {q r : Bool} (hn : f.name ≠ "_") (ha : aggOf P f.type = some true) (hm : szOf P f.type = some m)
    (hq : (Op.equalIn d f.type (.agg (xs.extract f.offset (f.offset + m))) (.agg (ys.extract f.offset (f.offset + m)))).run P w = .ok q w) (hr : (Op.eqFields d xs ys fs).run P w = .ok r w) : (Op.eqFields d xs ys (f :: fs)).run P w = .ok (q && r) w :=
  eqf_step hn (run_partA ha hm w) (run_partA ha hm w) hq hr
theorem eqs {d : Nat} {t : TypeId} {xs ys : Array Value} {fs : Array Field} {r : Bool} (ht : P.underlying t = some (.struct fs)) (hp : P.stoodInHeld t = false) (hr : (Op.eqFields d xs ys fs.toList).run P w = .ok r w) :
    (Op.equalIn (d + 1) t (.agg xs) (.agg ys)).run P w = .ok r w := by
  have hf : P.fieldsOf t = fs := by unfold Program.fieldsOf; rw [ht]
  rw [run_equalIn_struct w d t xs ys (by rw [hf]; exact ht) hp, hf]; exact hr

theorem rp_eqA {t t' : TypeId} {x y : Operand} {xs ys : Array Value} {r : Bool} (ho : o.op = .binOp .eql t x y t') (hg : P.eqGuardType P.depth t = false) (hx : ev E x = some (.agg xs)) (hy : ev E y = some (.agg ys))
    (h : ∀ w, (Op.equalIn (9999 + 1) t (.agg xs) (.agg ys)).run P w = .ok r w) : RunP P n E o (.bool r) := by
  intro f u hf
  have hgd : (eqGuard .eql t x y (.agg xs) (.agg ys)).run P u = .ok () u := by simp [eqGuard, hg]
  have hb : (binOp .eql t (.agg xs) (.agg ys)).run P u = .ok (.bool r) u := by
    show ((do pure (.bool (← Op.equal t (.agg xs) (.agg ys))) : Sem Value)).run P u = _
    simp only [Op.equal, Op.maxDepth, Sem.run_bind, h u, Result.andThen_ok, Sem.run_pure]
  simp only [execOp, ho, hf.eval hx, hf.eval hy, Sem.run_bind, hgd, hb, Result.andThen_ok, Sem.run_pure]
theorem rp_neA {t t' : TypeId} {x y : Operand} {xs ys : Array Value} {r : Bool} (ho : o.op = .binOp .neq t x y t') (hg : P.eqGuardType P.depth t = false) (hx : ev E x = some (.agg xs)) (hy : ev E y = some (.agg ys))
    (h : ∀ w, (Op.equalIn (9999 + 1) t (.agg xs) (.agg ys)).run P w = .ok r w) : RunP P n E o (.bool (!r)) := by
  intro f u hf
  have hgd : (eqGuard .neq t x y (.agg xs) (.agg ys)).run P u = .ok () u := by simp [eqGuard, hg]
  have hb : (binOp .neq t (.agg xs) (.agg ys)).run P u = .ok (.bool (!r)) u := by
    show ((do pure (.bool (!(← Op.equal t (.agg xs) (.agg ys)))) : Sem Value)).run P u = _
    simp only [Op.equal, Op.maxDepth, Sem.run_bind, h u, Result.andThen_ok, Sem.run_pure]
  simp only [execOp, ho, hf.eval hx, hf.eval hy, Sem.run_bind, hgd, hb, Result.andThen_ok, Sem.run_pure]

theorem rp_eqA_t {t t' : TypeId} {x y : Operand} {xs ys : Array Value} {p : Prop} [Decidable p] (ho : o.op = .binOp .eql t x y t') (hg : P.eqGuardType P.depth t = false) (hx : ev E x = some (.agg xs)) (hy : ev E y = some (.agg ys))
    (h : ∀ w, (Op.equalIn (9999 + 1) t (.agg xs) (.agg ys)).run P w = .ok (decide p) w) (hp : p) : RunP P n E o (.bool true) := by
  have := rp_eqA (n := n) ho hg hx hy h; rwa [decide_eq_true hp] at this
theorem rp_eqA_f {t t' : TypeId} {x y : Operand} {xs ys : Array Value} {p : Prop} [Decidable p] (ho : o.op = .binOp .eql t x y t') (hg : P.eqGuardType P.depth t = false) (hx : ev E x = some (.agg xs)) (hy : ev E y = some (.agg ys))
    (h : ∀ w, (Op.equalIn (9999 + 1) t (.agg xs) (.agg ys)).run P w = .ok (decide p) w) (hp : ¬ p) : RunP P n E o (.bool false) := by
  have := rp_eqA (n := n) ho hg hx hy h; rwa [decide_eq_false hp] at this
theorem rp_neA_t {t t' : TypeId} {x y : Operand} {xs ys : Array Value} {p : Prop} [Decidable p] (ho : o.op = .binOp .neq t x y t') (hg : P.eqGuardType P.depth t = false) (hx : ev E x = some (.agg xs)) (hy : ev E y = some (.agg ys))
    (h : ∀ w, (Op.equalIn (9999 + 1) t (.agg xs) (.agg ys)).run P w = .ok (decide p) w) (hp : ¬ p) : RunP P n E o (.bool true) := by
  have := rp_neA (n := n) ho hg hx hy h; rwa [decide_eq_false hp] at this
theorem rp_neA_f {t t' : TypeId} {x y : Operand} {xs ys : Array Value} {p : Prop} [Decidable p] (ho : o.op = .binOp .neq t x y t') (hg : P.eqGuardType P.depth t = false) (hx : ev E x = some (.agg xs)) (hy : ev E y = some (.agg ys))
    (h : ∀ w, (Op.equalIn (9999 + 1) t (.agg xs) (.agg ys)).run P w = .ok (decide p) w) (hp : p) : RunP P n E o (.bool false) := by
  have := rp_neA (n := n) ho hg hx hy h; rwa [decide_eq_true hp] at this
theorem rp_fieldAddr2 {t : TypeId} {x : Operand} {i j : Nat} {A : Addr} {ft off m : Nat} (ho : o.op = .fieldAddr t x i) (hf' : fieldOf P t i = some (ft, off)) (hm : szOf P ft = some (m + 1)) (hx : ev E x = some (.pointer (some (A.add j)))) :
    RunP P n E o (.pointer (some (A.add (j + off)))) := by
  have := rp_fieldAddr (P := P) (n := n) ho hf' hm hx
  rwa [addr_add_add] at this

/-! ## Rows -/

def rowsV {α : Type} (enc : α → List Value) (l : List α) : List Value := l.flatMap enc

section
variable {α : Type} {enc : α → List Value} {m : Nat}
theorem rowsV_nil : rowsV enc [] = [] := rfl
theorem rowsV_cons (a : α) (l : List α) : rowsV enc (a :: l) = enc a ++ rowsV enc l := rfl
theorem rowsV_append (a b : List α) : rowsV enc (a ++ b) = rowsV enc a ++ rowsV enc b := by simp [rowsV]
theorem rowsV_one (a : α) : rowsV enc [a] = enc a := by simp [rowsV]
theorem rowsV_length (h : ∀ a, (enc a).length = m) : ∀ l : List α, (rowsV enc l).length = l.length * m
  | [] => by simp [rowsV]
  | a :: l => by rw [rowsV_cons, List.length_append, h, rowsV_length h l, List.length_cons, Nat.add_mul]; omega
theorem rowsV_at (h : ∀ a, (enc a).length = m) : ∀ {l : List α} {i : Nat} (hi : i < l.length), ((rowsV enc l).drop (i * m)).take m = enc l[i]
  | a :: l, 0, hi => by rw [Nat.zero_mul, List.drop_zero, rowsV_cons, ← h a, List.take_left]; rfl
  | a :: l, i + 1, hi => by
    rw [rowsV_cons, show (i + 1) * m = (enc a).length + i * m by rw [h a, Nat.add_mul]; omega, ← List.drop_drop, List.drop_left]
    exact rowsV_at h (i := i) (by simpa using hi)
theorem rowsV_take (h : ∀ a, (enc a).length = m) (l : List α) (k : Nat) : (rowsV enc l).take (k * m) = rowsV enc (l.take k) := by
  rcases Nat.le_total k l.length with hk | hk
  · conv => lhs; rw [← List.take_append_drop k l, rowsV_append]
    rw [List.take_left' (by rw [rowsV_length h, List.length_take, Nat.min_eq_left hk])]
  · rw [List.take_of_length_le hk, List.take_of_length_le (by rw [rowsV_length h]; exact Nat.mul_le_mul_right _ hk)]
theorem rowsV_drop (h : ∀ a, (enc a).length = m) (l : List α) (k : Nat) : (rowsV enc l).drop (k * m) = rowsV enc (l.drop k) := by
  rcases Nat.le_total k l.length with hk | hk
  · conv => lhs; rw [← List.take_append_drop k l, rowsV_append]
    rw [List.drop_left' (by rw [rowsV_length h, List.length_take, Nat.min_eq_left hk])]
  · rw [List.drop_eq_nil_of_le (by rw [rowsV_length h]; exact Nat.mul_le_mul_right _ hk), List.drop_eq_nil_of_le hk]; rfl
theorem rowsV_all (h : ∀ a, ∀ u ∈ enc a, u.oneCell' = true) (l : List α) : ∀ u ∈ rowsV enc l, u.oneCell' = true := fun u hu => by
  obtain ⟨a, _, hm⟩ := List.mem_flatMap.1 hu; exact h a u hm

/-- An element of a slice is read. -/
theorem ld_elem (h : ∀ a, (enc a).length = m) {t : TypeId} {A : Addr} {l : List α} (hc : Cells w A (rowsV enc l)) {i : Nat} (hi : i < l.length) (ht : aggOf P t = some true) (hm : szOf P t = some m) : Ld P w t (A.add (i * m)) (.agg (enc l[i]).toArray) :=
  hc.ldP (i * m) ht hm (rowsV_at h hi) (h _)
end

theorem over_rowsV {α : Type} {enc : α → List Value} {m : Nat} (h : ∀ a, (enc a).length = m) {l : List α} {i : Nat} (hi : i < l.length) (a : α) : over (rowsV enc l) (i * m) (enc a) = rowsV enc (l.set i a) := by
  unfold over
  rw [rowsV_take h, h a, show i * m + m = (i + 1) * m by rw [Nat.add_mul]; omega, rowsV_drop h, List.set_eq_take_append_cons_drop, if_pos hi, rowsV_append, rowsV_cons, List.append_assoc]
/-- A store into an element of a block's row. -/
theorem acts_store_row {α : Type} {enc : α → List Value} {m : Nat} (h : ∀ a, (enc a).length = m) {t : TypeId} {x y : Operand} {v : Value} {b : Nat} {bt : TypeId} {l : List α} {i : Nat} (a : α) (ho : o.op = .store t x y) (hx : ev E x = some (.pointer (some ((⟨b, 0, none⟩ : Addr).add (i * m)))))
    (hy : ev E y = some v) (hv : v.cells.toList = enc a) (hm : szOf P t = some m) (hB : Blk w b bt (rowsV enc l)) (hi : i < l.length) (h1 : ∀ u ∈ enc a, u.oneCell' = true) :
    Acts P n ds E o w (fun u w' => u = undef ∧ Ext [b] w w' ∧ Blk w' b bt (rowsV enc (l.set i a))) Q := by
  have hsz : v.cells.size = m := by rw [← Array.length_toList, hv, h]
  have hfit : i * m + v.cells.size ≤ (rowsV enc l).length := by
    rw [rowsV_length h, hsz]
    have : (i + 1) * m ≤ l.length * m := Nat.mul_le_mul_right _ hi
    rw [Nat.add_mul] at this; omega
  have := acts_store (Q := Q) (ds := ds) (n := n) ho hx rfl hy (hsz ▸ hm) hB hfit (by rw [hv]; exact h1)
  rwa [hv, over_rowsV h hi] at this
/-- New memory, its zeros as a list. -/
theorem acts_alloc_z {t : TypeId} {cs : List Value} (ho : o.op = .alloc t) (hz : (zrOf P t).map (fun z => z.cells.toList) = some cs) : Acts P n ds E o w (NewBlk w t cs) Q := by
  obtain ⟨z, h1, rfl⟩ := Option.map_eq_some_iff.1 hz
  exact acts_alloc ho h1

/-- A slice of elements. -/
structure SlV {α : Type} (enc : α → List Value) (w : World) (p : Option Addr) (A : Addr) (l : List α) (cap : Nat) : Prop where
  ptr : 0 < l.length → p = some A
  row : Cells w A (rowsV enc l)
  le : l.length ≤ cap
  small : cap ≤ 9223372036854775807
  few : l.length ≤ 140737488355328
theorem SlV.ext {α : Type} {enc : α → List Value} {w w' : World} {p : Option Addr} {A : Addr} {l : List α} {cap : Nat} {X : List Nat} (h : SlV enc w p A l cap) (he : Ext X w w') (hx : A.block ∉ X) : SlV enc w' p A l cap := ⟨h.ptr, h.row.ext he hx, h.le, h.small, h.few⟩
theorem SlV.ext0 {α : Type} {enc : α → List Value} {w w' : World} {p : Option Addr} {A : Addr} {l : List α} {cap : Nat} (h : SlV enc w p A l cap) (he : Ext [] w w') : SlV enc w' p A l cap := h.ext he (by simp)
theorem SlV.nil {α : Type} (enc : α → List Value) (w : World) : SlV enc w none ⟨0, 0, none⟩ ([] : List α) 0 := ⟨by simp, cells_nil _ _, by simp, by simp, by simp⟩
theorem SlV.of_own {α : Type} {enc : α → List Value} {m : Nat} {base : Nat} {e : TypeId} {v : Value} {l : List α} (h : w.ownsRow base e m v l.length (rowsV enc l)) (hf : l.length ≤ 140737488355328) :
    ∃ p cap A, v = .slice p l.length cap ∧ SlV enc w p A l cap ∧ (0 < l.length → base ≤ A.block ∧ A.block < w.heap.size) := by
  obtain ⟨p, cap, A, h1, h2, h3, h4, h5, _⟩ := own_sl h
  exact ⟨p, cap, A, h1, ⟨h2.1, h2.2, h3, h4, hf⟩, h5⟩
theorem SlV.src {α : Type} {enc : α → List Value} {m : Nat} {p : Option Addr} {A : Addr} {l : List α} {cap : Nat} {tx e' : TypeId} (h : SlV enc w p A l cap) (hk : P.underlying tx = some (.slice e')) (hm : ∀ a, (enc a).length = m) (h1 : ∀ a, ∀ u ∈ enc a, u.oneCell' = true) :
    Src P m tx (.slice p l.length cap) l.length (rowsV enc l) w :=
  source_slice hk (rowsV_length hm l) h.ptr h.row (rowsV_all h1 l)

/-! ## Rows of one's own, as blocks -/

theorem own_blk {base : Nat} {e : TypeId} {size : Nat} {v : Value} {k : Nat} {xs : List Value} (h : w.ownsRow base e size v k xs) (hk : 0 < k) :
    ∃ g cap cs, v = .slice (some ⟨g, 0, none⟩) k cap ∧ base ≤ g ∧ Blk w g e (xs ++ cs) ∧ (xs ++ cs).length = cap * size ∧ k ≤ cap ∧ cap ≤ 9223372036854775807 ∧ xs.length = k * size := by
  obtain ⟨hl, h | ⟨g, cap, cur, rfl, hb, hg, hk', hc, hs, ht⟩⟩ := h
  · omega
  · refine ⟨g, cap, cur.toList.drop (k * size), rfl, hb, ?_, ?_, hk', by unfold maxLen at hc; omega, hl⟩
    · rw [← ht, List.take_append_drop]; simpa [Blk] using hg
    · rw [← ht, List.take_append_drop]; simpa using hs
theorem blk_own {base : Nat} {e : TypeId} {size : Nat} {g cap k : Nat} {xs cs : List Value} (hb : base ≤ g) (hB : Blk w g e (xs ++ cs)) (hl : (xs ++ cs).length = cap * size) (hk : k ≤ cap) (hc : cap ≤ 9223372036854775807) (hx : xs.length = k * size) :
    w.ownsRow base e size (.slice (some ⟨g, 0, none⟩) k cap) k xs :=
  ⟨hx, .inr ⟨g, cap, (xs ++ cs).toArray, rfl, hb, hB, hk, by unfold maxLen; omega, by simpa using hl, by simp [← hx]⟩⟩
theorem over_left {a b news : List Value} {off : Nat} (h : off + news.length ≤ a.length) : over (a ++ b) off news = over a off news ++ b := by
  unfold over
  rw [List.take_append_of_le_length (by omega), List.drop_append_of_le_length (by omega)]
  simp

/-- A store into an element of a row of one's own. -/
theorem acts_store_own {α : Type} {enc : α → List Value} {m : Nat} (h : ∀ a, (enc a).length = m) {t et : TypeId} {x y : Operand} {v : Value} {base : Nat} {p : Option Addr} {A : Addr} {c : Nat} {l : List α} {i : Nat} (a : α) (ho : o.op = .store t x y)
    (hx : ev E x = some (.pointer (some (A.add (i * m))))) (hy : ev E y = some v) (hv : v.cells.toList = enc a) (hm : szOf P t = some m) (hown : w.ownsRow base et m (.slice p l.length c) l.length (rowsV enc l)) (hp : 0 < l.length → p = some A) (hi : i < l.length) (h1 : ∀ u ∈ enc a, u.oneCell' = true) :
    Acts P n ds E o w (fun u w' => u = undef ∧ Ext (Value.slice p l.length c).ownBlock.toList w w' ∧ w'.ownsRow base et m (.slice p l.length c) l.length (rowsV enc (l.set i a))) Q := by
  obtain ⟨g, cap, cs, he, hb, hB, hl, hkc, hcc, hxl⟩ := own_blk hown (by omega)
  have hp' := hp (by omega)
  simp only [Value.slice.injEq, true_and] at he
  obtain ⟨rfl, rfl⟩ := he
  simp only [Option.some.injEq] at hp'
  subst hp'
  have hsz : v.cells.size = m := by rw [← Array.length_toList, hv, h]
  have hfit0 : i * m + m ≤ (rowsV enc l).length := by
    rw [rowsV_length h]
    have : (i + 1) * m ≤ l.length * m := Nat.mul_le_mul_right _ hi
    rw [Nat.add_mul] at this; omega
  have hst := acts_store (Q := Q) (ds := ds) (n := n) ho hx rfl hy (hsz ▸ hm) hB (by rw [List.length_append, hsz]; omega) (by rw [hv]; exact h1)
  rw [hv, over_left (by rw [h]; exact hfit0), over_rowsV h hi] at hst
  refine hst.mono fun u w' ⟨h5, h6, h7⟩ => ⟨h5, by simpa [Value.ownBlock] using h6, blk_own hb h7 ?_ hkc hcc (by rw [rowsV_length h, List.length_set])⟩
  rw [List.length_append, rowsV_length h, List.length_set, ← rowsV_length h, ← List.length_append]; exact hl

theorem over_mid {a b c vs : List Value} {off : Nat} (h : off + vs.length ≤ b.length) : over (a ++ (b ++ c)) (a.length + off) vs = a ++ (over b off vs ++ c) := by
  unfold over
  rw [List.take_length_add_append, Nat.add_assoc, List.drop_length_add_append, List.take_append_of_le_length (by omega), List.drop_append_of_le_length (by omega)]
  simp
theorem over_rowsV_at {α : Type} {enc : α → List Value} {m : Nat} (h : ∀ a, (enc a).length = m) {l : List α} {i : Nat} (hi : i < l.length) (a : α) {off : Nat} {vs : List Value} (hoff : off + vs.length ≤ m) (ha : over (enc l[i]) off vs = enc a) : over (rowsV enc l) (i * m + off) vs = rowsV enc (l.set i a) := by
  have h1 : l = l.take i ++ l[i] :: l.drop (i + 1) := by rw [List.getElem_cons_drop, List.take_append_drop]
  have h2 : rowsV enc l = rowsV enc (l.take i) ++ (enc l[i] ++ rowsV enc (l.drop (i + 1))) := by
    conv => lhs; rw [h1]
    rw [rowsV_append, rowsV_cons]
  have h3 : (rowsV enc (l.take i)).length = i * m := by rw [rowsV_length h, List.length_take, Nat.min_eq_left (by omega)]
  rw [h2, ← h3, over_mid (by rw [h]; exact hoff), ha, List.set_eq_take_append_cons_drop, if_pos hi, rowsV_append, rowsV_cons]

/-- A store into a part of an element of a row of one's own. -/
theorem acts_store_own_at {α : Type} {enc : α → List Value} {m : Nat} (h : ∀ a, (enc a).length = m) {t et : TypeId} {x y : Operand} {v : Value} {base : Nat} {p : Option Addr} {A : Addr} {c : Nat} {l : List α} {i : Nat} (off : Nat) (a : α) (ho : o.op = .store t x y)
    (hx : ev E x = some (.pointer (some (A.add (i * m + off))))) (hy : ev E y = some v) (hi : i < l.length) (hv : over (enc l[i]) off v.cells.toList = enc a) (hoff : off + v.cells.size ≤ m) (hm : szOf P t = some v.cells.size) (hown : w.ownsRow base et m (.slice p l.length c) l.length (rowsV enc l)) (hp : 0 < l.length → p = some A) (h1 : ∀ u ∈ v.cells.toList, u.oneCell' = true) :
    Acts P n ds E o w (fun u w' => u = undef ∧ Ext (Value.slice p l.length c).ownBlock.toList w w' ∧ w'.ownsRow base et m (.slice p l.length c) l.length (rowsV enc (l.set i a))) Q := by
  obtain ⟨g, cap, cs, he, hb, hB, hl, hkc, hcc, hxl⟩ := own_blk hown (by omega)
  have hp' := hp (by omega)
  simp only [Value.slice.injEq, true_and] at he
  obtain ⟨rfl, rfl⟩ := he
  simp only [Option.some.injEq] at hp'
  subst hp'
  have hfit0 : i * m + off + v.cells.size ≤ (rowsV enc l).length := by
    rw [rowsV_length h]
    have : (i + 1) * m ≤ l.length * m := Nat.mul_le_mul_right _ hi
    rw [Nat.add_mul] at this; omega
  have hst := acts_store (Q := Q) (ds := ds) (n := n) ho hx rfl hy hm hB (by rw [List.length_append]; omega) h1
  rw [over_left (by rw [Array.length_toList]; exact hfit0), over_rowsV_at h hi a (by rw [Array.length_toList]; exact hoff) hv] at hst
  refine hst.mono fun u w' ⟨h5, h6, h7⟩ => ⟨h5, by simpa [Value.ownBlock] using h6, blk_own hb h7 ?_ hkc hcc (by rw [rowsV_length h, List.length_set])⟩
  rw [List.length_append, rowsV_length h, List.length_set, ← rowsV_length h, ← List.length_append]; exact hl

/-- Rows of different element types do not lie in one block. -/
theorem own_apart {base base' : Nat} {e e' : TypeId} {s s' : Nat} {v v' : Value} {k k' : Nat} {xs xs' : List Value} (h : w.ownsRow base e s v k xs) (h' : w.ownsRow base' e' s' v' k' xs') (hne : e ≠ e') : ∀ g, v.ownBlock = some g → v'.ownBlock ≠ some g := by
  intro g h1 h2
  obtain ⟨_, h | ⟨b, cap, cur, rfl, hb, hg, _⟩⟩ := h
  · obtain ⟨rfl, rfl⟩ := h; simp [Value.ownBlock] at h1
  obtain ⟨_, h' | ⟨b', cap', cur', rfl, hb', hg', _⟩⟩ := h'
  · obtain ⟨rfl, rfl⟩ := h'; simp [Value.ownBlock] at h2
  simp only [Value.ownBlock, Option.some.injEq] at h1 h2
  subst h1; subst h2
  rw [hg] at hg'
  simp only [Option.some.injEq, Obj.cells.injEq] at hg'
  exact hne hg'.2.1

theorem rp_sliceNil {t t' e : TypeId} {x : Operand} {p : Option Addr} {len cap : Nat} (ho : o.op = .binOp .eql t x (.const (.slice none 0 0)) t') (ht : P.underlying t = some (.slice e)) (hx : ev E x = some (.slice p len cap)) : RunP P n E o (.bool p.isNone) := by
  intro f u hf
  have hq : (Op.equal t (.slice p len cap) (.slice none 0 0)).run P u = .ok p.isNone u := by
    have : ∀ k, (Op.equalIn (k + 1) t (.slice p len cap) (.slice none 0 0)).run P u = .ok p.isNone u := fun k => by
      cases p <;> simp [Op.equalIn, run_und ht]
    exact this 9999
  have hb : (binOp .eql t (.slice p len cap) (.slice none 0 0)).run P u = .ok (.bool p.isNone) u := by
    show ((do pure (.bool (← Op.equal t (.slice p len cap) (.slice none 0 0))) : Sem Value)).run P u = _
    simp [hq]
  have hg : eqGuard .eql t x (.const (.slice none 0 0)) (.slice p len cap) (.slice none 0 0) = Pure.pure () := by rfl
  have hy : f.eval (.const (.slice none 0 0)) = .slice none 0 0 := rfl
  simp [execOp, ho, hf.eval hx, hy, hg, hb]

theorem zeroCells_mem {z : Array Value} {k : Nat} {u : Value} (h : u ∈ (Builtin.zeroCells z k).toList) : u ∈ z.toList := by
  simp only [Builtin.zeroCells, Array.toList_map, List.mem_map, Array.toList_range, List.mem_range] at h
  obtain ⟨i, hi, rfl⟩ := h
  have hz : 0 < z.size := by
    rcases Nat.eq_zero_or_pos z.size with h0 | h0
    · rw [h0] at hi; omega
    · exact h0
  have hlt := Nat.mod_lt i hz
  rw [getElem!_pos z (i % z.size) hlt]
  simp

/-- clear(s), s a part of a block that is known whole. -/
theorem acts_clear {x : Operand} {t e : TypeId} {z : Value} {p : Option Addr} {k c g off : Nat} {cs : List Value} {bt : TypeId} (ho : o.op = .call { callee := .builtin .clear, args := #[x], argTypes := #[t] }) (ht : P.underlying t = some (.slice e)) (hz : zrOf P e = some z)
    (hx : ev E x = some (.slice p k c)) (hp : 0 < k → p = some ⟨g, off, none⟩) (hB : Blk w g bt cs) (hfit : off + k * z.cells.size ≤ cs.length) (h1 : ∀ u ∈ z.cells.toList, u.oneCell' = true) :
    Acts P n ds E o w (fun u w' => Ext [g] w w' ∧ ∃ zs : List Value, zs.length = k * z.cells.size ∧ Blk w' g bt (over cs off zs)) Q := by
  intro a ha _
  cases k with
  | zero =>
    refine .inl ⟨.tuple #[], w, ?_, Ext.refl _ _, [], by simp, ?_⟩
    · have hr : (Builtin.clear_ #[t] o.type #[.slice p 0 c]).run P w = .ok (.tuple #[]) w := by
        cases p <;> simp [Builtin.clear_, run_und ht]
      simp [execOp, ho, resolve, invoke, builtin, ha.eval hx, hr]
    · simpa [over] using hB
  | succ k =>
    have hp' := hp (by omega)
    subst hp'
    have hst := run_storeCells_at P g off bt (Builtin.zeroCells z.cells (k + 1)).toList 0 cs.toArray w hB (by simpa [size_zeroCells] using hfit) (fun u hu => h1 u (zeroCells_mem hu))
    simp only [Nat.add_zero] at hst
    refine .inl ⟨.tuple #[], w.setRow g (over cs off (Builtin.zeroCells z.cells (k + 1)).toList).toArray, ?_, setRow_ext w g _ (by simp), (Builtin.zeroCells z.cells (k + 1)).toList, by simp [size_zeroCells], ?_⟩
    · have hr : (Builtin.clear_ #[t] o.type #[.slice (some ⟨g, off, none⟩) (k + 1) c]).run P w = .ok (.tuple #[]) (w.setRow g (over cs off (Builtin.zeroCells z.cells (k + 1)).toList).toArray) := by
        simp [Builtin.clear_, run_und ht, run_zero hz, hst, over]
      simp [execOp, ho, resolve, invoke, builtin, ha.eval hx, hr]
    · have := setRow_heap w g cs.toArray (over cs off (Builtin.zeroCells z.cells (k + 1)).toList).toArray bt _ hB
      simpa [Blk] using this

end

/-! ## Short names: what most steps are shown by -/
section
variable {P : Program} {n : Nat} {E : Env} {o : Oper} {v : Value} {w w' : World} {X : List Nat} {t : TypeId} {A : Addr} {x : Operand}
theorem zxc (h : Ext X w w' := by (repeat first | exact .refl _ _ | assumption | refine .trans ?_ (by assumption)); first | done | fail) : Ext X w w' := h
theorem zls (h : ∀ u, Ext X w u → Ld P u t A v := by intro u hu; first | exact Cells.l1 (by assumption) zxc _ rfl rfl | exact Cells.l0 (by assumption) zxc rfl rfl) : ∀ u, Ext X w u → Ld P u t A v := h
theorem zla (h : ∀ u, Ext X w u → Ld P u t A v := by intro u hu; first | exact Cells.lA (by assumption) zxc rfl rfl | exact Cells.lL (by assumption) zxc rfl rfl (by assumption) | exact Cells.lP (by assumption) zxc _ rfl rfl rfl rfl | exact Cells.lP (by assumption) zxc _ rfl rfl (by assumption) (by assumption)) : ∀ u, Ext X w u → Ld P u t A v := h
theorem zlx (h : ∀ u, Ext X w u → Ld P u t A v := by intro u hu; first | exact Cells.ld (Cells.ext (Cells.ext0 (by assumption) zxc) hu (by assumption)) _ rfl rfl | exact Cells.ld0 (Cells.ext (Cells.ext0 (by assumption) zxc) hu (by assumption)) rfl rfl | exact Cells.ldA (Cells.ext (Cells.ext0 (by assumption) zxc) hu (by assumption)) rfl rfl | exact Cells.ldL (Cells.ext (Cells.ext0 (by assumption) zxc) hu (by assumption)) rfl rfl (by assumption)) : ∀ u, Ext X w u → Ld P u t A v := h
theorem zrs (ho : o.op = .load t x := by exact rfl) (hx : Go.Eng.ev E x = some (.pointer (some A)) := by exact rfl) (h : ∀ u, Ext X w u → Ld P u t A v := by exact zls) : RunV P n E o X w v := rv_load ho hx h
theorem zra (ho : o.op = .load t x := by exact rfl) (hx : Go.Eng.ev E x = some (.pointer (some A)) := by exact rfl) (h : ∀ u, Ext X w u → Ld P u t A v := by exact zla) : RunV P n E o X w v := rv_load ho hx h
theorem zrx (ho : o.op = .load t x := by exact rfl) (hx : Go.Eng.ev E x = some (.pointer (some A)) := by exact rfl) (h : ∀ u, Ext X w u → Ld P u t A v := by exact zlx) : RunV P n E o X w v := rv_load ho hx h
theorem zmv (h : RunP P n E o v := by exact rp_move rfl rfl) : RunP P n E o v := h
theorem zas (h : RunP P n E o v := by exact rp_assign rfl rfl) : RunP P n E o v := h
theorem zfa (h : RunP P n E o v := by first | exact rp_fieldAddr2 rfl rfl rfl rfl | exact rp_fieldAddr rfl rfl rfl rfl) : RunP P n E o v := h
theorem zbc (h : RunP P n E o v := by first | exact rp_bin rfl rfl rfl (binI_t (by omega)) | exact rp_bin rfl rfl rfl (binI_f (by omega)) | exact rp_bin rfl rfl rfl rfl) : RunP P n E o v := h
theorem zba (h : RunP P n E o v := by first | exact rp_bin rfl rfl rfl (binI_fit_add (wrap64 (by omega))) | exact rp_bin rfl rfl rfl rfl) : RunP P n E o v := h
theorem zbs (h : RunP P n E o v := by first | exact rp_bin rfl rfl rfl (binI_fit_sub (wrap64 (by omega))) | exact rp_bin rfl rfl rfl rfl) : RunP P n E o v := h
theorem zpk (h : RunP P n E o v := by first | exact rp_pick_t rfl rfl rfl | exact rp_pick_f rfl rfl rfl) : RunP P n E o v := h
theorem zix (h : RunP P n E o v := by exact rp_indexAddr _ rfl rfl rfl rfl rfl (by assumption) rfl (by first | omega | decide)) : RunP P n E o v := h
end
section
variable {ro : Option Nat} {P : Program} {n : Nat} {ds : List Deferred} {ops : List Oper} {dets done : List Nat} {pend : Pend} {Q : PostE} {E : Env} {w : World} {p q : Prop}
theorem Ox.fin (h : q) (e : q → Q .normal E w := by intro h; (repeat first | refine thenE_normal ?_ | refine blockE_normal ?_ | refine scopeE_normal ?_); exact h) : Ox P n ds ops Q [] E w := Ox.nil (e h)
theorem Wx.fin (h : q) (e : q → Q .normal E w := by intro h; (repeat first | refine thenE_normal ?_ | refine blockE_normal ?_ | refine scopeE_normal ?_); exact h) : Wx P n ds ops Q dets done [] 0 pend E w := Wx.nil (e h)
theorem ztx (h : q) (e : q → p := by intro h; (repeat refine Sx.seq ?_); refine Sx.textR ?_; exact h) : p := e h
theorem zct (h : q) (e : q → p := by intro h; (repeat refine Sx.seq ?_); (first | refine Sx.cond_true rfl ?_ | refine Sx.cond rfl (fun _ => ?_) (fun h9 => absurd h9 (by simp [*, -h]))); exact h) : p := e h
theorem zcf (h : q) (e : q → p := by intro h; (repeat refine Sx.seq ?_); (first | refine Sx.cond_false rfl ?_ | refine Sx.cond rfl (fun h9 => absurd h9 (by simp [*, -h])) (fun _ => ?_)); exact h) : p := e h
theorem zbl (h : q) (e : q → p := by intro h; (repeat refine Sx.seq ?_); refine Sx.block ?_; exact h) : p := e h
theorem zex (h : q) (e : q → p := by intro h; (repeat refine Sx.seq ?_); refine Sx.exit ?_; (repeat first | refine thenE_exit ?_ | refine blockE_same ?_ | refine blockE_other rfl ?_ | refine scopeE_exit ?_ | refine thenE_normal ?_ | refine blockE_normal ?_ | refine scopeE_normal ?_); exact h) : p := e h
theorem zsk (h : q) (e : q → p := by intro h; (repeat refine Sx.seq ?_); refine Sx.skip ?_; (repeat first | refine thenE_normal ?_ | refine blockE_normal ?_ | refine scopeE_normal ?_); exact h) : p := e h
theorem zrt (h : q) (e : q → p := by intro h; (repeat refine Sx.seq ?_); refine Sx.ret ?_; (repeat first | refine thenE_ret ?_ | refine blockE_ret ?_ | refine scopeE_ret ?_); exact h) : p := e h
end
end Go.Eng

/- The engine, part eleven: maps. -/
set_option linter.unusedVariables false
set_option linter.unusedSimpArgs false
set_option linter.unusedSectionVars false
namespace Go.Eng
open Go

section
variable {P : Program} {n : Nat} {ds : List Deferred} {Q : PostE} {E : Env} {w : World} {o : Oper}
variable {κ β : Type} [DecidableEq κ]

/-! ## Entries as a list -/
def look : List (κ × β) → κ → Option (Nat × β)
  | [], _ => none
  | x :: l, k => if x.1 = k then some (0, x.2) else (look l k).map fun r => (r.1 + 1, r.2)
theorem look_none : ∀ {l : List (κ × β)} {k : κ}, look l k = none ↔ ∀ x ∈ l, x.1 ≠ k
  | [], k => by simp [look]
  | x :: l, k => by
    simp only [look]
    by_cases h : x.1 = k
    · simp [h]
    · simp [h, look_none (l := l)]
theorem look_some : ∀ {l : List (κ × β)} {k : κ} {r : Nat × β}, look l k = some r → ∃ h : r.1 < l.length, l[r.1] = (k, r.2)
  | [], k, r, h => by cases h
  | x :: l, k, r, h => by
    simp only [look] at h
    by_cases hx : x.1 = k
    · rw [if_pos hx] at h
      obtain rfl := Option.some.inj h
      exact ⟨by simp, by simp [← hx]⟩
    · rw [if_neg hx] at h
      obtain ⟨r', h1, rfl⟩ := Option.map_eq_some_iff.1 h
      obtain ⟨h2, h3⟩ := look_some h1
      exact ⟨by simpa using h2, by simpa using h3⟩
def putL (l : List (κ × β)) (k : κ) (v : β) : List (κ × β) := match look l k with
  | some r => l.set r.1 (k, v)
  | none => l ++ [(k, v)]

/-- What a map's key type gives. -/
structure KeyT (P : Program) (kt : TypeId) (kv : κ → Value) : Prop where
  check : ∀ e k w, (Instr.checkKey e 10000 kt (kv k)).run P w = .ok () w
  find : ∀ (k : κ) (es : List MapEntry) (ks : List κ) (w : World), es.map (·.key) = ks.map kv → (Instr.findKey kt (kv k) es).run P w = .ok ((look (ks.zip (es.map (·.val))) k)) w
  same : ∀ k, Instr.sameBits 10000 (kv k) (kv k) = true

theorem findAsking_run {kt : TypeId} {kv : κ → Value} (heq : ∀ a b w, (Op.equal kt (kv a) (kv b)).run P w = .ok (decide (a = b)) w) (k : κ) : ∀ (es : List MapEntry) (ks : List κ) (i : Nat) (w : World), es.map (·.key) = ks.map kv →
    (Instr.findAsking kt (kv k) es i).run P w = .ok ((look (ks.zip (es.map (·.val))) k).map fun r => (i + r.1, r.2)) w
  | [], ks, i, w, h => by simp [Instr.findAsking, look]
  | e :: es, [], i, w, h => by simp at h
  | e :: es, a :: ks, i, w, h => by
    simp only [List.map_cons, List.cons.injEq] at h
    have ih := findAsking_run heq k es ks (i + 1) w h.2
    by_cases hk : a = k
    · subst hk
      have h2 := heq a a w
      rw [decide_eq_true rfl] at h2
      simp [Instr.findAsking, h.1, Sem.run_bind, h2, look, Result.andThen]
    · have h2 := heq k a w
      rw [decide_eq_false (fun h => hk h.symm)] at h2
      simp only [Instr.findAsking, h.1, Sem.run_bind, h2, Result.andThen, Bool.false_eq_true, if_false, ih, List.map_cons, List.zip_cons_cons, look, if_neg hk, Option.map_map]
      congr 2
      funext r
      simp; omega

/-- Keys that are structs (or whatever is no plain type). -/
theorem KeyT.ofEq {kt : TypeId} {kv : κ → Value} {d : TypeDesc} (hd : P.underlying kt = some d) (hn : ∀ k v, Instr.sameNow d (kv k) v = none) (hc : ∀ e k w, (Instr.checkKey e 10000 kt (kv k)).run P w = .ok () w)
    (heq : ∀ a b w, (Op.equal kt (kv a) (kv b)).run P w = .ok (decide (a = b)) w) (hs : ∀ k, Instr.sameBits 10000 (kv k) (kv k) = true) : KeyT P kt kv := by
  refine ⟨hc, fun k es ks w h => ?_, hs⟩
  have h1 := findAsking_run heq k es ks 0 w h
  simp only [Nat.zero_add] at h1
  have h2 : ∀ l : Option (Nat × Value), l.map (fun r => (r.1, r.2)) = l := fun l => by cases l <;> rfl
  rw [h2] at h1
  cases es with
  | nil => cases ks with
    | nil => simp [Instr.findKey, run_underlying hd, Instr.findNow, look]
    | cons a ks => simp at h
  | cons e es => simp only [Instr.findKey, Sem.run_bind, run_underlying hd, Result.andThen, Instr.findNow, hn, h1]

/-- A map in memory: its entries as a list. -/
def MapL (kv : κ → Value) (ev : β → Value) (w : World) (b : Nat) (l : List (κ × β)) : Prop :=
  ∃ es clock, w.heap[b]? = some (.map es clock) ∧ es.toList.map (fun e => (e.key, e.val)) = l.map (fun x => (kv x.1, ev x.2)) ∧ (∀ e ∈ es.toList, e.born < clock) ∧ (es.toList.map (·.born)).Nodup

theorem MapL.ext {kv : κ → Value} {ev : β → Value} {w w' : World} {b : Nat} {l : List (κ × β)} {X : List Nat} (h : MapL kv ev w b l) (he : Ext X w w') (hX : b ∉ X) : MapL kv ev w' b l := by
  obtain ⟨es, clock, hb, h1, h2, h3⟩ := h
  exact ⟨es, clock, (he.keep b (Array.getElem?_eq_some_iff.1 hb).1 hX).trans hb, h1, h2, h3⟩
theorem MapL.ext0 {kv : κ → Value} {ev : β → Value} {w w' : World} {b : Nat} {l : List (κ × β)} (h : MapL kv ev w b l) (he : Ext [] w w') : MapL kv ev w' b l := h.ext he (by simp)
theorem MapL.lt {kv : κ → Value} {ev : β → Value} {w : World} {b : Nat} {l : List (κ × β)} (h : MapL kv ev w b l) : b < w.heap.size := by
  obtain ⟨es, clock, hb, _⟩ := h
  exact (Array.getElem?_eq_some_iff.1 hb).1

theorem fst_of_rel {kv : κ → Value} {ev : β → Value} {es : List MapEntry} {l : List (κ × β)} (h : es.map (fun e => (e.key, e.val)) = l.map (fun x => (kv x.1, ev x.2))) : es.map (·.key) = (l.map Prod.fst).map kv := by
  have := congrArg (List.map Prod.fst) h
  simpa [List.map_map, Function.comp_def] using this
theorem snd_of_rel {kv : κ → Value} {ev : β → Value} {es : List MapEntry} {l : List (κ × β)} (h : es.map (fun e => (e.key, e.val)) = l.map (fun x => (kv x.1, ev x.2))) : es.map (·.val) = (l.map Prod.snd).map ev := by
  have := congrArg (List.map Prod.snd) h
  simpa [List.map_map, Function.comp_def] using this
theorem look_zip (ev : β → Value) (k : κ) : ∀ l : List (κ × β), look ((l.map Prod.fst).zip ((l.map Prod.snd).map ev)) k = (look l k).map fun r => (r.1, ev r.2)
  | [] => rfl
  | x :: l => by
    simp only [List.map_cons, List.zip_cons_cons, look, look_zip ev k l]
    by_cases h : x.1 = k
    · simp [h]
    · simp [h, Function.comp_def]

/-- A key is looked for. -/
theorem KeyT.run {kt : TypeId} {kv : κ → Value} {ev : β → Value} (K : KeyT P kt kv) {es : List MapEntry} {l : List (κ × β)} (h : es.map (fun e => (e.key, e.val)) = l.map (fun x => (kv x.1, ev x.2))) (k : κ) (w : World) :
    (Instr.findKey kt (kv k) es).run P w = .ok ((look l k).map fun r => (r.1, ev r.2)) w := by
  rw [K.find k es _ w (fst_of_rel h), snd_of_rel h, look_zip]

/-- A new map. -/
theorem acts_makeMap {t : TypeId} (kv : κ → Value) (ev : β → Value) (ho : o.op = .makeMap t none) : Acts P n ds E o w (fun v w' => Ext [] w w' ∧ ∃ b, v = .map (some b) ∧ w.heap.size ≤ b ∧ MapL kv ev w' b []) Q := by
  intro a ha _
  refine .inl ⟨.map (some w.heap.size), w.alloc (.map #[] 0), ?_, Ext.push _ _ _, w.heap.size, rfl, Nat.le_refl _, #[], 0, ?_, rfl, by simp, by simp⟩
  · simp [execOp, ho, Instr.makeMap]
  · show (w.heap.push _)[w.heap.size]? = _; simp

theorem nodup_inj {α : Type} {l : List α} (h : l.Nodup) {i j : Nat} (hi : i < l.length) (hj : j < l.length) (he : l[i] = l[j]) : i = j := by
  have h2 := List.pairwise_iff_getElem.1 h
  rcases Nat.lt_trichotomy i j with h3 | h3 | h3
  · exact absurd he (h2 i j hi hj h3)
  · exact h3
  · exact absurd he.symm (h2 j i hj hi h3)
theorem filterMap_range {α : Type} (l : List α) : (List.range l.length).filterMap (fun j => l[j]?) = l := by
  have h : ∀ n, (List.range n).filterMap (fun j => l[j]?) = l.take n := fun n => by
    induction n with
    | zero => simp
    | succ n ih =>
      rw [List.range_succ, List.filterMap_append, ih, List.take_add_one]
      congr 1
  rw [h, List.take_length]
theorem setObj_ext (w : World) (r : Nat) (o : Obj) : Ext [r] w { w with heap := w.heap.setIfInBounds r o } :=
  ⟨rfl, rfl, rfl, by simp, fun k _ hk => by simp only [Array.getElem?_setIfInBounds]; rw [if_neg (fun e => hk (by simp [e]))], Nat.le_refl _⟩

/-- A store into a map. -/
theorem acts_mapUpdate {t kt et : TypeId} {kv : κ → Value} {ev : β → Value} {x y z : Operand} {b : Nat} {l : List (κ × β)} (k : κ) (v : β) (ho : o.op = .mapUpdate t x y z) (ht : P.underlying t = some (.map kt et)) (K : KeyT P kt kv)
    (hx : Go.Eng.ev E x = some (.map (some b))) (hy : Go.Eng.ev E y = some (kv k)) (hz : Go.Eng.ev E z = some (ev v)) (hM : MapL kv ev w b l) : Acts P n ds E o w (fun u w' => u = undef ∧ Ext [b] w w' ∧ MapL kv ev w' b (putL l k v)) Q := by
  intro a ha _
  obtain ⟨es, clock, hb, hrel, hlt, hnd⟩ := hM
  have hf := K.run hrel k w
  have hlt' : b < w.heap.size := (Array.getElem?_eq_some_iff.1 hb).1
  have hx' := ha.eval hx
  have hy' := ha.eval hy
  have hz' := ha.eval hz
  cases hl : look l k with
  | none =>
    rw [hl] at hf
    refine .inr (.inl ⟨{ w with heap := w.heap.setIfInBounds b (.map (es.push { key := kv k, val := ev v, born := clock }) (clock + 1)) }, ?_, rfl, setObj_ext _ _ _, es.push { key := kv k, val := ev v, born := clock }, clock + 1, ?_, ?_, ?_, ?_⟩)
    · simp [execOp, ho, hx', hy', hz', Instr.mapUpdate, run_underlying ht, MapKept.run_getObj_map hb, K.check, hf, MapKept.run_setObj_map _ hb, Result.andThen]
    · simp [hlt']
    · simp [putL, hl, hrel]
    · intro e he
      simp only [Array.toList_push, List.mem_append, List.mem_singleton] at he
      rcases he with he | rfl
      · have := hlt e he; omega
      · simp
    · simp only [Array.toList_push, List.map_append, List.map_cons, List.map_nil, List.nodup_append]
      refine ⟨hnd, by simp, fun x hx y hy => ?_⟩
      obtain ⟨e, he, rfl⟩ := List.mem_map.1 hx
      simp only [List.mem_singleton] at hy
      have := hlt e he
      omega
  | some r =>
    rw [hl] at hf
    obtain ⟨hr, hre⟩ := look_some hl
    have hlen : es.toList.length = l.length := by have := congrArg List.length hrel; simpa using this
    have hres : r.1 < es.size := by rw [Array.length_toList] at hlen; omega
    have hkey : es[r.1].key = kv k := by
      have := congrArg (fun x => (x[r.1]?).map Prod.fst) hrel
      simpa [hr, hres, hre] using this
    have hst : (Instr.keyThatStays (((es[r.1]?).map (·.key)).getD (kv k)) (kv k)).run P w = .ok (kv k) w := by
      rw [Array.getElem?_eq_getElem hres]
      simp [hkey, Instr.keyThatStays, K.same]
    refine .inr (.inl ⟨{ w with heap := w.heap.setIfInBounds b (.map (es.modify r.1 fun e => { e with key := kv k, val := ev v }) clock) }, ?_, rfl, setObj_ext _ _ _, es.modify r.1 fun e => { e with key := kv k, val := ev v }, clock, ?_, ?_, ?_, ?_⟩)
    · simp only [execOp, ho, hx', hy', hz', Instr.mapUpdate, Sem.run_bind, run_underlying ht, MapKept.run_getObj_map hb, K.check, hf, Result.andThen, Option.map_some, hst, MapKept.run_setObj_map _ hb]
      rfl
    · simp [hlt']
    · simp only [putL, hl]
      apply List.ext_getElem
      · simp [hlen]
      · intro j h1 h2
        simp only [List.length_map, Array.length_toList, Array.size_modify] at h1
        have h3 : j < l.length := by rw [← hlen]; simpa using h1
        have h4 := congrArg (fun x => x[j]?) hrel
        simp only [List.getElem?_map, Array.getElem?_toList, Array.getElem?_eq_getElem h1, List.getElem?_eq_getElem h3, Option.map_some, Option.some.injEq] at h4
        simp only [List.getElem_map, Array.getElem_toList, Array.getElem_modify, List.getElem_set]
        by_cases hj : r.1 = j
        · simp [hj]
        · simp [hj, h4]
    · intro e he
      obtain ⟨j, hj, rfl⟩ := List.getElem_of_mem he
      simp only [Array.length_toList, Array.size_modify] at hj
      simp only [Array.getElem_toList, Array.getElem_modify]
      have := hlt es[j] (by simp)
      split <;> simpa using this
    · have : (es.modify r.1 fun e => { e with key := kv k, val := ev v }).toList.map (·.born) = es.toList.map (·.born) := by
        apply List.ext_getElem
        · simp
        · intro j h1 h2
          simp only [List.getElem_map, Array.getElem_toList, Array.getElem_modify]
          split <;> rfl
      rw [this]; exact hnd

/-! ## A range over a map -/

/-- A range over the map in b, with the iterator in r: done has come. -/
def MapIt (kv : κ → Value) (ev : β → Value) (w : World) (b r : Nat) (l done : List (κ × β)) : Prop :=
  ∃ es clock since seen c0, w.heap[b]? = some (.map es clock) ∧ es.toList.map (fun e => (e.key, e.val)) = l.map (fun x => (kv x.1, ev x.2)) ∧ (∀ e ∈ es.toList, e.born < clock) ∧ (es.toList.map (·.born)).Nodup ∧
    w.heap[r]? = some (.mapIter (some b) since seen c0) ∧ (∀ e ∈ es.toList, e.born < since) ∧ since ≤ c0 ∧ since ≤ clock ∧ (done ≠ [] → c0 = clock) ∧
    ∃ js : List Nat, js.Nodup ∧ (∀ j ∈ js, j < l.length) ∧ seen.toList = js.filterMap (fun j => es[j]?.map (·.born)) ∧ done = js.filterMap (fun j => l[j]?)

theorem MapIt.ext {kv : κ → Value} {ev : β → Value} {w w' : World} {b r : Nat} {l done : List (κ × β)} {X : List Nat} (h : MapIt kv ev w b r l done) (he : Ext X w w') (hb : b ∉ X) (hr : r ∉ X) : MapIt kv ev w' b r l done := by
  obtain ⟨es, clock, since, seen, c0, h1, h2, h3, h4, h5, h6⟩ := h
  exact ⟨es, clock, since, seen, c0, (he.keep b (Array.getElem?_eq_some_iff.1 h1).1 hb).trans h1, h2, h3, h4, (he.keep r (Array.getElem?_eq_some_iff.1 h5).1 hr).trans h5, h6⟩
theorem MapIt.lt {kv : κ → Value} {ev : β → Value} {w : World} {b r : Nat} {l done : List (κ × β)} (h : MapIt kv ev w b r l done) : r < w.heap.size := by
  obtain ⟨es, clock, since, seen, c0, h1, h2, h3, h4, h5, h6⟩ := h
  exact (Array.getElem?_eq_some_iff.1 h5).1
theorem MapIt.owns {kv : κ → Value} {ev : β → Value} {w : World} {b r : Nat} {l done : List (κ × β)} (h : MapIt kv ev w b r l done) : MapL kv ev w b l := by
  obtain ⟨es, clock, since, seen, c0, h1, h2, h3, h4, _⟩ := h
  exact ⟨es, clock, h1, h2, h3, h4⟩

theorem acts_rangeMap {t kt et : TypeId} {kv : κ → Value} {ev : β → Value} {x : Operand} {b : Nat} {l : List (κ × β)} (ho : o.op = .range t x) (ht : P.underlying t = some (.map kt et))
    (hx : Go.Eng.ev E x = some (.map (some b))) (hM : MapL kv ev w b l) : Acts P n ds E o w (fun v w' => Ext [] w w' ∧ ∃ r, v = .pointer (some ⟨r, 0, none⟩) ∧ w.heap.size ≤ r ∧ MapIt kv ev w' b r l []) Q := by
  intro a ha _
  have hlt := hM.lt
  obtain ⟨es, clock, hb, hrel, hlt2, hnd⟩ := hM
  have hx' := ha.eval hx
  refine .inl ⟨_, w.alloc (.mapIter (some b) clock #[] clock), ?_, Ext.push _ _ _, w.heap.size, rfl, Nat.le_refl _, es, clock, clock, #[], clock, ?_, hrel, hlt2, hnd, ?_, hlt2, Nat.le_refl _, Nat.le_refl _, fun h => absurd rfl h, [], by simp, by simp, by simp, by simp⟩
  · have := run_range_map w t kt et b es clock ht hb
    simp [execOp, ho, hx', this]
  · show (w.heap.push _)[b]? = _; rw [Array.getElem?_push, if_neg (by omega)]; exact hb
  · show (w.heap.push _)[w.heap.size]? = _; simp

theorem acts_nextMap {x : Operand} {kv : κ → Value} {ev : β → Value} {b r : Nat} {l done : List (κ × β)} (ho : o.op = .next x false) (hx : Go.Eng.ev E x = some (.pointer (some ⟨r, 0, none⟩))) (hM : MapIt kv ev w b r l done) (hl : l.Nodup) :
    Acts P n ds E o w (fun v w' => (v = .tuple #[.bool false] ∧ w' = w ∧ done.Perm l) ∨ ∃ y ∈ l, y ∉ done ∧ v = .tuple #[.bool true, kv y.1, ev y.2] ∧ Ext [r] w w' ∧ MapIt kv ev w' b r l (done ++ [y])) Q := by
  intro a ha _
  obtain ⟨es, clock, since, seen, c0, hb, hrel, hlt2, hnd, hr, hold, hsc, hsk, hck, js, hjn, hjl, hseen, hdone⟩ := hM
  have hx' := ha.eval hx
  have hlen : es.size = l.length := by have := congrArg List.length hrel; simpa using this
  have hrlt := (Array.getElem?_eq_some_iff.1 hr).1
  have hat : ∀ j (h : j < l.length), (es[j]'(by omega)).key = kv l[j].1 ∧ (es[j]'(by omega)).val = ev l[j].2 := fun j h => by
    have h1 : j < es.size := by omega
    have := congrArg (fun x => x[j]?) hrel
    simp only [List.getElem?_map, Array.getElem?_toList, Array.getElem?_eq_getElem h1, List.getElem?_eq_getElem h, Option.map_some, Option.some.injEq, Prod.mk.injEq] at this
    exact this
  have hseenm : ∀ j (h : j < es.size), es[j].born ∈ seen ↔ j ∈ js := fun j h => by
    rw [← Array.mem_toList_iff, hseen, List.mem_filterMap]
    constructor
    · rintro ⟨i, hi, he⟩
      have hil : i < es.size := by have := hjl i hi; omega
      rw [Array.getElem?_eq_getElem hil, Option.map_some, Option.some.injEq] at he
      have := nodup_inj hnd (i := i) (j := j) (by simpa using hil) (by simpa using h) (by simpa using he)
      rw [← this]; exact hi
    · intro hj
      exact ⟨j, hj, by simp [h]⟩
  rcases run_next_at (P := P) w o.type r b since c0 seen es clock hr hb hold hsc with ⟨h0, hrun⟩ | ⟨e, he, w1, hw1, hrun⟩
  · refine .inl ⟨_, w, ?_, .inl ⟨rfl, rfl, ?_⟩⟩
    · simp [execOp, ho, hx', hrun]
    · have hall : ∀ j, j < l.length → j ∈ js := fun j hj => by
        have h1 : j < es.size := by omega
        refine (hseenm j h1).1 ?_
        have := Array.eq_empty_of_size_eq_zero h0
        unfold leftOf at this
        rw [Array.filter_eq_empty_iff] at this
        simpa using this es[j] (by simp)
      have hjp : js.Perm (List.range l.length) := (List.perm_ext_iff_of_nodup hjn List.nodup_range).2 fun j => by
        rw [List.mem_range]; exact ⟨hjl j, hall j⟩
      rw [hdone]
      exact (hjp.filterMap _).trans (.of_eq (filterMap_range l))
  · have hmem : e ∈ es.toList ∧ e.born ∉ seen := by unfold leftOf at he; simpa using he
    obtain ⟨j, hj, rfl⟩ := List.getElem_of_mem hmem.1
    have hj1 : j < es.size := by simpa using hj
    have hj2 : j < l.length := by omega
    simp only [Array.getElem_toList] at hmem hrun
    have hjs : j ∉ js := fun h => hmem.2 ((hseenm j hj1).2 h)
    have hexw : Ext [] w w1 := by
      rcases hw1 with rfl | rfl
      · exact Ext.refl _ _
      · exact Ext.draw _ _
    have hr1 : r < w1.heap.size := Nat.lt_of_lt_of_le hrlt hexw.size
    have hb1 : w1.heap[b]? = some (.map es clock) := (hexw.keep b (Array.getElem?_eq_some_iff.1 hb).1 (by simp)).trans hb
    have hbr : r ≠ b := fun h => by rw [h, hb] at hr; cases hr
    have hdl : l[j] ∉ done := fun h => by
      rw [hdone, List.mem_filterMap] at h
      obtain ⟨i, hi, he⟩ := h
      have hil := hjl i hi
      rw [List.getElem?_eq_getElem hil, Option.some.injEq] at he
      exact hjs (nodup_inj hl hil hj2 he ▸ hi)
    refine .inl ⟨.tuple #[.bool true, es[j].key, es[j].val], ChangeMaps.setBlock w1 r (.mapIter (some b) since (seen.push es[j].born) clock), ?_, .inr ⟨l[j], List.getElem_mem hj2, hdl, ?_, (hexw.up).trans (setObj_ext w1 r _), es, clock, since, seen.push es[j].born, clock, ?_, hrel, hlt2, hnd, ?_, hold, hsk, hsk, fun _ => rfl, js ++ [j], ?_, ?_, ?_, ?_⟩⟩
    · simp only [execOp, ho, hx', Sem.run_bind, hrun, Result.andThen]; rfl
    · rw [(hat j hj2).1, (hat j hj2).2]
    · show (w1.heap.setIfInBounds r _)[b]? = _
      rw [Array.getElem?_setIfInBounds, if_neg hbr]; exact hb1
    · show (w1.heap.setIfInBounds r _)[r]? = _
      rw [Array.getElem?_setIfInBounds, if_pos rfl, if_pos hr1]
    · rw [List.nodup_append]
      exact ⟨hjn, by simp, fun a ha b hb => by simp only [List.mem_singleton] at hb; rintro rfl; exact hjs (hb ▸ ha)⟩
    · intro i hi
      rcases List.mem_append.1 hi with h | h
      · exact hjl i h
      · rw [List.mem_singleton.1 h]; exact hj2
    · simp [hseen, hj1]
    · simp [hdone, hj2]

theorem acts_entryMap {x : Operand} {kv : κ → Value} {ev : β → Value} {b r : Nat} {l done : List (κ × β)} {y : κ × β} (ho : o.op = .entry x) (hx : Go.Eng.ev E x = some (.pointer (some ⟨r, 0, none⟩))) (hM : MapIt kv ev w b r l (done ++ [y])) :
    Acts P n ds E o w (fun v w' => v = .tuple #[kv y.1, ev y.2] ∧ w' = w) Q := by
  intro a ha _
  obtain ⟨es, clock, since, seen, c0, hb, hrel, hlt2, hnd, hr, hold, hsc, hck, hcc, js, hjn, hjl, hseen, hdone⟩ := hM
  have hx' := ha.eval hx
  have hlen : es.size = l.length := by have := congrArg List.length hrel; simpa using this
  have hmp : ∀ is : List Nat, (∀ j ∈ is, j < l.length) → (is.filterMap fun j => l[j]?).length = is.length := fun is => by
    induction is with
    | nil => intro _; rfl
    | cons j is ih => intro h; simp [List.getElem?_eq_getElem (h j (by simp)), ih fun i hi => h i (by simp [hi])]
  obtain ⟨is, j, rfl⟩ : ∃ is j, js = is ++ [j] := by
    rcases List.eq_nil_or_concat js with rfl | ⟨is, j, rfl⟩
    · simp at hdone
    · exact ⟨is, j, by simp⟩
  have hj2 := hjl j (by simp)
  have hj1 : j < es.size := by omega
  have hy : y = l[j] := by
    simp only [List.filterMap_append, List.filterMap_cons, List.filterMap_nil, List.getElem?_eq_getElem hj2] at hdone
    have := congrArg List.getLast? hdone
    simpa using this
  have hs : seen = (seen.pop).push es[j].born := by
    simp only [List.filterMap_append, List.filterMap_cons, List.filterMap_nil, Array.getElem?_eq_getElem hj1, Option.map_some] at hseen
    apply Array.toList_inj.1
    rw [Array.toList_push, Array.toList_pop, hseen]
    simp
  have hkv : es[j].key = kv l[j].1 ∧ es[j].val = ev l[j].2 := by
    have := congrArg (fun x => x[j]?) hrel
    simpa [hj1, hj2] using this
  have hc := hcc (by simp)
  subst hc
  rw [hs] at hr
  have hrun := run_entry_at (P := P) w r b since seen.pop es c0 es[j] hr hb (by simp) hnd
  refine .inl ⟨.tuple #[es[j].key, es[j].val], w, ?_, ?_, rfl⟩
  · simp only [execOp, ho, hx', Sem.run_bind, hrun, Result.andThen]; rfl
  · rw [hkv.1, hkv.2, hy]

theorem nodup_len : ∀ (n : Nat) (js : List Nat), js.Nodup → (∀ j ∈ js, j < n) → js.length ≤ n
  | 0, js, _, h => by
    cases js with
    | nil => simp
    | cons j js => exact absurd (h j (by simp)) (by omega)
  | n + 1, js, hn, h => by
    by_cases hm : n ∈ js
    · have h1 := nodup_len n (js.erase n) (hn.erase n) (fun j hj => by
        have h2 := h j (List.mem_of_mem_erase hj)
        have h3 : j ≠ n := fun e => by subst e; exact (List.Nodup.not_mem_erase hn) hj
        omega)
      have := List.length_erase_of_mem hm
      omega
    · have := nodup_len n js hn (fun j hj => by
        have h2 := h j hj
        have h3 : j ≠ n := fun e => hm (e ▸ hj)
        omega)
      omega
theorem MapIt.le {kv : κ → Value} {ev : β → Value} {w : World} {b r : Nat} {l done : List (κ × β)} (h : MapIt kv ev w b r l done) : done.length ≤ l.length := by
  obtain ⟨es, clock, since, seen, c0, hb, hrel, hlt2, hnd, hr, hold, hsc, hck, hcc, js, hjn, hjl, hseen, hdone⟩ := h
  have hmp : ∀ is : List Nat, (∀ j ∈ is, j < l.length) → (is.filterMap fun j => l[j]?).length = is.length := fun is => by
    induction is with
    | nil => intro _; rfl
    | cons j is ih => intro h; simp [List.getElem?_eq_getElem (h j (by simp)), ih fun i hi => h i (by simp [hi])]
  rw [hdone, hmp js hjl]
  exact nodup_len _ _ hjn hjl
/-- Nothing is left. -/
theorem acts_nextMap_done {x : Operand} {kv : κ → Value} {ev : β → Value} {b r : Nat} {l done : List (κ × β)} (ho : o.op = .next x false) (hx : Go.Eng.ev E x = some (.pointer (some ⟨r, 0, none⟩))) (hM : MapIt kv ev w b r l done) (hl : l.Nodup) (hd : l.length ≤ done.length) :
    Acts P n ds E o w (fun v w' => v = .tuple #[.bool false] ∧ w' = w ∧ done.Perm l) Q :=
  (acts_nextMap ho hx hM hl).mono fun v w' h => by
    rcases h with h | ⟨y, _, _, _, _, h⟩
    · exact h
    · have := h.le; simp at this; omega
/-- One more comes. -/
theorem acts_nextMap_more {x : Operand} {kv : κ → Value} {ev : β → Value} {b r : Nat} {l done : List (κ × β)} (ho : o.op = .next x false) (hx : Go.Eng.ev E x = some (.pointer (some ⟨r, 0, none⟩))) (hM : MapIt kv ev w b r l done) (hl : l.Nodup) (hd : done.length < l.length) :
    Acts P n ds E o w (fun v w' => ∃ y ∈ l, y ∉ done ∧ v = .tuple #[.bool true, kv y.1, ev y.2] ∧ Ext [r] w w' ∧ MapIt kv ev w' b r l (done ++ [y])) Q :=
  (acts_nextMap ho hx hM hl).mono fun v w' h => by
    rcases h with ⟨_, _, h⟩ | h
    · have := h.length_eq; omega
    · exact h

/-- A struct's fields may be keys if each may. -/
theorem run_checkStruct {t : TypeId} {fs : Array Field} {cs : Array Value} {m : Nat} (e : Bool) (ht : P.underlying t = some (.struct fs)) (w : World)
    (h : ∀ f ∈ fs.toList, ∃ v, (part f.type cs f.offset).run P w = .ok v w ∧ (Instr.checkKey e m f.type v).run P w = .ok () w) : (Instr.checkKey e (m + 1) t (.agg cs)).run P w = .ok () w := by
  rw [Instr.checkKey]
  simp only [Sem.run_bind, run_underlying ht, Result.andThen_ok]
  rw [← Array.forIn_toList]
  generalize fs.toList = L at h
  induction L with
  | nil => simp
  | cons f L ih =>
    obtain ⟨v, h1, h2⟩ := h f (by simp)
    by_cases hn : f.name = "_"
    · simp only [List.forIn_cons, Sem.run_bind, hn, ne_eq, not_true_eq_false, if_false, Result.andThen_ok, Sem.run_pure]
      exact ih (fun y hy => h y (by simp [hy]))
    · simp only [List.forIn_cons, Sem.run_bind, hn, ne_eq, not_false_eq_true, if_true, Result.andThen_ok, h1, h2, Sem.run_pure]
      exact ih (fun y hy => h y (by simp [hy]))

end

/-! ## Scopes (functions that hold labels, no goto) -/
def scopeE (Q : PostE) : PostE
  | .goto _, _, _ => False
  | .normal, E, w => Q .normal E w
  | .exit j, E, w => Q (.exit j) E w
  | .ret, E, w => Q .ret E w
  | .panic c, E, w => Q (.panic c) E w
  | .outgrown, E, w => Q .outgrown E w
section
variable {F : Fence} {n : Nat} {P : Program} {Q : PostE} {E : Env} {w : World} {ds : List Deferred} {ro : Option Nat}
theorem scopeE_normal (h : Q .normal E w) : scopeE Q .normal E w := h
theorem scopeE_exit {j : Nat} (h : Q (.exit j) E w) : scopeE Q (.exit j) E w := h
theorem scopeE_ret (h : Q .ret E w) : scopeE Q .ret E w := h
theorem scopeE_panic {c : List PanicEntry} (h : Q (.panic c) E w) : scopeE Q (.panic c) E w := h
theorem stepR_scope {b : Frame} {a : Act} {k : List Item} {cs : List Frame} {c : Code} : step P (lone (b.atR a (.code (.scope c) :: k)) cs w) = .next (lone (b.atR a (.code c :: .inScope c :: k)) cs w) :=
  step_lone_go (by simp [stepG, stepG.exec, Frame.atR])
theorem stepR_inScope {b : Frame} {a : Act} {k : List Item} {cs : List Frame} {c : Code} : step P (lone (b.atR a (.inScope c :: k)) cs w) = .next (lone (b.atR a k) cs w) :=
  step_lone_go (by simp [stepG, stepG.exec, Frame.atR])
theorem wpIn_scope {R R' : Exit → Act → World → Prop} {a : Act} {c : Code} (h : c.wpIn F n P R' a w) (hR : ∀ e a w, R' e a w → R e a w ∧ ∀ l, e ≠ .goto l) : (Code.scope c).wpIn F n P R a w := by
  intro b k cs hro hb hr
  have h0 : (lone (b.atR a (.code (.scope c) :: k)) cs w).fenced P F := fenced_calm hb hr rfl
  obtain ⟨e, a₁, w₁, hq, harr⟩ := h b (.inScope c :: k) cs hro hb hr
  obtain ⟨hq, hng⟩ := hR _ _ _ hq
  cases e with
  | normal => exact ⟨.normal, a₁, w₁, hq, .head h0 stepR_scope (StepsIn.trans harr (.one (fenced_calm hb hr rfl) stepR_inScope))⟩
  | exit id =>
    have hx : exitTo id (.inScope c :: k) = exitTo id k := by simp [exitTo]
    exact ⟨.exit id, a₁, w₁, hq, fun k' hk => .head h0 stepR_scope (harr.1 k' (by rw [hx]; exact hk)),
      fun hr' hk => let ⟨k₁, h1, h2⟩ := harr.2 hr' (by rw [hx]; exact hk); ⟨k₁, h1, .head h0 stepR_scope h2⟩⟩
  | goto l => exact absurd rfl (hng l)
  | ret => exact ⟨_, a₁, w₁, hq, .of_steps (.one h0 stepR_scope) harr⟩
  | panic ch => exact ⟨_, a₁, w₁, hq, .of_steps (.one h0 stepR_scope) harr⟩
  | outgrown => exact ⟨_, a₁, w₁, hq, .of_steps (.one h0 stepR_scope) harr⟩
theorem Sx.scope {c : Code} (h : Sx ro P n ds c (scopeE Q) E w) : Sx ro P n ds (.scope c) Q E w := fun a ha hd =>
  wpIn_scope (h a ha hd) fun e a w h => by
    obtain ⟨E', h1, h2, h3⟩ := h
    cases e with
    | goto l => exact h3.elim
    | _ => exact ⟨⟨E', h1, h2, h3⟩, fun l h => by cases h⟩
end

section
variable {P : Program} {n : Nat} {ds : List Deferred} {ops : List Oper} {Q : PostE} {dets done : List Nat} {m : Nat} {pend : Pend} {E : Env} {w : World}
/-- Three acts may come up. -/
theorem Wx.fork3 {i j k : Nat} (hr : (Region.ready .any ops.toArray (listedOf ops done) == [i, j, k]) = true) (hi : Br P n ds ops Q dets done m pend E w i) (hj : Br P n ds ops Q dets done m pend E w j) (hl : Br P n ds ops Q dets done m pend E w k) :
    Wx P n ds ops Q dets done [] (m + 1) pend E w := by
  intro hs _ hc hp a ha hds
  have hr := eq_of_beq hr
  refine ⟨fun h0 => (by rw [h0] at hr; cases hr), fun x hk => ?_⟩
  have hk' := hk
  rw [hr] at hk'
  simp only [List.mem_cons, List.not_mem_nil, or_false] at hk'
  rcases hk' with rfl | rfl | rfl
  · have := hi hs hc hk hp a ha hds
    simpa using this
  · have := hj hs hc hk hp a ha hds
    simpa using this
  · have := hl hs hc hk hp a ha hds
    simpa using this
end
end Go.Eng
