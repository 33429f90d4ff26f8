/- The law FactsRead: a read is alike exactly if no changed day of its key is in it; what changed differs on the first day of each span: for every list, read and two times, no condition. -/
import Derived.Test.YtjneaeghloffnaaRows
import Derived.Test.YtjneaeghloffnaaFactW
import Derived.Test.YtjneaeghloffnaaFactY
set_option linter.unusedVariables false
set_option maxRecDepth 100000
set_option maxHeartbeats 4000000
set_option linter.unusedSimpArgs false
namespace Go.Proofs.Ytjneaeghloffnaa
open Go Go.Eng

theorem rp_eqb_t {P : Program} {n : Nat} {E : Env} {o : Oper} {t t' : TypeId} {x y : Operand} {a : Bool} (ho : o.op = .binOp .eql t x y t') (ht : P.underlying t = some .bool) (hx : ev E x = some (.bool a)) (hy : ev E y = some (.bool a)) : RunP P n E o (.bool true) := by
  have := rp_eqb (P := P) (n := n) ho ht hx hy
  rwa [beq_self_eq_true] at this
def HitTo (r : Rd) (ds : List Df) (i : Nat) : Prop := ∃ d ∈ ds.take i, ∃ s ∈ d.days, Hit r d.key s
theorem mem_take_succ {α : Type} {l : List α} {i : Nat} (hi : i < l.length) {x : α} : x ∈ l.take (i + 1) ↔ x ∈ l.take i ∨ x = l[i] := by
  rw [← List.take_append_getElem hi, List.mem_append, List.mem_singleton]
theorem hitTo_succ {r : Rd} {ds : List Df} {i : Nat} (hi : i < ds.length) : HitTo r ds (i + 1) ↔ HitTo r ds i ∨ ∃ s ∈ ds[i].days, Hit r ds[i].key s := by
  unfold HitTo
  constructor
  · rintro ⟨d, hd, h⟩
    rcases (mem_take_succ hi).1 hd with h1 | rfl
    · exact .inl ⟨d, h1, h⟩
    · exact .inr h
  · rintro (⟨d, hd, h⟩ | h)
    · exact ⟨d, (mem_take_succ hi).2 (.inl hd), h⟩
    · exact ⟨_, (mem_take_succ hi).2 (.inr rfl), h⟩
theorem hit_all {ds : List Df} {l : List Fct} {r : Rd} {bef aft : Int} (h : ds.map Df.val = changedL l bef aft) : HitTo r ds ds.length ↔ ∃ x ∈ changedL l bef aft, ∃ s ∈ x.2, Hit r x.1 s := by
  unfold HitTo
  rw [List.take_length, ← h]
  constructor
  · rintro ⟨d, hd, h⟩; exact ⟨_, List.mem_map.2 ⟨d, hd, rfl⟩, h⟩
  · rintro ⟨x, hx, h⟩
    obtain ⟨d, hd, rfl⟩ := List.mem_map.1 hx
    exact ⟨d, hd, h⟩
theorem df_mem {ds : List Df} {l : List Fct} {bef aft : Int} (h : ds.map Df.val = changedL l bef aft) {d : Df} (hd : d ∈ ds) : (d.key, d.days) ∈ changedL l bef aft := by
  rw [← h]; exact List.mem_map.2 ⟨d, hd, rfl⟩

theorem readLaw (l : List Fct) (r : Rd) (bef aft : Int) (p : Option Addr) (A : Addr) (c : Nat) (W : World) (hs : SlV fc W p A l c) :
    Calls Try.prog 9 #[.slice p l.length c, .agg (rc r).toArray, .int .i64 bef, .int .i64 aft] W (Ret fun r w' => Ext [] W w' ∧ r = .bool true) := by
  have hp := hs.ptr
  have hrow := hs.row
  have hf1 := hs.few
  refine calls_of_Sx (args := [.slice p l.length c, .agg (rc r).toArray, .int .i64 bef, .int .i64 aft]) Try.func9 rfl rfl ?_
  by_cases hfew : l.length ≤ 10; rotate_left
  · (repeat refine Sx.seq ?_)
    refine Sx.textR ?_
    refine Ox.act rfl rfl (acts_box rfl rfl) ?_
    rintro vbx wbx ⟨ebx, bbx, rfl, hbbx, hBbx⟩
    first | (have hCbx : Cells wbx ⟨bbx, 0, none⟩ [_, _, _, _, _] := hBbx.cells) | have hCbx := Blk.cellsL hBbx
    have hlbx := hBbx.lt
    have hzbx := ebx.size
    refine Ox.pure rfl rfl (rp_assign rfl rfl) ?_
    refine Ox.nil ?_
    (repeat first | refine thenE_normal ?_ | refine blockE_normal ?_ | refine scopeE_normal ?_)
    (repeat refine Sx.seq ?_)
    refine Sx.textR ?_
    refine Ox.act rfl rfl (acts_call rfl rfl rfl (sane_at _)) ?_
    rintro v1 w1 ⟨e1, rfl⟩
    have hz1 := e1.size
    refine Ox.pure rfl rfl (rp_not rfl rfl) ?_
    refine Ox.nil ?_
    (repeat first | refine thenE_normal ?_ | refine blockE_normal ?_ | refine scopeE_normal ?_)
    (repeat refine Sx.seq ?_); first | refine Sx.cond_false rfl ?_ | refine Sx.cond rfl (fun h => absurd h (by simp [*])) (fun _ => ?_)
    (repeat refine Sx.seq ?_); refine Sx.skip ?_
    (repeat first | refine thenE_normal ?_ | refine blockE_normal ?_ | refine scopeE_normal ?_)
    (repeat refine Sx.seq ?_)
    refine Sx.textR ?_
    refine Ox.pure rfl rfl (rp_move rfl rfl) ?_
    refine Ox.pure rfl rfl (rp_lenS rfl rfl rfl) ?_
    refine Ox.pure rfl rfl (by first | exact rp_bin rfl rfl rfl (binI_t (by omega)) | exact rp_bin rfl rfl rfl (binI_f (by omega)) | exact rp_bin rfl rfl rfl rfl) ?_
    refine Ox.nil ?_
    (repeat first | refine thenE_normal ?_ | refine blockE_normal ?_ | refine scopeE_normal ?_)
    (repeat refine Sx.seq ?_); first | refine Sx.cond_true rfl ?_ | refine Sx.cond rfl (fun _ => ?_) (fun h => absurd h (by simp [*]))
    (repeat refine Sx.seq ?_)
    refine Sx.textR ?_
    refine Ox.pure rfl rfl (rp_assign rfl rfl) ?_
    refine Ox.nil ?_
    (repeat first | refine thenE_normal ?_ | refine blockE_normal ?_ | refine scopeE_normal ?_)
    (repeat refine Sx.seq ?_); refine Sx.ret ?_
    (repeat first | refine thenE_ret ?_ | refine blockE_ret ?_ | refine scopeE_ret ?_)
    exact endE_ret [_] ⟨rfl, trivial⟩ ⟨by (repeat first | exact .refl _ _ | assumption | refine .trans ?_ (by assumption)); first | done | fail, rfl⟩
  (repeat refine Sx.seq ?_)
  refine Sx.textR ?_
  refine Ox.act rfl rfl (acts_box rfl rfl) ?_
  rintro vbx wbx ⟨ebx, bbx, rfl, hbbx, hBbx⟩
  first | (have hCbx : Cells wbx ⟨bbx, 0, none⟩ [_, _, _, _, _] := hBbx.cells) | have hCbx := Blk.cellsL hBbx
  have hlbx := hBbx.lt
  have hzbx := ebx.size
  refine Ox.pure rfl rfl (rp_assign rfl rfl) ?_
  refine Ox.nil ?_
  (repeat first | refine thenE_normal ?_ | refine blockE_normal ?_ | refine scopeE_normal ?_)
  (repeat refine Sx.seq ?_)
  refine Sx.textR ?_
  refine Ox.act rfl rfl (acts_call rfl rfl rfl (sane_at _)) ?_
  rintro v2 w2 ⟨e2, rfl⟩
  have hz2 := e2.size
  refine Ox.pure rfl rfl (rp_not rfl rfl) ?_
  refine Ox.nil ?_
  (repeat first | refine thenE_normal ?_ | refine blockE_normal ?_ | refine scopeE_normal ?_)
  (repeat refine Sx.seq ?_); first | refine Sx.cond_false rfl ?_ | refine Sx.cond rfl (fun h => absurd h (by simp [*])) (fun _ => ?_)
  (repeat refine Sx.seq ?_); refine Sx.skip ?_
  (repeat first | refine thenE_normal ?_ | refine blockE_normal ?_ | refine scopeE_normal ?_)
  (repeat refine Sx.seq ?_)
  refine Sx.textR ?_
  refine Ox.pure rfl rfl (rp_move rfl rfl) ?_
  refine Ox.pure rfl rfl (rp_lenS rfl rfl rfl) ?_
  refine Ox.pure rfl rfl (by first | exact rp_bin rfl rfl rfl (binI_t (by omega)) | exact rp_bin rfl rfl rfl (binI_f (by omega)) | exact rp_bin rfl rfl rfl rfl) ?_
  refine Ox.nil ?_
  (repeat first | refine thenE_normal ?_ | refine blockE_normal ?_ | refine scopeE_normal ?_)
  (repeat refine Sx.seq ?_); first | refine Sx.cond_false rfl ?_ | refine Sx.cond rfl (fun h => absurd h (by simp [*])) (fun _ => ?_)
  (repeat refine Sx.seq ?_); refine Sx.skip ?_
  (repeat first | refine thenE_normal ?_ | refine blockE_normal ?_ | refine scopeE_normal ?_)
  (repeat refine Sx.seq ?_)
  refine Sx.textR ?_
  refine Ox.pure rfl rfl (rp_move rfl rfl) ?_
  refine Ox.pure rfl rfl (rp_move rfl rfl) ?_
  refine Ox.pure rfl rfl (rp_move rfl rfl) ?_
  refine Ox.act rfl rfl (acts_call rfl rfl rfl (changed_at l bef aft p A c _ (hs.ext0 (by (repeat first | exact .refl _ _ | assumption | refine .trans ?_ (by assumption)); first | done | fail)) (by omega))) ?_
  rintro vu5 wu5 ⟨eu5, ds, hds, hl5, hO5⟩
  have hzu5 := eu5.size
  obtain ⟨p5, c5, A5, rfl, hs5, hi5⟩ := OwnD.sl hO5 (by omega) (days_of hds)
  refine Ox.pure rfl rfl (rp_assign rfl rfl) ?_
  refine Ox.nil ?_
  (repeat first | refine thenE_normal ?_ | refine blockE_normal ?_ | refine scopeE_normal ?_)
  (repeat refine Sx.seq ?_)
  refine Sx.textR ?_
  refine Ox.pure rfl rfl (rp_assign rfl rfl) ?_
  refine Ox.nil ?_
  (repeat first | refine thenE_normal ?_ | refine blockE_normal ?_ | refine scopeE_normal ?_)
  (repeat refine Sx.seq ?_)
  refine Sx.textR ?_
  refine Ox.pure rfl rfl (rp_assign rfl rfl) ?_
  refine Ox.nil ?_
  (repeat first | refine thenE_normal ?_ | refine blockE_normal ?_ | refine scopeE_normal ?_)
  (repeat refine Sx.seq ?_); refine Sx.block ?_
  have hp5 := hs5.ptr
  have hrow5 := hs5.row
  have hCr : Cells wu5 ⟨bbx, 0, none⟩ (rc r) := hCbx.ext0 (by (repeat first | exact .refl _ _ | assumption | refine .trans ?_ (by assumption)); first | done | fail)
  refine Sx.loop (ι := Nat × Bool) (fun i E wr => E = [(0, .slice p l.length c), (2, .int .i64 bef), (3, .int .i64 aft), (5, .pointer (some ⟨bbx, 0, none⟩)), (9, .slice p5 ds.length c5), (10, .bool i.2), (11, .int .i64 (i.1 : Int))] ∧ i.1 ≤ ds.length ∧ Ext [] wu5 wr ∧ (i.2 = true ↔ HitTo r ds i.1)) (fun i => ds.length - i.1) (0, false)
    (sub_cons rfl (sub_cons rfl (sub_cons rfl (sub_cons rfl (sub_cons rfl (sub_cons rfl (sub_cons rfl sub_nil))))))) ⟨rfl, Nat.zero_le _, by (repeat first | exact .refl _ _ | assumption | refine .trans ?_ (by assumption)); first | done | fail, ⟨fun h => (by cases h), fun ⟨d, h, _⟩ => (by cases h)⟩⟩ ?_
  rintro ⟨i, hit⟩ E wr ⟨rfl, hi, er, hhit⟩
  dsimp only at hi hhit ⊢
  have hz := er.size
  by_cases hlt : i < ds.length
  · have hCrr := hCr.ext0 er
    obtain ⟨A1, hsd⟩ := hi5 _ (List.getElem_mem hlt)
    have hps := hsd.ptr
    have hrd := hsd.row
    have hfs := hsd.few
    have hdm := df_mem hds (List.getElem_mem hlt)
    obtain ⟨_, hdays, _⟩ := changedL_mem.1 hdm
    dsimp only at hdays
    obtain ⟨sok, ssep, scov⟩ := spans_of l ds[i].key bef aft 1024
    rw [← hdays] at sok ssep scov
    have hL1 : ∀ u, Ext [] wr u → Ld Try.prog u 24 (A5.add (i * 4 + 0)) (.agg (kc ds[i].key).toArray) := fun u hu => ld_sub dfc_len (hrow5.ext0 (er.trans hu)) hlt 0 rfl rfl (by simp) rfl
    have hM1 : ∀ u, Ext [] wr u → Ld Try.prog u 55 (A5.add (i * 4 + 3)) (.slice ds[i].p ds[i].days.length ds[i].c) := fun u hu => ld_field dfc_len (hrow5.ext0 (er.trans hu)) hlt 3 rfl (by decide) rfl
    (repeat refine Sx.seq ?_)
    refine Sx.textR ?_
    refine Ox.pure rfl rfl (rp_move rfl rfl) ?_
    refine Ox.pure rfl rfl (rp_move rfl rfl) ?_
    refine Ox.pure rfl rfl (rp_lenS rfl rfl rfl) ?_
    refine Ox.pure rfl rfl (by first | exact rp_bin rfl rfl rfl (binI_t (by omega)) | exact rp_bin rfl rfl rfl (binI_f (by omega)) | exact rp_bin rfl rfl rfl rfl) ?_
    refine Ox.nil ?_
    (repeat first | refine thenE_normal ?_ | refine blockE_normal ?_ | refine scopeE_normal ?_)
    (repeat refine Sx.seq ?_); first | refine Sx.cond_true rfl ?_ | refine Sx.cond rfl (fun _ => ?_) (fun h => absurd h (by simp [*]))
    (repeat refine Sx.seq ?_); refine Sx.skip ?_
    (repeat first | refine thenE_normal ?_ | refine blockE_normal ?_ | refine scopeE_normal ?_)
    (repeat refine Sx.seq ?_); refine Sx.block ?_
    (repeat refine Sx.seq ?_)
    refine Sx.textR ?_
    refine Ox.pure rfl rfl (rp_assign rfl rfl) ?_
    refine Ox.nil ?_
    (repeat first | refine thenE_normal ?_ | refine blockE_normal ?_ | refine scopeE_normal ?_)
    (repeat refine Sx.seq ?_); refine Sx.block ?_
    refine Sx.loop (ι := Nat × Bool) (fun x E wk => E = [(0, .slice p l.length c), (2, .int .i64 bef), (3, .int .i64 aft), (5, .pointer (some ⟨bbx, 0, none⟩)), (9, .slice p5 ds.length c5), (10, .bool x.2), (11, .int .i64 (i : Int)), (12, .int .i64 (x.1 : Int))] ∧ x.1 ≤ ds[i].days.length ∧ Ext [] wr wk ∧ (x.2 = true ↔ HitTo r ds i ∨ ∃ s ∈ ds[i].days.take x.1, Hit r ds[i].key s)) (fun x => ds[i].days.length - x.1) (0, hit)
      (sub_cons rfl (sub_cons rfl (sub_cons rfl (sub_cons rfl (sub_cons rfl (sub_cons rfl (sub_cons rfl (sub_cons rfl sub_nil)))))))) ⟨rfl, Nat.zero_le _, by (repeat first | exact .refl _ _ | assumption | refine .trans ?_ (by assumption)); first | done | fail, ⟨fun h => .inl (hhit.1 h), fun h => hhit.2 (h.elim id fun ⟨_, h, _⟩ => (by cases h))⟩⟩ ?_
    rintro ⟨j, hit2⟩ E wk ⟨rfl, hj, ek, hhit2⟩
    dsimp only at hj hhit2 ⊢
    have hzk := ek.size
    by_cases hjl : j < ds[i].days.length
    · have hCk : Cells wk ⟨bbx, 0, none⟩ (rc r) := hCrr.ext0 ek
      have hats := rowsV_at pc_len hjl
      obtain ⟨s0, s1, s2⟩ := sok _ (List.getElem_mem hjl)
      have hdf := ((scov ds[i].days[j].1).2 ⟨_, List.getElem_mem hjl, Int.le_refl _, s1⟩).2.2
      have hprev : ∀ h : 0 < j, (ds[i].days[j - 1]'(by omega)).2 < ds[i].days[j].1 := fun h => List.pairwise_iff_getElem.1 ssep (j - 1) j (by omega) hjl (by omega)
      generalize hsj : ds[i].days[j] = s at *
      have hS : ∀ u, Ext [] wk u → Ld Try.prog u 26 (A1.add (j * 2)) (.agg (pc s).toArray) := fun u hu => by
        have := ld_elem (P := Try.prog) (t := 26) pc_len (hrd.ext0 ((er.trans ek).trans hu)) hjl rfl rfl
        rwa [hsj] at this
      have hkk : ∀ b : Bool, (b = true ↔ (HitTo r ds i ∨ ∃ s ∈ ds[i].days.take j, Hit r ds[i].key s) ∨ Hit r ds[i].key s) → (b = true ↔ HitTo r ds i ∨ ∃ s ∈ ds[i].days.take (j + 1), Hit r ds[i].key s) := fun b h => h.trans (by
        constructor
        · rintro ((h | ⟨t, ht, h⟩) | h)
          · exact .inl h
          · exact .inr ⟨t, (mem_take_succ hjl).2 (.inl ht), h⟩
          · exact .inr ⟨s, (mem_take_succ hjl).2 (.inr hsj.symm), h⟩
        · rintro (h | ⟨t, ht, h⟩)
          · exact .inl (.inl h)
          · rcases (mem_take_succ hjl).1 ht with h1 | rfl
            · exact .inl (.inr ⟨t, h1, h⟩)
            · exact .inr (by rw [← hsj]; exact h))
      have hRk : ∀ u, Ext [] wk u → Ld Try.prog u 24 ((⟨bbx, 0, none⟩ : Addr).add 0) (.agg (kc r.key).toArray) := fun u hu => (hCk.ext0 hu).ldP (m := 3) (cs' := kc r.key) 0 rfl rfl rfl rfl
      have hPr : ∀ (h : 0 < j) u, Ext [] wk u → Ld Try.prog u 3 (A1.add ((j - 1) * 2 + 1)) (.int .i64 (ds[i].days[j - 1]'(by omega)).2) := fun h u hu => ld_field pc_len (hrd.ext0 ((er.trans ek).trans hu)) (by omega) 1 rfl (by decide) rfl
      obtain ⟨v1, b1, hx1⟩ : ∃ v b, atL l ds[i].key s.1 bef = (v, b) := ⟨_, _, rfl⟩
      obtain ⟨v2, b2, hx2⟩ : ∃ v b, atL l ds[i].key s.1 aft = (v, b) := ⟨_, _, rfl⟩
      have hne : b1 = b2 → v1 ≠ v2 := fun hb hv => hdf (by rw [hx1, hx2, hb, hv])
      (repeat refine Sx.seq ?_)
      refine Sx.textR ?_
      refine Ox.pure rfl rfl (rp_move rfl rfl) ?_
      refine Ox.pure rfl rfl (rp_move rfl rfl) ?_
      refine Ox.pure rfl rfl (rp_move rfl rfl) ?_
      refine Ox.pure rfl rfl (rp_indexAddr _ rfl rfl rfl rfl rfl (by assumption) rfl (by first | omega | decide)) ?_
      refine Ox.pure rfl rfl (by first | exact rp_fieldAddr2 rfl rfl rfl rfl | exact rp_fieldAddr rfl rfl rfl rfl) ?_
      refine Ox.val rfl rfl (rv_load rfl rfl (fun u hu => hM1 u (by (repeat first | exact .refl _ _ | assumption | refine .trans ?_ (by assumption)); first | done | fail))) ?_
      refine Ox.pure rfl rfl (rp_lenS rfl rfl rfl) ?_
      refine Ox.pure rfl rfl (by first | exact rp_bin rfl rfl rfl (binI_t (by omega)) | exact rp_bin rfl rfl rfl (binI_f (by omega)) | exact rp_bin rfl rfl rfl rfl) ?_
      refine Ox.nil ?_
      (repeat first | refine thenE_normal ?_ | refine blockE_normal ?_ | refine scopeE_normal ?_)
      (repeat refine Sx.seq ?_); first | refine Sx.cond_true rfl ?_ | refine Sx.cond rfl (fun _ => ?_) (fun h => absurd h (by simp [*]))
      (repeat refine Sx.seq ?_); refine Sx.skip ?_
      (repeat first | refine thenE_normal ?_ | refine blockE_normal ?_ | refine scopeE_normal ?_)
      (repeat refine Sx.seq ?_); refine Sx.block ?_
      (repeat refine Sx.seq ?_)
      refine Sx.textR ?_
      refine Ox.pure rfl rfl (rp_move rfl rfl) ?_
      refine Ox.pure rfl rfl (rp_move rfl rfl) ?_
      refine Ox.pure rfl rfl (rp_indexAddr _ rfl rfl rfl rfl rfl (by assumption) rfl (by first | omega | decide)) ?_
      refine Ox.pure rfl rfl (by first | exact rp_fieldAddr2 rfl rfl rfl rfl | exact rp_fieldAddr rfl rfl rfl rfl) ?_
      refine Ox.val rfl rfl (rv_load rfl rfl (fun u hu => hM1 u (by (repeat first | exact .refl _ _ | assumption | refine .trans ?_ (by assumption)); first | done | fail))) ?_
      refine Ox.pure rfl rfl (rp_move rfl rfl) ?_
      refine Ox.pure rfl rfl (rp_indexAddr _ rfl rfl rfl rfl rfl (by assumption) rfl (by first | omega | decide)) ?_
      refine Ox.val rfl rfl (rv_load rfl rfl (fun u hu => hS u (by (repeat first | exact .refl _ _ | assumption | refine .trans ?_ (by assumption)); first | done | fail))) ?_
      refine Ox.act rfl rfl (acts_alloc rfl rfl) ?_
      rintro vbs wbs ⟨ebs, bbs, rfl, hbbs, hBbs⟩
      first | (have hCbs : Cells wbs ⟨bbs, 0, none⟩ [_, _] := hBbs.cells) | have hCbs := Blk.cellsL hBbs
      have hlbs := hBbs.lt
      have hzbs := ebs.size
      refine Ox.act rfl rfl (acts_store_all rfl rfl rfl hBbs rfl (by first | rfl | assumption) (by first | rfl | assumption) (by (first | assumption | exact List.all_eq_true.mp rfl | simp [Value.cells, Value.oneCell']))) ?_
      rintro vst wst ⟨rfl, qst, hBst⟩
      have est := Ext.renew ebs qst hbbs
      have hzst := est.size
      have hlst := hBst.lt
      first | (have hCst : Cells wst ⟨bbs, 0, none⟩ [_, _] := hBst.cells) | have hCst := Blk.cellsL hBst
      refine Ox.nil ?_
      (repeat first | refine thenE_normal ?_ | refine blockE_normal ?_ | refine scopeE_normal ?_)
      refine Sx.seq (Sx.upto (fun E' w' => Ext [] wst w' ∧ (∀ t u, get [(0, .slice p l.length c), (2, .int .i64 bef), (3, .int .i64 aft), (5, .pointer (some ⟨bbx, 0, none⟩)), (9, .slice p5 ds.length c5), (10, .bool hit2), (11, .int .i64 (i : Int)), (12, .int .i64 (j : Int)), (13, .pointer (some ⟨bbs, 0, none⟩))] t = some u → get E' t = some u)) ?_ ?_)
      · rcases Nat.eq_zero_or_pos j with hj0 | hj0
        · subst hj0
          (repeat refine Sx.seq ?_)
          refine Sx.walkR rfl (fun _ _ _ _ h => h) [0, 1, 2, 3, 4, 5, 6, 7, 8, 9, 10, 11, 12, 13, 14, 15, 16, 17, 18, 19, 20, 21, 22, 23, 24, 25, 26, 27, 28, 29, 30, 31, 32, 33] [0, 1, 2, 3, 4, 5, 6, 7, 8, 9, 10, 11, 12, 13, 14, 15, 16, 17, 18, 19, 20, 21, 22, 23, 24, 25, 26, 27, 28, 29, 30, 31, 32, 33] (0) (by kernel_rfl) ?_
          intro hq w3 e3; have hz3 := e3.size
          refine Wx.pure hq rfl rfl rfl rfl (by first | exact rp_fieldAddr2 rfl rfl rfl rfl | exact rp_fieldAddr rfl rfl rfl rfl) ?_
          refine Wx.val hq rfl rfl rfl rfl ([]) (rv_load rfl rfl (by (intro u hu; first | exact Cells.l1 (by assumption) (by (repeat first | exact .refl _ _ | assumption | refine .trans ?_ (by assumption)); first | done | fail) _ rfl rfl | exact Cells.l0 (by assumption) (by (repeat first | exact .refl _ _ | assumption | refine .trans ?_ (by assumption)); first | done | fail) rfl rfl))) ?_
          refine Wx.pure hq rfl rfl rfl rfl (by first | exact rp_fieldAddr2 rfl rfl rfl rfl | exact rp_fieldAddr rfl rfl rfl rfl) ?_
          refine Wx.val hq rfl rfl rfl rfl ([]) (rv_load rfl rfl (by (intro u hu; first | exact Cells.l1 (by assumption) (by (repeat first | exact .refl _ _ | assumption | refine .trans ?_ (by assumption)); first | done | fail) _ rfl rfl | exact Cells.l0 (by assumption) (by (repeat first | exact .refl _ _ | assumption | refine .trans ?_ (by assumption)); first | done | fail) rfl rfl))) ?_
          refine Wx.pure hq rfl rfl rfl rfl (by first | exact rp_bin rfl rfl rfl (binI_t (by omega)) | exact rp_bin rfl rfl rfl (binI_f (by omega)) | exact rp_bin rfl rfl rfl rfl) ?_
          refine Wx.pure hq rfl rfl rfl rfl (rp_move rfl rfl) ?_
          first | (refine Wx.skip hq rfl rfl rfl rfl ?_) | (refine Wx.pure hq rfl rfl rfl rfl (by first | exact rp_fieldAddr2 rfl rfl rfl rfl | exact rp_fieldAddr rfl rfl rfl rfl) ?_)
          first | (refine Wx.skip hq rfl rfl rfl rfl ?_) | (refine Wx.val hq rfl rfl rfl rfl ([]) (rv_load rfl rfl (by (intro u hu; first | exact Cells.l1 (by assumption) (by (repeat first | exact .refl _ _ | assumption | refine .trans ?_ (by assumption)); first | done | fail) _ rfl rfl | exact Cells.l0 (by assumption) (by (repeat first | exact .refl _ _ | assumption | refine .trans ?_ (by assumption)); first | done | fail) rfl rfl))) ?_)
          first | (refine Wx.skip hq rfl rfl rfl rfl ?_) | (refine Wx.pure hq rfl rfl rfl rfl (by first | exact rp_bin rfl rfl rfl (binI_t (by omega)) | exact rp_bin rfl rfl rfl (binI_f (by omega)) | exact rp_bin rfl rfl rfl rfl) ?_)
          refine Wx.pure hq rfl rfl rfl rfl (by first | exact rp_pick_t rfl rfl rfl | exact rp_pick_f rfl rfl rfl) ?_
          refine Wx.pure hq rfl rfl rfl rfl (rp_move rfl rfl) ?_
          first | (refine Wx.skip hq rfl rfl rfl rfl ?_) | (refine Wx.pure hq rfl rfl rfl rfl (by first | exact rp_fieldAddr2 rfl rfl rfl rfl | exact rp_fieldAddr rfl rfl rfl rfl) ?_)
          first | (refine Wx.skip hq rfl rfl rfl rfl ?_) | (refine Wx.val hq rfl rfl rfl rfl ([]) (rv_load rfl rfl (by (intro u hu; first | exact Cells.l1 (by assumption) (by (repeat first | exact .refl _ _ | assumption | refine .trans ?_ (by assumption)); first | done | fail) _ rfl rfl | exact Cells.l0 (by assumption) (by (repeat first | exact .refl _ _ | assumption | refine .trans ?_ (by assumption)); first | done | fail) rfl rfl))) ?_)
          first | (refine Wx.skip hq rfl rfl rfl rfl ?_) | (refine Wx.pure hq rfl rfl rfl rfl (by first | exact rp_bin rfl rfl rfl (binI_t (by omega)) | exact rp_bin rfl rfl rfl (binI_f (by omega)) | exact rp_bin rfl rfl rfl rfl) ?_)
          refine Wx.pure hq rfl rfl rfl rfl (by first | exact rp_pick_t rfl rfl rfl | exact rp_pick_f rfl rfl rfl) ?_
          refine Wx.pure hq rfl rfl rfl rfl (rp_move rfl rfl) ?_
          first | (refine Wx.skip hq rfl rfl rfl rfl ?_) | (refine Wx.pure hq rfl rfl rfl rfl (rp_move rfl rfl) ?_)
          first | (refine Wx.skip hq rfl rfl rfl rfl ?_) | (refine Wx.pure hq rfl rfl rfl rfl (by first | exact rp_bin rfl rfl rfl (binI_t (by omega)) | exact rp_bin rfl rfl rfl (binI_f (by omega)) | exact rp_bin rfl rfl rfl rfl) ?_)
          first | (refine Wx.skip hq rfl rfl rfl rfl ?_) | (refine Wx.pure hq rfl rfl rfl rfl (rp_move rfl rfl) ?_)
          first | (refine Wx.skip hq rfl rfl rfl rfl ?_) | (refine Wx.pure hq rfl rfl rfl rfl (rp_move rfl rfl) ?_)
          first | (refine Wx.skip hq rfl rfl rfl rfl ?_) | (refine Wx.pure hq rfl rfl rfl rfl (rp_move rfl rfl) ?_)
          first | (refine Wx.skip hq rfl rfl rfl rfl ?_) | (refine Wx.pure hq rfl rfl rfl rfl (rp_indexAddr _ rfl rfl rfl rfl rfl (by assumption) rfl (by first | omega | decide)) ?_)
          first | (refine Wx.skip hq rfl rfl rfl rfl ?_) | (refine Wx.pure hq rfl rfl rfl rfl (by first | exact rp_fieldAddr2 rfl rfl rfl rfl | exact rp_fieldAddr rfl rfl rfl rfl) ?_)
          first | (refine Wx.skip hq rfl rfl rfl rfl ?_) | (refine Wx.val hq rfl rfl rfl rfl ([]) (rv_load rfl rfl (fun u hu => hM1 u (by (repeat first | exact .refl _ _ | assumption | refine .trans ?_ (by assumption)); first | done | fail))) ?_)
          first | (refine Wx.skip hq rfl rfl rfl rfl ?_) | (refine Wx.pure hq rfl rfl rfl rfl (rp_move rfl rfl) ?_)
          first | (refine Wx.skip hq rfl rfl rfl rfl ?_) | (refine Wx.pure hq rfl rfl rfl rfl (by first | exact rp_bin rfl rfl rfl (binI_fit_sub (wrap64 (by omega))) | exact rp_bin rfl rfl rfl rfl) ?_)
          first | (refine Wx.skip hq rfl rfl rfl rfl ?_) | (refine Wx.pure hq rfl rfl rfl rfl (rp_indexAddr (j - 1) rfl rfl rfl rfl rfl (by assumption) (by omega) (by omega)) ?_)
          first | (refine Wx.skip hq rfl rfl rfl rfl ?_) | (refine Wx.pure hq rfl rfl rfl rfl (by first | exact rp_fieldAddr2 rfl rfl rfl rfl | exact rp_fieldAddr rfl rfl rfl rfl) ?_)
          first | (refine Wx.skip hq rfl rfl rfl rfl ?_) | (refine Wx.val hq rfl rfl rfl rfl ([]) (rv_load rfl rfl (fun u hu => hPr hj0 u (by (repeat first | exact .refl _ _ | assumption | refine .trans ?_ (by assumption)); first | done | fail))) ?_)
          first | (refine Wx.skip hq rfl rfl rfl rfl ?_) | (refine Wx.pure hq rfl rfl rfl rfl (by first | exact rp_fieldAddr2 rfl rfl rfl rfl | exact rp_fieldAddr rfl rfl rfl rfl) ?_)
          first | (refine Wx.skip hq rfl rfl rfl rfl ?_) | (refine Wx.val hq rfl rfl rfl rfl ([]) (rv_load rfl rfl (by (intro u hu; first | exact Cells.l1 (by assumption) (by (repeat first | exact .refl _ _ | assumption | refine .trans ?_ (by assumption)); first | done | fail) _ rfl rfl | exact Cells.l0 (by assumption) (by (repeat first | exact .refl _ _ | assumption | refine .trans ?_ (by assumption)); first | done | fail) rfl rfl))) ?_)
          first | (refine Wx.skip hq rfl rfl rfl rfl ?_) | (refine Wx.pure hq rfl rfl rfl rfl (by first | exact rp_bin rfl rfl rfl (binI_t (by omega)) | exact rp_bin rfl rfl rfl (binI_f (by omega)) | exact rp_bin rfl rfl rfl rfl) ?_)
          first | (refine Wx.skip hq rfl rfl rfl rfl ?_) | (refine Wx.pure hq rfl rfl rfl rfl (by first | exact rp_pick_t rfl rfl rfl | exact rp_pick_f rfl rfl rfl) ?_)
          refine Wx.pure hq rfl rfl rfl rfl (by first | exact rp_pick_t rfl rfl rfl | exact rp_pick_f rfl rfl rfl) ?_
          refine Wx.nil ?_
          (repeat first | refine thenE_normal ?_ | refine blockE_normal ?_ | refine scopeE_normal ?_)
          (repeat refine Sx.seq ?_); first | refine Sx.cond_false rfl ?_ | refine Sx.cond rfl (fun h => absurd h (by simp [*])) (fun _ => ?_)
          (repeat refine Sx.seq ?_); refine Sx.skip ?_
          (repeat first | refine thenE_normal ?_ | refine blockE_normal ?_ | refine scopeE_normal ?_)
          exact ⟨by (repeat first | exact .refl _ _ | assumption | refine .trans ?_ (by assumption)); first | done | fail, sub_cons rfl (sub_cons rfl (sub_cons rfl (sub_cons rfl (sub_cons rfl (sub_cons rfl (sub_cons rfl (sub_cons rfl (sub_cons rfl sub_nil))))))))⟩
        · have hpr := hprev hj0
          (repeat refine Sx.seq ?_)
          refine Sx.walkR rfl (fun _ _ _ _ h => h) [0, 1, 2, 3, 4, 5, 6, 7, 8, 9, 10, 11, 12, 13, 14, 15, 16, 17, 18, 19, 20, 21, 22, 23, 24, 25, 26, 27, 28, 29, 30, 31, 32, 33] [0, 1, 2, 3, 4, 5, 6, 7, 8, 9, 10, 11, 12, 13, 14, 15, 16, 17, 18, 19, 20, 21, 22, 23, 24, 25, 26, 27, 28, 29, 30, 31, 32, 33] (0) (by kernel_rfl) ?_
          intro hq w4 e4; have hz4 := e4.size
          refine Wx.pure hq rfl rfl rfl rfl (by first | exact rp_fieldAddr2 rfl rfl rfl rfl | exact rp_fieldAddr rfl rfl rfl rfl) ?_
          refine Wx.val hq rfl rfl rfl rfl ([]) (rv_load rfl rfl (by (intro u hu; first | exact Cells.l1 (by assumption) (by (repeat first | exact .refl _ _ | assumption | refine .trans ?_ (by assumption)); first | done | fail) _ rfl rfl | exact Cells.l0 (by assumption) (by (repeat first | exact .refl _ _ | assumption | refine .trans ?_ (by assumption)); first | done | fail) rfl rfl))) ?_
          refine Wx.pure hq rfl rfl rfl rfl (by first | exact rp_fieldAddr2 rfl rfl rfl rfl | exact rp_fieldAddr rfl rfl rfl rfl) ?_
          refine Wx.val hq rfl rfl rfl rfl ([]) (rv_load rfl rfl (by (intro u hu; first | exact Cells.l1 (by assumption) (by (repeat first | exact .refl _ _ | assumption | refine .trans ?_ (by assumption)); first | done | fail) _ rfl rfl | exact Cells.l0 (by assumption) (by (repeat first | exact .refl _ _ | assumption | refine .trans ?_ (by assumption)); first | done | fail) rfl rfl))) ?_
          refine Wx.pure hq rfl rfl rfl rfl (by first | exact rp_bin rfl rfl rfl (binI_t (by omega)) | exact rp_bin rfl rfl rfl (binI_f (by omega)) | exact rp_bin rfl rfl rfl rfl) ?_
          refine Wx.pure hq rfl rfl rfl rfl (rp_move rfl rfl) ?_
          first | (refine Wx.skip hq rfl rfl rfl rfl ?_) | (refine Wx.pure hq rfl rfl rfl rfl (by first | exact rp_fieldAddr2 rfl rfl rfl rfl | exact rp_fieldAddr rfl rfl rfl rfl) ?_)
          first | (refine Wx.skip hq rfl rfl rfl rfl ?_) | (refine Wx.val hq rfl rfl rfl rfl ([]) (rv_load rfl rfl (by (intro u hu; first | exact Cells.l1 (by assumption) (by (repeat first | exact .refl _ _ | assumption | refine .trans ?_ (by assumption)); first | done | fail) _ rfl rfl | exact Cells.l0 (by assumption) (by (repeat first | exact .refl _ _ | assumption | refine .trans ?_ (by assumption)); first | done | fail) rfl rfl))) ?_)
          first | (refine Wx.skip hq rfl rfl rfl rfl ?_) | (refine Wx.pure hq rfl rfl rfl rfl (by first | exact rp_bin rfl rfl rfl (binI_t (by omega)) | exact rp_bin rfl rfl rfl (binI_f (by omega)) | exact rp_bin rfl rfl rfl rfl) ?_)
          refine Wx.pure hq rfl rfl rfl rfl (by first | exact rp_pick_t rfl rfl rfl | exact rp_pick_f rfl rfl rfl) ?_
          refine Wx.pure hq rfl rfl rfl rfl (rp_move rfl rfl) ?_
          first | (refine Wx.skip hq rfl rfl rfl rfl ?_) | (refine Wx.pure hq rfl rfl rfl rfl (by first | exact rp_fieldAddr2 rfl rfl rfl rfl | exact rp_fieldAddr rfl rfl rfl rfl) ?_)
          first | (refine Wx.skip hq rfl rfl rfl rfl ?_) | (refine Wx.val hq rfl rfl rfl rfl ([]) (rv_load rfl rfl (by (intro u hu; first | exact Cells.l1 (by assumption) (by (repeat first | exact .refl _ _ | assumption | refine .trans ?_ (by assumption)); first | done | fail) _ rfl rfl | exact Cells.l0 (by assumption) (by (repeat first | exact .refl _ _ | assumption | refine .trans ?_ (by assumption)); first | done | fail) rfl rfl))) ?_)
          first | (refine Wx.skip hq rfl rfl rfl rfl ?_) | (refine Wx.pure hq rfl rfl rfl rfl (by first | exact rp_bin rfl rfl rfl (binI_t (by omega)) | exact rp_bin rfl rfl rfl (binI_f (by omega)) | exact rp_bin rfl rfl rfl rfl) ?_)
          refine Wx.pure hq rfl rfl rfl rfl (by first | exact rp_pick_t rfl rfl rfl | exact rp_pick_f rfl rfl rfl) ?_
          refine Wx.pure hq rfl rfl rfl rfl (rp_move rfl rfl) ?_
          first | (refine Wx.skip hq rfl rfl rfl rfl ?_) | (refine Wx.pure hq rfl rfl rfl rfl (rp_move rfl rfl) ?_)
          first | (refine Wx.skip hq rfl rfl rfl rfl ?_) | (refine Wx.pure hq rfl rfl rfl rfl (by first | exact rp_bin rfl rfl rfl (binI_t (by omega)) | exact rp_bin rfl rfl rfl (binI_f (by omega)) | exact rp_bin rfl rfl rfl rfl) ?_)
          first | (refine Wx.skip hq rfl rfl rfl rfl ?_) | (refine Wx.pure hq rfl rfl rfl rfl (rp_move rfl rfl) ?_)
          first | (refine Wx.skip hq rfl rfl rfl rfl ?_) | (refine Wx.pure hq rfl rfl rfl rfl (rp_move rfl rfl) ?_)
          first | (refine Wx.skip hq rfl rfl rfl rfl ?_) | (refine Wx.pure hq rfl rfl rfl rfl (rp_move rfl rfl) ?_)
          first | (refine Wx.skip hq rfl rfl rfl rfl ?_) | (refine Wx.pure hq rfl rfl rfl rfl (rp_indexAddr _ rfl rfl rfl rfl rfl (by assumption) rfl (by first | omega | decide)) ?_)
          first | (refine Wx.skip hq rfl rfl rfl rfl ?_) | (refine Wx.pure hq rfl rfl rfl rfl (by first | exact rp_fieldAddr2 rfl rfl rfl rfl | exact rp_fieldAddr rfl rfl rfl rfl) ?_)
          first | (refine Wx.skip hq rfl rfl rfl rfl ?_) | (refine Wx.val hq rfl rfl rfl rfl ([]) (rv_load rfl rfl (fun u hu => hM1 u (by (repeat first | exact .refl _ _ | assumption | refine .trans ?_ (by assumption)); first | done | fail))) ?_)
          first | (refine Wx.skip hq rfl rfl rfl rfl ?_) | (refine Wx.pure hq rfl rfl rfl rfl (rp_move rfl rfl) ?_)
          first | (refine Wx.skip hq rfl rfl rfl rfl ?_) | (refine Wx.pure hq rfl rfl rfl rfl (by first | exact rp_bin rfl rfl rfl (binI_fit_sub (wrap64 (by omega))) | exact rp_bin rfl rfl rfl rfl) ?_)
          first | (refine Wx.skip hq rfl rfl rfl rfl ?_) | (refine Wx.pure hq rfl rfl rfl rfl (rp_indexAddr (j - 1) rfl rfl rfl rfl rfl (by assumption) (by omega) (by omega)) ?_)
          first | (refine Wx.skip hq rfl rfl rfl rfl ?_) | (refine Wx.pure hq rfl rfl rfl rfl (by first | exact rp_fieldAddr2 rfl rfl rfl rfl | exact rp_fieldAddr rfl rfl rfl rfl) ?_)
          first | (refine Wx.skip hq rfl rfl rfl rfl ?_) | (refine Wx.val hq rfl rfl rfl rfl ([]) (rv_load rfl rfl (fun u hu => hPr hj0 u (by (repeat first | exact .refl _ _ | assumption | refine .trans ?_ (by assumption)); first | done | fail))) ?_)
          first | (refine Wx.skip hq rfl rfl rfl rfl ?_) | (refine Wx.pure hq rfl rfl rfl rfl (by first | exact rp_fieldAddr2 rfl rfl rfl rfl | exact rp_fieldAddr rfl rfl rfl rfl) ?_)
          first | (refine Wx.skip hq rfl rfl rfl rfl ?_) | (refine Wx.val hq rfl rfl rfl rfl ([]) (rv_load rfl rfl (by (intro u hu; first | exact Cells.l1 (by assumption) (by (repeat first | exact .refl _ _ | assumption | refine .trans ?_ (by assumption)); first | done | fail) _ rfl rfl | exact Cells.l0 (by assumption) (by (repeat first | exact .refl _ _ | assumption | refine .trans ?_ (by assumption)); first | done | fail) rfl rfl))) ?_)
          first | (refine Wx.skip hq rfl rfl rfl rfl ?_) | (refine Wx.pure hq rfl rfl rfl rfl (by first | exact rp_bin rfl rfl rfl (binI_t (by omega)) | exact rp_bin rfl rfl rfl (binI_f (by omega)) | exact rp_bin rfl rfl rfl rfl) ?_)
          first | (refine Wx.skip hq rfl rfl rfl rfl ?_) | (refine Wx.pure hq rfl rfl rfl rfl (by first | exact rp_pick_t rfl rfl rfl | exact rp_pick_f rfl rfl rfl) ?_)
          refine Wx.pure hq rfl rfl rfl rfl (by first | exact rp_pick_t rfl rfl rfl | exact rp_pick_f rfl rfl rfl) ?_
          refine Wx.nil ?_
          (repeat first | refine thenE_normal ?_ | refine blockE_normal ?_ | refine scopeE_normal ?_)
          (repeat refine Sx.seq ?_); first | refine Sx.cond_false rfl ?_ | refine Sx.cond rfl (fun h => absurd h (by simp [*])) (fun _ => ?_)
          (repeat refine Sx.seq ?_); refine Sx.skip ?_
          (repeat first | refine thenE_normal ?_ | refine blockE_normal ?_ | refine scopeE_normal ?_)
          exact ⟨by (repeat first | exact .refl _ _ | assumption | refine .trans ?_ (by assumption)); first | done | fail, sub_cons rfl (sub_cons rfl (sub_cons rfl (sub_cons rfl (sub_cons rfl (sub_cons rfl (sub_cons rfl (sub_cons rfl (sub_cons rfl sub_nil))))))))⟩
      rintro E' w14 ⟨e14, hsub⟩
      refine thenE_normal (Sx.weaken ?_ hsub)
      have hz14 := e14.size
      (repeat refine Sx.seq ?_)
      refine Sx.walkR rfl (fun _ _ _ _ h => h) [0, 1, 2, 3, 4, 5, 6, 7, 8, 9, 10, 11, 12, 13, 14] [0, 1, 2, 3, 4, 5, 6, 7, 8, 10, 11, 12, 13, 14] (0) (by kernel_rfl) ?_
      intro hq w5 e5; have hz5 := e5.size
      refine Wx.pure hq rfl rfl rfl rfl (rp_move rfl rfl) ?_
      refine Wx.pure hq rfl rfl rfl rfl (rp_move rfl rfl) ?_
      refine Wx.pure hq rfl rfl rfl rfl (rp_move rfl rfl) ?_
      refine Wx.pure hq rfl rfl rfl rfl (rp_indexAddr _ rfl rfl rfl rfl rfl (by assumption) rfl (by first | omega | decide)) ?_
      refine Wx.pure hq rfl rfl rfl rfl (by first | exact rp_fieldAddr2 rfl rfl rfl rfl | exact rp_fieldAddr rfl rfl rfl rfl) ?_
      refine Wx.val hq rfl rfl rfl rfl ([]) (rv_load rfl rfl (fun u hu => hL1 u (by (repeat first | exact .refl _ _ | assumption | refine .trans ?_ (by assumption)); first | done | fail))) ?_
      refine Wx.pure hq rfl rfl rfl rfl (by first | exact rp_fieldAddr2 rfl rfl rfl rfl | exact rp_fieldAddr rfl rfl rfl rfl) ?_
      refine Wx.val hq rfl rfl rfl rfl ([]) (rv_load rfl rfl (by (intro u hu; first | exact Cells.l1 (by assumption) (by (repeat first | exact .refl _ _ | assumption | refine .trans ?_ (by assumption)); first | done | fail) _ rfl rfl | exact Cells.l0 (by assumption) (by (repeat first | exact .refl _ _ | assumption | refine .trans ?_ (by assumption)); first | done | fail) rfl rfl))) ?_
      refine Wx.pure hq rfl rfl rfl rfl (rp_move rfl rfl) ?_
      refine Wx.actNew rfl rfl rfl rfl (acts_call rfl rfl rfl (at_at l ds[i].key s.1 bef p A c _ (hs.ext0 (by (repeat first | exact .refl _ _ | assumption | refine .trans ?_ (by assumption)); first | done | fail)))) ?_
      rintro v6 w6 e6 rfl
      have hz6 := e6.size
      rw [hx1]
      refine Wx.pure hq rfl rfl rfl rfl (rp_move rfl rfl) ?_
      refine Wx.pure hq rfl rfl rfl rfl (rp_extract rfl rfl rfl) ?_
      refine Wx.pure hq rfl rfl rfl rfl (rp_extract rfl rfl rfl) ?_
      refine Wx.pure hq rfl rfl rfl rfl (rp_assign rfl rfl) ?_
      refine Wx.pure hq rfl rfl rfl rfl (rp_assign rfl rfl) ?_
      refine Wx.nil ?_
      (repeat first | refine thenE_normal ?_ | refine blockE_normal ?_ | refine scopeE_normal ?_)
      (repeat refine Sx.seq ?_)
      refine Sx.walkR rfl (fun _ _ _ _ h => h) [0, 1, 2, 3, 4, 5, 6, 7, 8, 9, 10, 11, 12, 13, 14] [0, 1, 2, 3, 4, 5, 6, 7, 8, 10, 11, 12, 13, 14] (0) (by kernel_rfl) ?_
      intro hq w7 e7; have hz7 := e7.size
      refine Wx.pure hq rfl rfl rfl rfl (rp_move rfl rfl) ?_
      refine Wx.pure hq rfl rfl rfl rfl (rp_move rfl rfl) ?_
      refine Wx.pure hq rfl rfl rfl rfl (rp_move rfl rfl) ?_
      refine Wx.pure hq rfl rfl rfl rfl (rp_indexAddr _ rfl rfl rfl rfl rfl (by assumption) rfl (by first | omega | decide)) ?_
      refine Wx.pure hq rfl rfl rfl rfl (by first | exact rp_fieldAddr2 rfl rfl rfl rfl | exact rp_fieldAddr rfl rfl rfl rfl) ?_
      refine Wx.val hq rfl rfl rfl rfl ([]) (rv_load rfl rfl (fun u hu => hL1 u (by (repeat first | exact .refl _ _ | assumption | refine .trans ?_ (by assumption)); first | done | fail))) ?_
      refine Wx.pure hq rfl rfl rfl rfl (by first | exact rp_fieldAddr2 rfl rfl rfl rfl | exact rp_fieldAddr rfl rfl rfl rfl) ?_
      refine Wx.val hq rfl rfl rfl rfl ([]) (rv_load rfl rfl (by (intro u hu; first | exact Cells.l1 (by assumption) (by (repeat first | exact .refl _ _ | assumption | refine .trans ?_ (by assumption)); first | done | fail) _ rfl rfl | exact Cells.l0 (by assumption) (by (repeat first | exact .refl _ _ | assumption | refine .trans ?_ (by assumption)); first | done | fail) rfl rfl))) ?_
      refine Wx.pure hq rfl rfl rfl rfl (rp_move rfl rfl) ?_
      refine Wx.actNew rfl rfl rfl rfl (acts_call rfl rfl rfl (at_at l ds[i].key s.1 aft p A c _ (hs.ext0 (by (repeat first | exact .refl _ _ | assumption | refine .trans ?_ (by assumption)); first | done | fail)))) ?_
      rintro v8 w8 e8 rfl
      have hz8 := e8.size
      rw [hx2]
      refine Wx.pure hq rfl rfl rfl rfl (rp_move rfl rfl) ?_
      refine Wx.pure hq rfl rfl rfl rfl (rp_extract rfl rfl rfl) ?_
      refine Wx.pure hq rfl rfl rfl rfl (rp_extract rfl rfl rfl) ?_
      refine Wx.pure hq rfl rfl rfl rfl (rp_assign rfl rfl) ?_
      refine Wx.pure hq rfl rfl rfl rfl (rp_assign rfl rfl) ?_
      refine Wx.nil ?_
      (repeat first | refine thenE_normal ?_ | refine blockE_normal ?_ | refine scopeE_normal ?_)
      refine Sx.seq (Sx.upto (fun E' w' => Ext [] wst w' ∧ (∀ t u, get [(0, .slice p l.length c), (2, .int .i64 bef), (3, .int .i64 aft), (5, .pointer (some ⟨bbx, 0, none⟩)), (9, .slice p5 ds.length c5), (10, .bool hit2), (11, .int .i64 (i : Int)), (12, .int .i64 (j : Int)), (13, .pointer (some ⟨bbs, 0, none⟩))] t = some u → get E' t = some u)) ?_ ?_)
      · cases b1 with
        | true =>
          cases b2 with
          | true =>
            have hne' := hne rfl
            (repeat refine Sx.seq ?_)
            refine Sx.textR ?_
            refine Ox.pure rfl rfl (rp_move rfl rfl) ?_
            refine Ox.pure rfl rfl (rp_move rfl rfl) ?_
            refine Ox.pure rfl rfl (rp_eqb rfl rfl rfl rfl) ?_
            refine Ox.pure rfl rfl (rp_move rfl rfl) ?_
            first | (refine Ox.skip rfl rfl ?_) | (refine Ox.pure rfl rfl (rp_move rfl rfl) ?_)
            first | (refine Ox.skip rfl rfl ?_) | (refine Ox.pure rfl rfl (rp_move rfl rfl) ?_)
            first | (refine Ox.skip rfl rfl ?_) | (refine Ox.pure rfl rfl (by first | exact rp_bin rfl rfl rfl (binI_t (by omega)) | exact rp_bin rfl rfl rfl (binI_f (by omega)) | exact rp_bin rfl rfl rfl rfl) ?_)
            refine Ox.pure rfl rfl (by first | exact rp_pick_t rfl rfl rfl | exact rp_pick_f rfl rfl rfl) ?_
            refine Ox.nil ?_
            (repeat first | refine thenE_normal ?_ | refine blockE_normal ?_ | refine scopeE_normal ?_)
            (repeat refine Sx.seq ?_); first | refine Sx.cond_false rfl ?_ | refine Sx.cond rfl (fun h => absurd h (by simp [*])) (fun _ => ?_)
            (repeat refine Sx.seq ?_); refine Sx.skip ?_
            (repeat first | refine thenE_normal ?_ | refine blockE_normal ?_ | refine scopeE_normal ?_)
            exact ⟨by (repeat first | exact .refl _ _ | assumption | refine .trans ?_ (by assumption)); first | done | fail, sub_cons rfl (sub_cons rfl (sub_cons rfl (sub_cons rfl (sub_cons rfl (sub_cons rfl (sub_cons rfl (sub_cons rfl (sub_cons rfl sub_nil))))))))⟩
          | false =>
            (repeat refine Sx.seq ?_)
            refine Sx.textR ?_
            refine Ox.pure rfl rfl (rp_move rfl rfl) ?_
            refine Ox.pure rfl rfl (rp_move rfl rfl) ?_
            refine Ox.pure rfl rfl (rp_eqb rfl rfl rfl rfl) ?_
            refine Ox.pure rfl rfl (rp_move rfl rfl) ?_
            first | (refine Ox.skip rfl rfl ?_) | (refine Ox.pure rfl rfl (rp_move rfl rfl) ?_)
            first | (refine Ox.skip rfl rfl ?_) | (refine Ox.pure rfl rfl (rp_move rfl rfl) ?_)
            first | (refine Ox.skip rfl rfl ?_) | (refine Ox.pure rfl rfl (by first | exact rp_bin rfl rfl rfl (binI_t (by omega)) | exact rp_bin rfl rfl rfl (binI_f (by omega)) | exact rp_bin rfl rfl rfl rfl) ?_)
            refine Ox.pure rfl rfl (by first | exact rp_pick_t rfl rfl rfl | exact rp_pick_f rfl rfl rfl) ?_
            refine Ox.nil ?_
            (repeat first | refine thenE_normal ?_ | refine blockE_normal ?_ | refine scopeE_normal ?_)
            (repeat refine Sx.seq ?_); first | refine Sx.cond_false rfl ?_ | refine Sx.cond rfl (fun h => absurd h (by simp [*])) (fun _ => ?_)
            (repeat refine Sx.seq ?_); refine Sx.skip ?_
            (repeat first | refine thenE_normal ?_ | refine blockE_normal ?_ | refine scopeE_normal ?_)
            exact ⟨by (repeat first | exact .refl _ _ | assumption | refine .trans ?_ (by assumption)); first | done | fail, sub_cons rfl (sub_cons rfl (sub_cons rfl (sub_cons rfl (sub_cons rfl (sub_cons rfl (sub_cons rfl (sub_cons rfl (sub_cons rfl sub_nil))))))))⟩
        | false =>
          cases b2 with
          | true =>
            (repeat refine Sx.seq ?_)
            refine Sx.textR ?_
            refine Ox.pure rfl rfl (rp_move rfl rfl) ?_
            refine Ox.pure rfl rfl (rp_move rfl rfl) ?_
            refine Ox.pure rfl rfl (rp_eqb rfl rfl rfl rfl) ?_
            refine Ox.pure rfl rfl (rp_move rfl rfl) ?_
            first | (refine Ox.skip rfl rfl ?_) | (refine Ox.pure rfl rfl (rp_move rfl rfl) ?_)
            first | (refine Ox.skip rfl rfl ?_) | (refine Ox.pure rfl rfl (rp_move rfl rfl) ?_)
            first | (refine Ox.skip rfl rfl ?_) | (refine Ox.pure rfl rfl (by first | exact rp_bin rfl rfl rfl (binI_t (by omega)) | exact rp_bin rfl rfl rfl (binI_f (by omega)) | exact rp_bin rfl rfl rfl rfl) ?_)
            refine Ox.pure rfl rfl (by first | exact rp_pick_t rfl rfl rfl | exact rp_pick_f rfl rfl rfl) ?_
            refine Ox.nil ?_
            (repeat first | refine thenE_normal ?_ | refine blockE_normal ?_ | refine scopeE_normal ?_)
            (repeat refine Sx.seq ?_); first | refine Sx.cond_false rfl ?_ | refine Sx.cond rfl (fun h => absurd h (by simp [*])) (fun _ => ?_)
            (repeat refine Sx.seq ?_); refine Sx.skip ?_
            (repeat first | refine thenE_normal ?_ | refine blockE_normal ?_ | refine scopeE_normal ?_)
            exact ⟨by (repeat first | exact .refl _ _ | assumption | refine .trans ?_ (by assumption)); first | done | fail, sub_cons rfl (sub_cons rfl (sub_cons rfl (sub_cons rfl (sub_cons rfl (sub_cons rfl (sub_cons rfl (sub_cons rfl (sub_cons rfl sub_nil))))))))⟩
          | false =>
            have hne' := hne rfl
            (repeat refine Sx.seq ?_)
            refine Sx.textR ?_
            refine Ox.pure rfl rfl (rp_move rfl rfl) ?_
            refine Ox.pure rfl rfl (rp_move rfl rfl) ?_
            refine Ox.pure rfl rfl (rp_eqb rfl rfl rfl rfl) ?_
            refine Ox.pure rfl rfl (rp_move rfl rfl) ?_
            first | (refine Ox.skip rfl rfl ?_) | (refine Ox.pure rfl rfl (rp_move rfl rfl) ?_)
            first | (refine Ox.skip rfl rfl ?_) | (refine Ox.pure rfl rfl (rp_move rfl rfl) ?_)
            first | (refine Ox.skip rfl rfl ?_) | (refine Ox.pure rfl rfl (by first | exact rp_bin rfl rfl rfl (binI_t (by omega)) | exact rp_bin rfl rfl rfl (binI_f (by omega)) | exact rp_bin rfl rfl rfl rfl) ?_)
            refine Ox.pure rfl rfl (by first | exact rp_pick_t rfl rfl rfl | exact rp_pick_f rfl rfl rfl) ?_
            refine Ox.nil ?_
            (repeat first | refine thenE_normal ?_ | refine blockE_normal ?_ | refine scopeE_normal ?_)
            (repeat refine Sx.seq ?_); first | refine Sx.cond_false rfl ?_ | refine Sx.cond rfl (fun h => absurd h (by simp [*])) (fun _ => ?_)
            (repeat refine Sx.seq ?_); refine Sx.skip ?_
            (repeat first | refine thenE_normal ?_ | refine blockE_normal ?_ | refine scopeE_normal ?_)
            exact ⟨by (repeat first | exact .refl _ _ | assumption | refine .trans ?_ (by assumption)); first | done | fail, sub_cons rfl (sub_cons rfl (sub_cons rfl (sub_cons rfl (sub_cons rfl (sub_cons rfl (sub_cons rfl (sub_cons rfl (sub_cons rfl sub_nil))))))))⟩
      rintro E' w18 ⟨e18, hsub2⟩
      refine thenE_normal (Sx.weaken ?_ hsub2)
      have hz18 := e18.size
      by_cases hk : ds[i].key = r.key
      · by_cases hm : max r.lo s.1 < min r.hi s.2
        · (repeat refine Sx.seq ?_)
          refine Sx.walkR rfl (fun _ _ _ _ h => h) [0, 1, 2, 3, 4, 5, 6, 7, 8, 9, 10, 11, 12, 13, 14, 15, 16, 17, 18, 19, 20] [0, 1, 2, 3, 4, 5, 6, 7, 8, 9, 10, 11, 12, 13, 14, 15, 16, 17, 18, 19, 20] (0) (by kernel_rfl) ?_
          intro hq w9 e9; have hz9 := e9.size
          refine Wx.pure hq rfl rfl rfl rfl (rp_move rfl rfl) ?_
          refine Wx.pure hq rfl rfl rfl rfl (rp_move rfl rfl) ?_
          refine Wx.pure hq rfl rfl rfl rfl (rp_indexAddr _ rfl rfl rfl rfl rfl (by assumption) rfl (by first | omega | decide)) ?_
          refine Wx.pure hq rfl rfl rfl rfl (by first | exact rp_fieldAddr2 rfl rfl rfl rfl | exact rp_fieldAddr rfl rfl rfl rfl) ?_
          refine Wx.val hq rfl rfl rfl rfl ([]) (rv_load rfl rfl (fun u hu => hL1 u (by (repeat first | exact .refl _ _ | assumption | refine .trans ?_ (by assumption)); first | done | fail))) ?_
          refine Wx.pure hq rfl rfl rfl rfl (by first | exact rp_fieldAddr2 rfl rfl rfl rfl | exact rp_fieldAddr rfl rfl rfl rfl) ?_
          refine Wx.val hq rfl rfl rfl rfl ([]) (rv_load rfl rfl (fun u hu => hRk u (by (repeat first | exact .refl _ _ | assumption | refine .trans ?_ (by assumption)); first | done | fail))) ?_
          refine Wx.pure hq rfl rfl rfl rfl (by first | exact rp_eqA_t rfl egKy rfl rfl (eqKy ds[i].key r.key) (by assumption) | exact rp_eqA_f rfl egKy rfl rfl (eqKy ds[i].key r.key) (by assumption)) ?_
          refine Wx.pure hq rfl rfl rfl rfl (rp_move rfl rfl) ?_
          first | (refine Wx.skip hq rfl rfl rfl rfl ?_) | (refine Wx.pure hq rfl rfl rfl rfl (by first | exact rp_fieldAddr2 rfl rfl rfl rfl | exact rp_fieldAddr rfl rfl rfl rfl) ?_)
          first | (refine Wx.skip hq rfl rfl rfl rfl ?_) | (refine Wx.val hq rfl rfl rfl rfl ([]) (rv_load rfl rfl (by (intro u hu; first | exact Cells.l1 (by assumption) (by (repeat first | exact .refl _ _ | assumption | refine .trans ?_ (by assumption)); first | done | fail) _ rfl rfl | exact Cells.l0 (by assumption) (by (repeat first | exact .refl _ _ | assumption | refine .trans ?_ (by assumption)); first | done | fail) rfl rfl))) ?_)
          first | (refine Wx.skip hq rfl rfl rfl rfl ?_) | (refine Wx.pure hq rfl rfl rfl rfl (by first | exact rp_fieldAddr2 rfl rfl rfl rfl | exact rp_fieldAddr rfl rfl rfl rfl) ?_)
          first | (refine Wx.skip hq rfl rfl rfl rfl ?_) | (refine Wx.val hq rfl rfl rfl rfl ([]) (rv_load rfl rfl (by (intro u hu; first | exact Cells.l1 (by assumption) (by (repeat first | exact .refl _ _ | assumption | refine .trans ?_ (by assumption)); first | done | fail) _ rfl rfl | exact Cells.l0 (by assumption) (by (repeat first | exact .refl _ _ | assumption | refine .trans ?_ (by assumption)); first | done | fail) rfl rfl))) ?_)
          first | (refine Wx.skip hq rfl rfl rfl rfl ?_) | (refine Wx.pure hq rfl rfl rfl rfl (rp_max rfl rfl rfl) ?_)
          first | (refine Wx.skip hq rfl rfl rfl rfl ?_) | (refine Wx.pure hq rfl rfl rfl rfl (by first | exact rp_fieldAddr2 rfl rfl rfl rfl | exact rp_fieldAddr rfl rfl rfl rfl) ?_)
          first | (refine Wx.skip hq rfl rfl rfl rfl ?_) | (refine Wx.val hq rfl rfl rfl rfl ([]) (rv_load rfl rfl (by (intro u hu; first | exact Cells.l1 (by assumption) (by (repeat first | exact .refl _ _ | assumption | refine .trans ?_ (by assumption)); first | done | fail) _ rfl rfl | exact Cells.l0 (by assumption) (by (repeat first | exact .refl _ _ | assumption | refine .trans ?_ (by assumption)); first | done | fail) rfl rfl))) ?_)
          first | (refine Wx.skip hq rfl rfl rfl rfl ?_) | (refine Wx.pure hq rfl rfl rfl rfl (by first | exact rp_fieldAddr2 rfl rfl rfl rfl | exact rp_fieldAddr rfl rfl rfl rfl) ?_)
          first | (refine Wx.skip hq rfl rfl rfl rfl ?_) | (refine Wx.val hq rfl rfl rfl rfl ([]) (rv_load rfl rfl (by (intro u hu; first | exact Cells.l1 (by assumption) (by (repeat first | exact .refl _ _ | assumption | refine .trans ?_ (by assumption)); first | done | fail) _ rfl rfl | exact Cells.l0 (by assumption) (by (repeat first | exact .refl _ _ | assumption | refine .trans ?_ (by assumption)); first | done | fail) rfl rfl))) ?_)
          first | (refine Wx.skip hq rfl rfl rfl rfl ?_) | (refine Wx.pure hq rfl rfl rfl rfl (rp_min rfl rfl rfl) ?_)
          first | (refine Wx.skip hq rfl rfl rfl rfl ?_) | (refine Wx.pure hq rfl rfl rfl rfl (by first | exact rp_bin rfl rfl rfl (binI_t (by omega)) | exact rp_bin rfl rfl rfl (binI_f (by omega)) | exact rp_bin rfl rfl rfl rfl) ?_)
          refine Wx.pure hq rfl rfl rfl rfl (by first | exact rp_pick_t rfl rfl rfl | exact rp_pick_f rfl rfl rfl) ?_
          refine Wx.nil ?_
          (repeat first | refine thenE_normal ?_ | refine blockE_normal ?_ | refine scopeE_normal ?_)
          (repeat refine Sx.seq ?_); first | refine Sx.cond_true rfl ?_ | refine Sx.cond rfl (fun _ => ?_) (fun h => absurd h (by simp [*]))
          (repeat refine Sx.seq ?_)
          refine Sx.textR ?_
          refine Ox.pure rfl rfl (rp_assign rfl rfl) ?_
          refine Ox.nil ?_
          (repeat first | refine thenE_normal ?_ | refine blockE_normal ?_ | refine scopeE_normal ?_)
          (repeat refine Sx.seq ?_)
          refine Sx.textR ?_
          refine Ox.pure rfl rfl (rp_move rfl rfl) ?_
          refine Ox.pure rfl rfl (by first | exact rp_bin rfl rfl rfl (binI_fit_add (wrap64 (by omega))) | exact rp_bin rfl rfl rfl rfl) ?_
          refine Ox.pure rfl rfl (rp_assign rfl rfl) ?_
          refine Ox.nil ?_
          (repeat first | refine thenE_normal ?_ | refine blockE_normal ?_ | refine scopeE_normal ?_)
          exact ⟨(j + 1, true), _, sub_cons rfl (sub_cons rfl (sub_cons rfl (sub_cons rfl (sub_cons rfl (sub_cons rfl (sub_cons rfl (sub_cons rfl sub_nil))))))), ⟨rfl, hjl, by (repeat first | exact .refl _ _ | assumption | refine .trans ?_ (by assumption)); first | done | fail, hkk true ⟨fun _ => .inr ⟨hk, hm⟩, fun _ => rfl⟩⟩, by dsimp only; omega⟩
        · (repeat refine Sx.seq ?_)
          refine Sx.walkR rfl (fun _ _ _ _ h => h) [0, 1, 2, 3, 4, 5, 6, 7, 8, 9, 10, 11, 12, 13, 14, 15, 16, 17, 18, 19, 20] [0, 1, 2, 3, 4, 5, 6, 7, 8, 9, 10, 11, 12, 13, 14, 15, 16, 17, 18, 19, 20] (0) (by kernel_rfl) ?_
          intro hq w10 e10; have hz10 := e10.size
          refine Wx.pure hq rfl rfl rfl rfl (rp_move rfl rfl) ?_
          refine Wx.pure hq rfl rfl rfl rfl (rp_move rfl rfl) ?_
          refine Wx.pure hq rfl rfl rfl rfl (rp_indexAddr _ rfl rfl rfl rfl rfl (by assumption) rfl (by first | omega | decide)) ?_
          refine Wx.pure hq rfl rfl rfl rfl (by first | exact rp_fieldAddr2 rfl rfl rfl rfl | exact rp_fieldAddr rfl rfl rfl rfl) ?_
          refine Wx.val hq rfl rfl rfl rfl ([]) (rv_load rfl rfl (fun u hu => hL1 u (by (repeat first | exact .refl _ _ | assumption | refine .trans ?_ (by assumption)); first | done | fail))) ?_
          refine Wx.pure hq rfl rfl rfl rfl (by first | exact rp_fieldAddr2 rfl rfl rfl rfl | exact rp_fieldAddr rfl rfl rfl rfl) ?_
          refine Wx.val hq rfl rfl rfl rfl ([]) (rv_load rfl rfl (fun u hu => hRk u (by (repeat first | exact .refl _ _ | assumption | refine .trans ?_ (by assumption)); first | done | fail))) ?_
          refine Wx.pure hq rfl rfl rfl rfl (by first | exact rp_eqA_t rfl egKy rfl rfl (eqKy ds[i].key r.key) (by assumption) | exact rp_eqA_f rfl egKy rfl rfl (eqKy ds[i].key r.key) (by assumption)) ?_
          refine Wx.pure hq rfl rfl rfl rfl (rp_move rfl rfl) ?_
          first | (refine Wx.skip hq rfl rfl rfl rfl ?_) | (refine Wx.pure hq rfl rfl rfl rfl (by first | exact rp_fieldAddr2 rfl rfl rfl rfl | exact rp_fieldAddr rfl rfl rfl rfl) ?_)
          first | (refine Wx.skip hq rfl rfl rfl rfl ?_) | (refine Wx.val hq rfl rfl rfl rfl ([]) (rv_load rfl rfl (by (intro u hu; first | exact Cells.l1 (by assumption) (by (repeat first | exact .refl _ _ | assumption | refine .trans ?_ (by assumption)); first | done | fail) _ rfl rfl | exact Cells.l0 (by assumption) (by (repeat first | exact .refl _ _ | assumption | refine .trans ?_ (by assumption)); first | done | fail) rfl rfl))) ?_)
          first | (refine Wx.skip hq rfl rfl rfl rfl ?_) | (refine Wx.pure hq rfl rfl rfl rfl (by first | exact rp_fieldAddr2 rfl rfl rfl rfl | exact rp_fieldAddr rfl rfl rfl rfl) ?_)
          first | (refine Wx.skip hq rfl rfl rfl rfl ?_) | (refine Wx.val hq rfl rfl rfl rfl ([]) (rv_load rfl rfl (by (intro u hu; first | exact Cells.l1 (by assumption) (by (repeat first | exact .refl _ _ | assumption | refine .trans ?_ (by assumption)); first | done | fail) _ rfl rfl | exact Cells.l0 (by assumption) (by (repeat first | exact .refl _ _ | assumption | refine .trans ?_ (by assumption)); first | done | fail) rfl rfl))) ?_)
          first | (refine Wx.skip hq rfl rfl rfl rfl ?_) | (refine Wx.pure hq rfl rfl rfl rfl (rp_max rfl rfl rfl) ?_)
          first | (refine Wx.skip hq rfl rfl rfl rfl ?_) | (refine Wx.pure hq rfl rfl rfl rfl (by first | exact rp_fieldAddr2 rfl rfl rfl rfl | exact rp_fieldAddr rfl rfl rfl rfl) ?_)
          first | (refine Wx.skip hq rfl rfl rfl rfl ?_) | (refine Wx.val hq rfl rfl rfl rfl ([]) (rv_load rfl rfl (by (intro u hu; first | exact Cells.l1 (by assumption) (by (repeat first | exact .refl _ _ | assumption | refine .trans ?_ (by assumption)); first | done | fail) _ rfl rfl | exact Cells.l0 (by assumption) (by (repeat first | exact .refl _ _ | assumption | refine .trans ?_ (by assumption)); first | done | fail) rfl rfl))) ?_)
          first | (refine Wx.skip hq rfl rfl rfl rfl ?_) | (refine Wx.pure hq rfl rfl rfl rfl (by first | exact rp_fieldAddr2 rfl rfl rfl rfl | exact rp_fieldAddr rfl rfl rfl rfl) ?_)
          first | (refine Wx.skip hq rfl rfl rfl rfl ?_) | (refine Wx.val hq rfl rfl rfl rfl ([]) (rv_load rfl rfl (by (intro u hu; first | exact Cells.l1 (by assumption) (by (repeat first | exact .refl _ _ | assumption | refine .trans ?_ (by assumption)); first | done | fail) _ rfl rfl | exact Cells.l0 (by assumption) (by (repeat first | exact .refl _ _ | assumption | refine .trans ?_ (by assumption)); first | done | fail) rfl rfl))) ?_)
          first | (refine Wx.skip hq rfl rfl rfl rfl ?_) | (refine Wx.pure hq rfl rfl rfl rfl (rp_min rfl rfl rfl) ?_)
          first | (refine Wx.skip hq rfl rfl rfl rfl ?_) | (refine Wx.pure hq rfl rfl rfl rfl (by first | exact rp_bin rfl rfl rfl (binI_t (by omega)) | exact rp_bin rfl rfl rfl (binI_f (by omega)) | exact rp_bin rfl rfl rfl rfl) ?_)
          refine Wx.pure hq rfl rfl rfl rfl (by first | exact rp_pick_t rfl rfl rfl | exact rp_pick_f rfl rfl rfl) ?_
          refine Wx.nil ?_
          (repeat first | refine thenE_normal ?_ | refine blockE_normal ?_ | refine scopeE_normal ?_)
          (repeat refine Sx.seq ?_); first | refine Sx.cond_false rfl ?_ | refine Sx.cond rfl (fun h => absurd h (by simp [*])) (fun _ => ?_)
          (repeat refine Sx.seq ?_); refine Sx.skip ?_
          (repeat first | refine thenE_normal ?_ | refine blockE_normal ?_ | refine scopeE_normal ?_)
          (repeat refine Sx.seq ?_)
          refine Sx.textR ?_
          refine Ox.pure rfl rfl (rp_move rfl rfl) ?_
          refine Ox.pure rfl rfl (by first | exact rp_bin rfl rfl rfl (binI_fit_add (wrap64 (by omega))) | exact rp_bin rfl rfl rfl rfl) ?_
          refine Ox.pure rfl rfl (rp_assign rfl rfl) ?_
          refine Ox.nil ?_
          (repeat first | refine thenE_normal ?_ | refine blockE_normal ?_ | refine scopeE_normal ?_)
          exact ⟨(j + 1, hit2), _, sub_cons rfl (sub_cons rfl (sub_cons rfl (sub_cons rfl (sub_cons rfl (sub_cons rfl (sub_cons rfl (sub_cons rfl sub_nil))))))), ⟨rfl, hjl, by (repeat first | exact .refl _ _ | assumption | refine .trans ?_ (by assumption)); first | done | fail, hkk hit2 (hhit2.trans ⟨.inl, fun h => h.elim id (fun h => absurd h.2 hm)⟩)⟩, by dsimp only; omega⟩
      · (repeat refine Sx.seq ?_)
        refine Sx.walkR rfl (fun _ _ _ _ h => h) [0, 1, 2, 3, 4, 5, 6, 7, 8, 9, 10, 11, 12, 13, 14, 15, 16, 17, 18, 19, 20] [0, 1, 2, 3, 4, 5, 6, 7, 8, 9, 10, 11, 12, 13, 14, 15, 16, 17, 18, 19, 20] (0) (by kernel_rfl) ?_
        intro hq w11 e11; have hz11 := e11.size
        refine Wx.pure hq rfl rfl rfl rfl (rp_move rfl rfl) ?_
        refine Wx.pure hq rfl rfl rfl rfl (rp_move rfl rfl) ?_
        refine Wx.pure hq rfl rfl rfl rfl (rp_indexAddr _ rfl rfl rfl rfl rfl (by assumption) rfl (by first | omega | decide)) ?_
        refine Wx.pure hq rfl rfl rfl rfl (by first | exact rp_fieldAddr2 rfl rfl rfl rfl | exact rp_fieldAddr rfl rfl rfl rfl) ?_
        refine Wx.val hq rfl rfl rfl rfl ([]) (rv_load rfl rfl (fun u hu => hL1 u (by (repeat first | exact .refl _ _ | assumption | refine .trans ?_ (by assumption)); first | done | fail))) ?_
        refine Wx.pure hq rfl rfl rfl rfl (by first | exact rp_fieldAddr2 rfl rfl rfl rfl | exact rp_fieldAddr rfl rfl rfl rfl) ?_
        refine Wx.val hq rfl rfl rfl rfl ([]) (rv_load rfl rfl (fun u hu => hRk u (by (repeat first | exact .refl _ _ | assumption | refine .trans ?_ (by assumption)); first | done | fail))) ?_
        refine Wx.pure hq rfl rfl rfl rfl (by first | exact rp_eqA_t rfl egKy rfl rfl (eqKy ds[i].key r.key) (by assumption) | exact rp_eqA_f rfl egKy rfl rfl (eqKy ds[i].key r.key) (by assumption)) ?_
        refine Wx.pure hq rfl rfl rfl rfl (rp_move rfl rfl) ?_
        first | (refine Wx.skip hq rfl rfl rfl rfl ?_) | (refine Wx.pure hq rfl rfl rfl rfl (by first | exact rp_fieldAddr2 rfl rfl rfl rfl | exact rp_fieldAddr rfl rfl rfl rfl) ?_)
        first | (refine Wx.skip hq rfl rfl rfl rfl ?_) | (refine Wx.val hq rfl rfl rfl rfl ([]) (rv_load rfl rfl (by (intro u hu; first | exact Cells.l1 (by assumption) (by (repeat first | exact .refl _ _ | assumption | refine .trans ?_ (by assumption)); first | done | fail) _ rfl rfl | exact Cells.l0 (by assumption) (by (repeat first | exact .refl _ _ | assumption | refine .trans ?_ (by assumption)); first | done | fail) rfl rfl))) ?_)
        first | (refine Wx.skip hq rfl rfl rfl rfl ?_) | (refine Wx.pure hq rfl rfl rfl rfl (by first | exact rp_fieldAddr2 rfl rfl rfl rfl | exact rp_fieldAddr rfl rfl rfl rfl) ?_)
        first | (refine Wx.skip hq rfl rfl rfl rfl ?_) | (refine Wx.val hq rfl rfl rfl rfl ([]) (rv_load rfl rfl (by (intro u hu; first | exact Cells.l1 (by assumption) (by (repeat first | exact .refl _ _ | assumption | refine .trans ?_ (by assumption)); first | done | fail) _ rfl rfl | exact Cells.l0 (by assumption) (by (repeat first | exact .refl _ _ | assumption | refine .trans ?_ (by assumption)); first | done | fail) rfl rfl))) ?_)
        first | (refine Wx.skip hq rfl rfl rfl rfl ?_) | (refine Wx.pure hq rfl rfl rfl rfl (rp_max rfl rfl rfl) ?_)
        first | (refine Wx.skip hq rfl rfl rfl rfl ?_) | (refine Wx.pure hq rfl rfl rfl rfl (by first | exact rp_fieldAddr2 rfl rfl rfl rfl | exact rp_fieldAddr rfl rfl rfl rfl) ?_)
        first | (refine Wx.skip hq rfl rfl rfl rfl ?_) | (refine Wx.val hq rfl rfl rfl rfl ([]) (rv_load rfl rfl (by (intro u hu; first | exact Cells.l1 (by assumption) (by (repeat first | exact .refl _ _ | assumption | refine .trans ?_ (by assumption)); first | done | fail) _ rfl rfl | exact Cells.l0 (by assumption) (by (repeat first | exact .refl _ _ | assumption | refine .trans ?_ (by assumption)); first | done | fail) rfl rfl))) ?_)
        first | (refine Wx.skip hq rfl rfl rfl rfl ?_) | (refine Wx.pure hq rfl rfl rfl rfl (by first | exact rp_fieldAddr2 rfl rfl rfl rfl | exact rp_fieldAddr rfl rfl rfl rfl) ?_)
        first | (refine Wx.skip hq rfl rfl rfl rfl ?_) | (refine Wx.val hq rfl rfl rfl rfl ([]) (rv_load rfl rfl (by (intro u hu; first | exact Cells.l1 (by assumption) (by (repeat first | exact .refl _ _ | assumption | refine .trans ?_ (by assumption)); first | done | fail) _ rfl rfl | exact Cells.l0 (by assumption) (by (repeat first | exact .refl _ _ | assumption | refine .trans ?_ (by assumption)); first | done | fail) rfl rfl))) ?_)
        first | (refine Wx.skip hq rfl rfl rfl rfl ?_) | (refine Wx.pure hq rfl rfl rfl rfl (rp_min rfl rfl rfl) ?_)
        first | (refine Wx.skip hq rfl rfl rfl rfl ?_) | (refine Wx.pure hq rfl rfl rfl rfl (by first | exact rp_bin rfl rfl rfl (binI_t (by omega)) | exact rp_bin rfl rfl rfl (binI_f (by omega)) | exact rp_bin rfl rfl rfl rfl) ?_)
        refine Wx.pure hq rfl rfl rfl rfl (by first | exact rp_pick_t rfl rfl rfl | exact rp_pick_f rfl rfl rfl) ?_
        refine Wx.nil ?_
        (repeat first | refine thenE_normal ?_ | refine blockE_normal ?_ | refine scopeE_normal ?_)
        (repeat refine Sx.seq ?_); first | refine Sx.cond_false rfl ?_ | refine Sx.cond rfl (fun h => absurd h (by simp [*])) (fun _ => ?_)
        (repeat refine Sx.seq ?_); refine Sx.skip ?_
        (repeat first | refine thenE_normal ?_ | refine blockE_normal ?_ | refine scopeE_normal ?_)
        (repeat refine Sx.seq ?_)
        refine Sx.textR ?_
        refine Ox.pure rfl rfl (rp_move rfl rfl) ?_
        refine Ox.pure rfl rfl (by first | exact rp_bin rfl rfl rfl (binI_fit_add (wrap64 (by omega))) | exact rp_bin rfl rfl rfl rfl) ?_
        refine Ox.pure rfl rfl (rp_assign rfl rfl) ?_
        refine Ox.nil ?_
        (repeat first | refine thenE_normal ?_ | refine blockE_normal ?_ | refine scopeE_normal ?_)
        exact ⟨(j + 1, hit2), _, sub_cons rfl (sub_cons rfl (sub_cons rfl (sub_cons rfl (sub_cons rfl (sub_cons rfl (sub_cons rfl (sub_cons rfl sub_nil))))))), ⟨rfl, hjl, by (repeat first | exact .refl _ _ | assumption | refine .trans ?_ (by assumption)); first | done | fail, hkk hit2 (hhit2.trans ⟨.inl, fun h => h.elim id (fun h => absurd h.1 hk)⟩)⟩, by dsimp only; omega⟩
    · obtain rfl : j = ds[i].days.length := by omega
      rw [List.take_length] at hhit2
      (repeat refine Sx.seq ?_)
      refine Sx.textR ?_
      refine Ox.pure rfl rfl (rp_move rfl rfl) ?_
      refine Ox.pure rfl rfl (rp_move rfl rfl) ?_
      refine Ox.pure rfl rfl (rp_move rfl rfl) ?_
      refine Ox.pure rfl rfl (rp_indexAddr _ rfl rfl rfl rfl rfl (by assumption) rfl (by first | omega | decide)) ?_
      refine Ox.pure rfl rfl (by first | exact rp_fieldAddr2 rfl rfl rfl rfl | exact rp_fieldAddr rfl rfl rfl rfl) ?_
      refine Ox.val rfl rfl (rv_load rfl rfl (fun u hu => hM1 u (by (repeat first | exact .refl _ _ | assumption | refine .trans ?_ (by assumption)); first | done | fail))) ?_
      refine Ox.pure rfl rfl (rp_lenS rfl rfl rfl) ?_
      refine Ox.pure rfl rfl (by first | exact rp_bin rfl rfl rfl (binI_t (by omega)) | exact rp_bin rfl rfl rfl (binI_f (by omega)) | exact rp_bin rfl rfl rfl rfl) ?_
      refine Ox.nil ?_
      (repeat first | refine thenE_normal ?_ | refine blockE_normal ?_ | refine scopeE_normal ?_)
      (repeat refine Sx.seq ?_); first | refine Sx.cond_false rfl ?_ | refine Sx.cond rfl (fun h => absurd h (by simp [*])) (fun _ => ?_)
      (repeat refine Sx.seq ?_); refine Sx.exit ?_
      (repeat first | refine thenE_exit ?_ | refine blockE_same ?_ | refine blockE_other rfl ?_ | refine scopeE_exit ?_ | refine thenE_normal ?_ | refine blockE_normal ?_ | refine scopeE_normal ?_)
      (repeat refine Sx.seq ?_)
      refine Sx.textR ?_
      refine Ox.pure rfl rfl (rp_move rfl rfl) ?_
      refine Ox.pure rfl rfl (by first | exact rp_bin rfl rfl rfl (binI_fit_add (wrap64 (by omega))) | exact rp_bin rfl rfl rfl rfl) ?_
      refine Ox.pure rfl rfl (rp_assign rfl rfl) ?_
      refine Ox.nil ?_
      (repeat first | refine thenE_normal ?_ | refine blockE_normal ?_ | refine scopeE_normal ?_)
      exact ⟨(i + 1, hit2), _, sub_cons rfl (sub_cons rfl (sub_cons rfl (sub_cons rfl (sub_cons rfl (sub_cons rfl (sub_cons rfl sub_nil)))))), ⟨rfl, hlt, by (repeat first | exact .refl _ _ | assumption | refine .trans ?_ (by assumption)); first | done | fail, hhit2.trans (hitTo_succ hlt).symm⟩, by dsimp only; omega⟩
  · obtain rfl : i = ds.length := by omega
    have hCrr := hCr.ext0 er
    have hal : alikeL l [r] bef aft = !hit := by
      have h1 : alikeL l [r] bef aft = decide (alike1 l r bef aft) := by simp [alikeL]
      rw [h1]
      have h2 := (hhit.trans (hit_all hds)).trans (Classical.not_not.symm.trans (not_congr (alike_hit l r bef aft).symm))
      cases hit with
      | true => exact decide_eq_false (h2.1 rfl)
      | false => exact decide_eq_true (Classical.not_not.1 fun h => by cases h2.2 h)
    (repeat refine Sx.seq ?_)
    refine Sx.textR ?_
    refine Ox.pure rfl rfl (rp_move rfl rfl) ?_
    refine Ox.pure rfl rfl (rp_move rfl rfl) ?_
    refine Ox.pure rfl rfl (rp_lenS rfl rfl rfl) ?_
    refine Ox.pure rfl rfl (by first | exact rp_bin rfl rfl rfl (binI_t (by omega)) | exact rp_bin rfl rfl rfl (binI_f (by omega)) | exact rp_bin rfl rfl rfl rfl) ?_
    refine Ox.nil ?_
    (repeat first | refine thenE_normal ?_ | refine blockE_normal ?_ | refine scopeE_normal ?_)
    (repeat refine Sx.seq ?_); first | refine Sx.cond_false rfl ?_ | refine Sx.cond rfl (fun h => absurd h (by simp [*])) (fun _ => ?_)
    (repeat refine Sx.seq ?_); refine Sx.exit ?_
    (repeat first | refine thenE_exit ?_ | refine blockE_same ?_ | refine blockE_other rfl ?_ | refine scopeE_exit ?_ | refine thenE_normal ?_ | refine blockE_normal ?_ | refine scopeE_normal ?_)
    (repeat refine Sx.seq ?_)
    refine Sx.textR ?_
    refine Ox.pure rfl rfl (rp_move rfl rfl) ?_
    refine Ox.val rfl rfl (rv_load rfl rfl (by (intro u hu; first | exact Cells.lA (by assumption) (by (repeat first | exact .refl _ _ | assumption | refine .trans ?_ (by assumption)); first | done | fail) rfl rfl | exact Cells.lL (by assumption) (by (repeat first | exact .refl _ _ | assumption | refine .trans ?_ (by assumption)); first | done | fail) rfl rfl (by assumption) | exact Cells.lP (by assumption) (by (repeat first | exact .refl _ _ | assumption | refine .trans ?_ (by assumption)); first | done | fail) _ rfl rfl rfl rfl | exact Cells.lP (by assumption) (by (repeat first | exact .refl _ _ | assumption | refine .trans ?_ (by assumption)); first | done | fail) _ rfl rfl (by assumption) (by assumption)))) ?_
    refine Ox.act rfl rfl (acts_buildSlice (ps := [(0, .tmp 141)]) rfl rfl rfl rfl rfl rfl rfl rfl) ?_
    rintro vb22 wb22 ⟨eb22, bb22, rfl, hbb22, hBb22⟩
    first | (have hCb22 : Cells wb22 ⟨bb22, 0, none⟩ [_, _, _, _, _] := hBb22.cells) | have hCb22 := Blk.cellsL hBb22
    have hlb22 := hBb22.lt
    have hzb22 := eb22.size
    refine Ox.pure rfl rfl (rp_move rfl rfl) ?_
    refine Ox.pure rfl rfl (rp_move rfl rfl) ?_
    refine Ox.act rfl rfl (acts_call rfl rfl rfl (alike_at l [r] bef aft p (some ⟨bb22, 0, none⟩) A ⟨bb22, 0, none⟩ c 1 _ (hs.ext0 (by (repeat first | exact .refl _ _ | assumption | refine .trans ?_ (by assumption)); first | done | fail)) ⟨fun _ => rfl, hCb22, by simp, by simp, by simp⟩)) ?_
    rintro v12 w12 ⟨e12, rfl⟩
    have hz12 := e12.size
    rw [hal]
    refine Ox.pure rfl rfl (rp_move rfl rfl) ?_
    refine Ox.pure rfl rfl (rp_not rfl rfl) ?_
    refine Ox.pure rfl rfl (rp_eqb_t rfl rfl rfl rfl) ?_
    refine Ox.pure rfl rfl (rp_assign rfl rfl) ?_
    refine Ox.nil ?_
    (repeat first | refine thenE_normal ?_ | refine blockE_normal ?_ | refine scopeE_normal ?_)
    (repeat refine Sx.seq ?_); refine Sx.ret ?_
    (repeat first | refine thenE_ret ?_ | refine blockE_ret ?_ | refine scopeE_ret ?_)
    exact endE_ret [_] ⟨rfl, trivial⟩ ⟨by (repeat first | exact .refl _ _ | assumption | refine .trans ?_ (by assumption)); first | done | fail, rfl⟩

open Go.ChangeShapes Go.WideShapes Go.ChangeAt Go.RowKit in
theorem lawContract (H : Type) (enc : TypeId × Value → H) (W : World) (base : Nat) (args : Array Value) (ds gs : List (DataW H)) (before : List MemPlace)
    (hval : ∀ (j : Nat) t v, Try.f9.params[j]? = some t → args[j]? = some v → Value.okWide Try.prog W .any base t v)
    (hW : DataW.Whole enc Try.prog Try.f9.params.toList Rows.factsReadSpec.vars false W args.toList ds gs before)
    (hw : (DataW.weightsEach Try.prog (Try.f9.params.toList ++ Rows.factsReadSpec.plain.varTypes Try.prog) (ds ++ gs)).all (· ≤ reachBytes) = true) :
    Calls Try.prog 9 args W fun e W' => ∃ v, e = .returned v ∧ Rows.factsReadSpec.post enc Try.prog Try.f9 false true false false W args v W' := by
  obtain ⟨p, q, hA, hV, rfl, hz, hn⟩ := id hW
  obtain ⟨rfl, rfl⟩ := trodVars_none hV
  have hA' : DataW.TrodAll enc Try.prog W 0 (fun _ => true) true [22, 54, 3, 3] args.toList ds p := hA
  obtain ⟨v0, vs0, d0, ds0, p0, q0, hargs, rfl, rfl, h0, r0⟩ := trodAll_cons hA'
  obtain ⟨v1, vs1, d1, ds1, p1, q1, rfl, rfl, rfl, h1, r1⟩ := trodAll_cons r0
  obtain ⟨v2, vs2, d2, ds2, p2, q2, rfl, rfl, rfl, h2, r2⟩ := trodAll_cons r1
  obtain ⟨v3, vs3, d3, ds3, p3, q3, rfl, rfl, rfl, h3, r3⟩ := trodAll_cons r2
  obtain ⟨rfl, rfl, rfl⟩ := trodAll_nil r3
  obtain rfl : args = #[v0, v1, v2, v3] := by cases args; simp_all
  have hw' : ∀ x ∈ DataW.weightsEach Try.prog [22, 54, 3, 3] [d0, d1, d2, d3], x ≤ reachBytes := by
    have hw2 : (DataW.weightsEach Try.prog [22, 54, 3, 3] [d0, d1, d2, d3]).all (· ≤ reachBytes) = true := hw
    simpa [List.all_eq_true] using hw2
  simp only [DataW.weightsEach, List.mem_append] at hw'
  obtain ⟨l, pb0, A0, cap0, rfl, hsl0, hok0⟩ := arg_facts (not_agg (P := Try.prog) (t := 22) rfl (hval 0 22 v0 rfl rfl)) h0 (fun x hx => hw' x (.inl hx))
  obtain ⟨r, hf1, rfl⟩ := arg_read h1
  obtain ⟨bef, rfl, _, _, hb2⟩ := open_int undI (hval 2 3 v2 rfl rfl) h2
  obtain ⟨aft, rfl, _, _, hb3⟩ := open_int undI (hval 3 3 v3 rfl rfl) h3
  refine (readLaw l r bef aft pb0 A0 cap0 W hsl0).mono fun e W' he => ?_
  cases e with
  | returned r =>
    obtain ⟨hx, rfl⟩ := he
    exact ⟨_, rfl, post_true (by kernel_rfl) (by kernel_rfl) rfl hW rfl rfl rfl rfl rfl hx⟩
  | panicked c => exact he.elim
  | outgrown => exact he.elim

open Go.ChangeShapes Go.WideShapes Go.ChangeAt Go.RowKit in
set_option maxRecDepth 100000 in
theorem lifted (os : Os) (started : os.Started) (H : Type) (enc : TypeId × Value → H) :
    ReturnsInHanded {} Try.checked os 9 .any (Rows.factsReadSpec.pre6 enc Try.prog Try.f9 [] false) (Rows.factsReadSpec.post enc Try.prog Try.f9 false true false false) := by
  refine returnsInHanded_of_change_sized (C := Try.checked) (by kernel_rfl) started (by kernel_rfl) Try.func9
    (ChangeSpec.witness6 (enc := enc) (C := Try.checked) (s := Rows.factsReadSpec) false ⟨#[], #[.slice none 0 0, .agg #[.int .i64 0, .int .i64 0, .int .i64 0, .int .i64 0, .int .i64 0], .int .i64 0, .int .i64 0], []⟩ 8 (by kernel_rfl) (by kernel_rfl) (by kernel_rfl) (by kernel_rfl)) ?_
  intro W base args ds gs before hval hW _ hw _
  exact lawContract H enc W base args ds gs before hval hW hw

theorem over : Rows.factsReadRow.holds Try.pinned (OpenSpec.ofChange Rows.factsReadSpec) :=
  OpenClaim.holds_of_wide 9 Try.f9 rfl rfl rfl rfl rfl rfl rfl ⟨rfl, rfl, rfl, rfl, rfl⟩ rfl rfl rfl rfl rfl (by kernel_rfl) Try.func9 (by kernel_rfl)
    (of_decide_eq_true (by kernel_rfl)) (by unfold Func.isWrapper; first | (rw [if_pos (by decide +kernel)]; kernel_rfl) | (rw [if_neg (by decide +kernel)]; exact ⟨rfl, rfl⟩))
    (fun os started H enc _ => lifted os started H enc)

theorem proved : Rows.FactsReadSaid := over

end Go.Proofs.Ytjneaeghloffnaa
