/- The facts' walks: the keys of a map, collected. -/
import Derived.Test.YtfnekbnlokigcaaRows
import Derived.Test.YtfnekbnlokigcaaEngU
import Derived.Test.YtfnekbnlokigcaaFactO
set_option linter.unusedVariables false
set_option maxRecDepth 100000
set_option maxHeartbeats 4000000
set_option linter.unusedSimpArgs false
namespace Go.Proofs.Ytfnekbnlokigcaa
open Go Go.Eng

abbrev kvK (k : Ky) : Value := .agg (kc k).toArray
abbrev evT (_ : Unit) : Value := .bool true
theorem keyKy : KeyT Try.prog 52 kvK := by
  refine KeyT.ofEq (d := .struct _) rfl (fun k v => by simp [Instr.sameNow]) (fun e k w => ?_) (fun a b w => eqKy a b w) (fun k => by simp [Instr.sameBits])
  refine run_checkStruct (m := 9999) e rfl w fun f hf => ?_
  simp only [List.mem_cons, List.not_mem_nil, or_false] at hf
  have hck : ∀ (a : Int), (Instr.checkKey e 9999 3 (.int .i64 a)).run Try.prog w = .ok () w := fun a => MapKept.run_checkKey (d := .int .i64) rfl (by simp [MapKept.IsKey]) e 9998
  rcases hf with rfl | rfl | rfl
  · exact ⟨_, run_part rfl rfl w, hck _⟩
  · exact ⟨_, run_part rfl rfl w, hck _⟩
  · exact ⟨_, run_part rfl rfl w, hck _⟩

/-- A set of keys. -/
abbrev setL (l : List Ky) : List (Ky × Unit) := l.map fun k => (k, ())
def yk (k : Ky) : List Value := [kvK k]
theorem yk_inj {a b : Ky} (h : yk a = yk b) : a = b := by
  unfold yk kvK at h
  rw [Ky.eq_iff]
  simpa using h

theorem setL_nodup {l : List Ky} (h : l.Nodup) : (setL l).Nodup := by
  unfold setL
  rw [List.Nodup, List.pairwise_map]
  exact h.imp fun h e => h (congrArg Prod.fst e)
theorem setL_perm {a b : List Ky} (h : (setL a).Perm (setL b)) : a.Perm b := by
  have := h.map Prod.fst
  simpa [List.map_map, Function.comp_def] using this

/-- Where the iterator reads. -/
def KeysS (b1 b : Nat) (x : Nat) : Prop := x = b1 ∨ x = b

theorem keys_iter (l : List Ky) (b1 b B : Nat) (W0 : World) (hn : l.Nodup) (h1 : Cells W0 ⟨b1, 0, none⟩ [.map (some b)]) (hM : MapL kvK evT W0 b (setL l)) (hB : B ≤ W0.heap.size) :
    IterE Try.prog 55 #[.pointer (some ⟨b1, 0, none⟩)] B (KeysS b1 b) (fun pre x => ∃ ks k, k ∈ l ∧ ks.length < l.length ∧ (ks ++ [k]).Nodup ∧ pre = ks.map yk ∧ x = yk k) (fun pre => ∃ ks : List Ky, ks.Perm l ∧ pre = ks.map yk) W0 := by
  intro l' J hJ hround X0 hJ0 hX0
  show Calls Try.prog 55 #[.func (.yield l') #[] #[], .pointer (some ⟨b1, 0, none⟩)] W0 _
  have hX0l := hJ.lt _ _ _ hJ0
  have hMl := hM.lt
  have hb1l : b1 < W0.heap.size := h1.lt (by simp)
  refine calls_of_Sx (args := [.func (.yield l') #[] #[], .pointer (some ⟨b1, 0, none⟩)]) Try.func55 rfl rfl ?_
  (repeat refine Sx.seq ?_)
  refine Sx.textR ?_
  refine Ox.val rfl rfl (rv_load rfl rfl (fun u hu => (h1.ext0 (by (repeat first | exact .refl _ _ | assumption | refine .trans ?_ (by assumption)); first | done | fail)).ld0 rfl rfl)) ?_
  refine Ox.act rfl rfl (acts_rangeMap rfl rfl rfl (hM.ext0 (by (repeat first | exact .refl _ _ | assumption | refine .trans ?_ (by assumption)); first | done | fail))) ?_
  rintro vrg wrg ⟨erg, r, rfl, hr, hit⟩
  have hzrg := erg.size
  refine Ox.nil ?_
  (repeat first | refine thenE_normal ?_ | refine blockE_normal ?_ | refine scopeE_normal ?_)
  (repeat refine Sx.seq ?_); refine Sx.block ?_
  refine Sx.loop (ι := List Ky × List Nat) (fun i E wr => E = [(0, .func (.yield l') #[] #[]), (1, .pointer (some ⟨b1, 0, none⟩)), (5, .pointer (some ⟨r, 0, none⟩))] ∧
      i.1.Nodup ∧ J (i.1.map yk) i.2 wr ∧ (∀ x ∈ i.2, ¬ KeysS b1 b x) ∧ r ∉ i.2 ∧ MapIt kvK evT wr b r (setL l) (setL i.1) ∧ W0.heap.size ≤ wr.heap.size) (fun i => l.length - i.1.length) ([], X0)
    (sub_cons rfl (sub_cons rfl (sub_cons rfl sub_nil))) ⟨rfl, List.nodup_nil, hJ.stay _ _ _ _ [] hJ0 (by (repeat first | exact .refl _ _ | assumption | refine .trans ?_ (by assumption)); first | done | fail) (by simp), hX0, fun h => by have := hX0l _ h; omega, hit.ext (X := []) (by (repeat first | exact .refl _ _ | assumption | refine .trans ?_ (by assumption)); first | done | fail) (by simp) (by simp), by omega⟩ ?_
  rintro ⟨ks, X⟩ E wr ⟨rfl, hkn, hj, hX, hrX, hitr, hz⟩
  dsimp only at hkn hj hX hrX hitr ⊢
  have hle := hitr.le
  simp only [setL, List.length_map] at hle
  have hSl : ∀ x, KeysS b1 b x → x < W0.heap.size := fun x hx => by rcases hx with rfl | rfl <;> assumption
  by_cases hlt : ks.length < l.length
  · 
    (repeat refine Sx.seq ?_)
    refine Sx.textR ?_
    refine Ox.act rfl rfl (acts_nextMap_more rfl rfl hitr (setL_nodup hn) (by simpa [setL] using hlt)) ?_
    rintro vnx wnx ⟨⟨k, ⟨⟩⟩, hkl, hkd, rfl, qnx, hit2⟩
    have hitl := hit2.lt
    refine Ox.pure rfl rfl (rp_extract rfl rfl rfl) ?_
    refine Ox.nil ?_
    (repeat first | refine thenE_normal ?_ | refine blockE_normal ?_ | refine scopeE_normal ?_)
    have hkn2 : (ks ++ [k]).Nodup := by
      rw [List.nodup_append]
      refine ⟨hkn, by simp, fun a ha c hc => ?_⟩
      simp only [List.mem_singleton] at hc
      subst hc
      rintro rfl
      exact hkd (by simpa [setL] using ha)
    have hznx := qnx.size
    (repeat refine Sx.seq ?_); first | refine Sx.cond_true rfl ?_ | refine Sx.cond rfl (fun _ => ?_) (fun h => absurd h (by simp [*]))
    (repeat refine Sx.seq ?_); refine Sx.skip ?_
    (repeat first | refine thenE_normal ?_ | refine blockE_normal ?_ | refine scopeE_normal ?_)
    (repeat refine Sx.seq ?_); refine Sx.block ?_
    (repeat refine Sx.seq ?_)
    refine Sx.textR ?_
    refine Ox.act rfl rfl (acts_entryMap rfl rfl hit2) ?_
    rintro v1 w1 ⟨rfl, rfl⟩
    refine Ox.pure rfl rfl (rp_extract rfl rfl rfl) ?_
    refine Ox.act rfl rfl (acts_alloc rfl rfl) ?_
    rintro val wal ⟨eal, bal, rfl, hbal, hBal⟩
    first | (have hCal : Cells wal ⟨bal, 0, none⟩ [_, _, _] := hBal.cells) | have hCal := Blk.cellsL hBal
    have hlal := hBal.lt
    have hzal := eal.size
    refine Ox.act rfl rfl (acts_store_all rfl rfl rfl hBal rfl (by first | rfl | assumption) (by first | rfl | assumption) (by (first | assumption | exact List.all_eq_true.mp rfl | simp [Value.cells, Value.oneCell']))) ?_
    rintro vst wst ⟨rfl, qst, hBst⟩
    have est := Ext.renew eal qst hbal
    have hzst := est.size
    have hlst := hBst.lt
    first | (have hCst : Cells wst ⟨bal, 0, none⟩ [_, _, _] := hBst.cells) | have hCst := Blk.cellsL hBst
    refine Ox.nil ?_
    (repeat first | refine thenE_normal ?_ | refine blockE_normal ?_ | refine scopeE_normal ?_)
    (repeat refine Sx.seq ?_)
    refine Sx.textR ?_
    refine Ox.pure rfl rfl (rp_move rfl rfl) ?_
    refine Ox.val rfl rfl (rv_load rfl rfl (by (intro u hu; first | exact Cells.lA (by assumption) (by (repeat first | exact .refl _ _ | assumption | refine .trans ?_ (by assumption)); first | done | fail) rfl rfl | exact Cells.lL (by assumption) (by (repeat first | exact .refl _ _ | assumption | refine .trans ?_ (by assumption)); first | done | fail) rfl rfl (by assumption) | exact Cells.lP (by assumption) (by (repeat first | exact .refl _ _ | assumption | refine .trans ?_ (by assumption)); first | done | fail) _ rfl rfl rfl rfl | exact Cells.lP (by assumption) (by (repeat first | exact .refl _ _ | assumption | refine .trans ?_ (by assumption)); first | done | fail) _ rfl rfl (by assumption) (by assumption)))) ?_
    refine Ox.act rfl rfl (acts_yield rfl rfl rfl (hround (ks.map yk) (yk k) X _ ⟨ks, k, by simpa [setL] using hkl, hlt, hkn2, rfl, rfl⟩ (hJ.stay _ _ _ _ [r] hj (qnx.trans (Ext.up (by (repeat first | exact .refl _ _ | assumption | refine .trans ?_ (by assumption)); first | done | fail))) (fun z hz => by simp only [List.mem_singleton] at hz; subst hz; exact ⟨by omega, hrX⟩)))) ?_
    rintro vyd wyd ⟨rfl, hst⟩
    refine Ox.pure rfl rfl (rp_not rfl rfl) ?_
    refine Ox.nil ?_
    (repeat first | refine thenE_normal ?_ | refine blockE_normal ?_ | refine scopeE_normal ?_)
    (repeat refine Sx.seq ?_); first | refine Sx.cond_false rfl ?_ | refine Sx.cond rfl (fun h => absurd h (by simp [*])) (fun _ => ?_)
    (repeat refine Sx.seq ?_); refine Sx.skip ?_
    (repeat first | refine thenE_normal ?_ | refine blockE_normal ?_ | refine scopeE_normal ?_)
    obtain ⟨X', hj', ⟨Y, hYe, hY⟩, hX'⟩ := id hst
    have hzY := hYe.size
    have hzs := est.size
    have hYS : ∀ y ∈ Y, y ≠ r ∧ y ≠ b := fun y hy => by
      rcases hY y hy with h5 | h5
      · exact ⟨fun h => hrX (h ▸ h5), fun h => hX y h5 (.inr h)⟩
      · exact ⟨by omega, by omega⟩
    refine ⟨(ks ++ [k], X'), _, sub_cons rfl (sub_cons rfl (sub_cons rfl sub_nil)), ⟨rfl, hkn2, by simpa using hj', fun x hx hS => ?_, fun hx => ?_, ?_, by first | omega | (dsimp only; omega)⟩, by simp; omega⟩
    · have := hSl x hS
      rcases hX' x hx with h5 | h5
      · exact hX x h5 hS
      · omega
    · rcases hX' r hx with h5 | h5
      · exact hrX h5
      · omega
    · have h6 := (hit2.ext (X := []) (w' := wst) (by (repeat first | exact .refl _ _ | assumption | refine .trans ?_ (by assumption)); first | done | fail) (by simp) (by simp)).ext hYe (fun h => (hYS b h).2 rfl) (fun h => (hYS r h).1 rfl)
      simpa [setL] using h6
  · 
    (repeat refine Sx.seq ?_)
    refine Sx.textR ?_
    refine Ox.act rfl rfl (acts_nextMap_done rfl rfl hitr (setL_nodup hn) (by simp [setL]; omega)) ?_
    rintro vnx wnx ⟨rfl, rfl, hperm⟩
    refine Ox.pure rfl rfl (rp_extract rfl rfl rfl) ?_
    refine Ox.nil ?_
    (repeat first | refine thenE_normal ?_ | refine blockE_normal ?_ | refine scopeE_normal ?_)
    (repeat refine Sx.seq ?_); first | refine Sx.cond_false rfl ?_ | refine Sx.cond rfl (fun h => absurd h (by simp [*])) (fun _ => ?_)
    (repeat refine Sx.seq ?_); refine Sx.exit ?_
    (repeat first | refine thenE_exit ?_ | refine blockE_same ?_ | refine blockE_other rfl ?_ | refine scopeE_exit ?_ | refine thenE_normal ?_ | refine blockE_normal ?_ | refine scopeE_normal ?_)
    exact endE_normal [] trivial ⟨_, X, ⟨ks, setL_perm hperm, rfl⟩, hj⟩

theorem keys_at (b : Nat) (w : World) : Calls Try.prog 45 #[.map (some b)] w (Ret fun r w' => Ext [] w w' ∧ ∃ b1, r = .func (.func 55) #[] #[.pointer (some ⟨b1, 0, none⟩)] ∧ w.heap.size ≤ b1 ∧ Cells w' ⟨b1, 0, none⟩ [.map (some b)]) := by
  refine calls_of_Sx (args := [.map (some b)]) Try.func45 rfl rfl ?_
  (repeat refine Sx.seq ?_)
  refine Sx.textR ?_
  refine Ox.act rfl rfl (acts_box rfl rfl) ?_
  rintro vbx wbx ⟨ebx, bbx, rfl, hbbx, hBbx⟩
  first | (have hCbx : Cells wbx ⟨bbx, 0, none⟩ [_] := hBbx.cells) | have hCbx := Blk.cellsL hBbx
  have hlbx := hBbx.lt
  have hzbx := ebx.size
  refine Ox.pure rfl rfl (rp_assign rfl rfl) ?_
  refine Ox.nil ?_
  (repeat first | refine thenE_normal ?_ | refine blockE_normal ?_ | refine scopeE_normal ?_)
  (repeat refine Sx.seq ?_)
  refine Sx.textR ?_
  refine Ox.pure rfl rfl (rp_makeFunc rfl rfl rfl) ?_
  refine Ox.pure rfl rfl (rp_assign rfl rfl) ?_
  refine Ox.nil ?_
  (repeat first | refine thenE_normal ?_ | refine blockE_normal ?_ | refine scopeE_normal ?_)
  (repeat refine Sx.seq ?_); refine Sx.ret ?_
  (repeat first | refine thenE_ret ?_ | refine blockE_ret ?_ | refine scopeE_ret ?_)
  exact endE_ret [_] ⟨rfl, trivial⟩ ⟨by (repeat first | exact .refl _ _ | assumption | refine .trans ?_ (by assumption)); first | done | fail, bbx, rfl, by omega, hCbx.ext0 (by (repeat first | exact .refl _ _ | assumption | refine .trans ?_ (by assumption)); first | done | fail)⟩

theorem appendSeq_at (l : List Ky) (b1 b : Nat) (w : World) (hn : l.Nodup) (hll : l.length ≤ 1000000) (h1 : Cells w ⟨b1, 0, none⟩ [.map (some b)]) (hM : MapL kvK evT w b (setL l)) :
    Calls Try.prog 57 #[.slice none 0 0, .func (.func 55) #[] #[.pointer (some ⟨b1, 0, none⟩)]] w (Ret fun r w' => Ext [] w w' ∧ ∃ ks : List Ky, ks.Perm l ∧ OwnK w.heap.size w' r ks) := by
  have hMl := hM.lt
  have hb1l : b1 < w.heap.size := h1.lt (by simp)
  refine calls_of_SxG (args := [.slice none 0 0, .func (.func 55) #[] #[.pointer (some ⟨b1, 0, none⟩)]]) Try.func57 rfl rfl ?_
  refine SxG.run ?_
  (repeat refine Sx.seq ?_)
  refine Sx.textR ?_
  refine Ox.act rfl rfl (acts_box rfl rfl) ?_
  rintro vbx wbx ⟨ebx, bbx, rfl, hbbx, hBbx⟩
  first | (have hCbx : Cells wbx ⟨bbx, 0, none⟩ [_] := hBbx.cells) | have hCbx := Blk.cellsL hBbx
  have hlbx := hBbx.lt
  have hzbx := ebx.size
  refine Ox.pure rfl rfl (rp_assign rfl rfl) ?_
  refine Ox.nil ?_
  (repeat first | refine thenE_normal ?_ | refine blockE_normal ?_ | refine scopeE_normal ?_)
  refine ⟨rfl, ?_⟩
  refine SxG.seqL ?_
  refine SxG.run ?_
  (repeat refine Sx.seq ?_)
  refine Sx.textR ?_
  refine Ox.pure rfl rfl (rp_move rfl rfl) ?_
  refine Ox.nil ?_
  (repeat first | refine thenE_normal ?_ | refine blockE_normal ?_ | refine scopeE_normal ?_)
  refine ⟨rfl, ?_⟩
  have hlx := hBbx.lt
  refine SxG.range (g := 55) (B := wbx.heap.size) (S := KeysS b1 b) rfl rfl rfl
    (fun pre X W => ∃ (ks : List Ky) (v : Value), pre = ks.map yk ∧ X = bbx :: v.ownBlock.toList ∧ Ext [bbx] wbx W ∧ Blk W bbx 49 [v] ∧ OwnK wbx.heap.size W v ks) ⟨?_, ?_⟩ (Nat.le_refl _) [bbx] ⟨[], .slice none 0 0, rfl, rfl, Ext.refl _ _, hBbx, World.ownsRow_nil _ _ _ _⟩ ?_ ?_
    (fun W hW => keys_iter l b1 b wbx.heap.size W hn ((h1.ext0 ebx).ext0 hW) ((hM.ext0 ebx).ext0 hW) hW.size) ?_ ?_ ?_
  · rintro pre X W W' Z ⟨ks, v, rfl, rfl, hE, hB0, hO⟩ he hZ
    exact ⟨ks, v, rfl, rfl, hE.join he (fun y hy => .inr (hZ y hy).1), hB0.ext he (fun h => (hZ _ h).2 (by simp)), own_keep hO he (fun g hg hm => (hZ _ hm).2 (by simp [hg]))⟩
  · rintro pre X W ⟨ks, v, rfl, rfl, hE, hB0, hO⟩ x hx
    rcases List.mem_cons.1 hx with rfl | hx
    · exact hB0.lt
    · exact (own_lt hO x hx).2
  · intro x hx hS
    simp only [List.mem_cons, List.not_mem_nil, or_false] at hx
    rcases hS with rfl | rfl <;> omega
  · intro x hS
    rcases hS with rfl | rfl <;> omega
  · rintro pre x ⟨ks, k, _, _, _, rfl, rfl⟩
    rfl
  · rintro pre x X W l' ⟨ks', k, hkl, hklen, hkn, rfl, rfl⟩ ⟨ks, v, hpre, rfl, hE, hB0, hO⟩ hl hl2 hlX
    obtain rfl := map_inj' (fun _ _ => yk_inj) hpre
    have hzW := hE.size
    have hl0W := hB0.lt
    (repeat refine Sx.seq ?_)
    refine Sx.textR ?_
    refine Ox.act rfl rfl (acts_alloc rfl rfl) ?_
    rintro val wal ⟨eal, bal, rfl, hbal, hBal⟩
    first | (have hCal : Cells wal ⟨bal, 0, none⟩ [_, _, _] := hBal.cells) | have hCal := Blk.cellsL hBal
    have hlal := hBal.lt
    have hzal := eal.size
    refine Ox.act rfl rfl (acts_store_all rfl rfl rfl hBal rfl (by first | rfl | assumption) (by first | rfl | assumption) (by (first | assumption | exact List.all_eq_true.mp rfl | simp [Value.cells, Value.oneCell']))) ?_
    rintro vst wst ⟨rfl, qst, hBst⟩
    have est := Ext.renew eal qst hbal
    have hzst := est.size
    have hlst := hBst.lt
    first | (have hCst : Cells wst ⟨bal, 0, none⟩ [_, _, _] := hBst.cells) | have hCst := Blk.cellsL hBst
    refine Ox.nil ?_
    (repeat first | refine thenE_normal ?_ | refine blockE_normal ?_ | refine scopeE_normal ?_)
    refine ⟨rfl, by (repeat first | exact .refl _ _ | assumption | refine .trans ?_ (by assumption)); first | done | fail, fun W2 e2 => ?_⟩
    have hz2 := e2.size
    have hCk : Cells W2 ⟨bal, 0, none⟩ (kc k) := Cells.ext (cs := kc k) hCst e2 (by simp; omega)
    have hBx := (hB0.ext est (by simp)).ext e2 (by intro h; simp only [List.mem_singleton] at h; subst h; exact hlX (by simp))
    have hO2 : OwnK wbx.heap.size W2 v ks' := own_keep (own_keep0 hO est) e2 (fun g hg hm => by simp only [List.mem_singleton] at hm; subst hm; exact hlX (by simp [hg]))
    have hEW2 : Ext [bbx] wbx W2 := (hE.trans est.up).join e2 (fun y hy => by simp only [List.mem_singleton] at hy; subst hy; exact .inr (by omega))
    have hCx := hBx.cells
    have hxo : bbx ∉ v.ownBlock.toList := fun h => by have := (own_lt hO2 _ h).1; omega
    (repeat refine Sx.seq ?_); refine Sx.block ?_
    (repeat refine Sx.seq ?_)
    refine Sx.textR ?_
    refine Ox.val rfl rfl (rv_load rfl rfl (by (intro u hu; first | exact Cells.l1 (by assumption) (by (repeat first | exact .refl _ _ | assumption | refine .trans ?_ (by assumption)); first | done | fail) _ rfl rfl | exact Cells.l0 (by assumption) (by (repeat first | exact .refl _ _ | assumption | refine .trans ?_ (by assumption)); first | done | fail) rfl rfl))) ?_
    refine Ox.val rfl rfl (rv_load rfl rfl (by (intro u hu; first | exact Cells.lA (by assumption) (by (repeat first | exact .refl _ _ | assumption | refine .trans ?_ (by assumption)); first | done | fail) rfl rfl | exact Cells.lL (by assumption) (by (repeat first | exact .refl _ _ | assumption | refine .trans ?_ (by assumption)); first | done | fail) rfl rfl (by assumption) | exact Cells.lP (by assumption) (by (repeat first | exact .refl _ _ | assumption | refine .trans ?_ (by assumption)); first | done | fail) _ rfl rfl rfl rfl | exact Cells.lP (by assumption) (by (repeat first | exact .refl _ _ | assumption | refine .trans ?_ (by assumption)); first | done | fail) _ rfl rfl (by assumption) (by assumption)))) ?_
    refine Ox.act rfl rfl (acts_buildSlice (ps := [(0, .tmp 9)]) rfl rfl rfl rfl rfl rfl rfl rfl) ?_
    rintro vbs wbs ⟨ebs, bbs, rfl, hbbs, hBbs⟩
    first | (have hCbs : Cells wbs ⟨bbs, 0, none⟩ [_, _, _] := hBbs.cells) | have hCbs := Blk.cellsL hBbs
    have hlbs := hBbs.lt
    have hzbs := ebs.size
    refine Ox.act rfl rfl (acts_append (e := 52) (size := 3) (bytes := 24) rfl rfl rfl rfl (own_keep0 hO2 (by (repeat first | exact .refl _ _ | assumption | refine .trans ?_ (by assumption)); first | done | fail)) (source_slice rfl rfl (fun _ => rfl) hCbs (kc_one k)) (by omega) (by omega) (by omega)) ?_
    rintro vap wap hgap
    have howv : OwnK wbx.heap.size wap vap (ks' ++ [k]) := by have h9 := hgap.own; unfold OwnK; rw [List.length_append, rowsV_append, rowsV_one]; exact h9
    obtain ⟨pv, cv, Av, rfl, hsv, _⟩ := SlV.of_own howv (by simp; omega)
    refine Ox.act rfl rfl (acts_store_all rfl rfl rfl ((hBx.ext (X := []) (by (repeat first | exact .refl _ _ | assumption | refine .trans ?_ (by assumption)); first | done | fail) (by simp)).ext hgap.ext hxo) rfl rfl rfl (by (first | assumption | exact List.all_eq_true.mp rfl | simp [Value.cells, Value.oneCell']))) ?_
    rintro vsx wsx ⟨rfl, qsx, hbsx⟩
    refine Ox.nil ?_
    (repeat first | refine thenE_normal ?_ | refine blockE_normal ?_ | refine scopeE_normal ?_)
    have hzs := qsx.size
    refine ⟨rfl, bbx :: (Value.slice pv (ks' ++ [k]).length cv).ownBlock.toList, ⟨ks' ++ [k], .slice pv (ks' ++ [k]).length cv, by simp, rfl, ?_, hbsx, ?_⟩, ⟨bbx :: v.ownBlock.toList, ?_, fun y hy => .inl hy⟩, fun y hy => ?_⟩
    · refine ((hEW2.trans (Ext.up (by (repeat first | exact .refl _ _ | assumption | refine .trans ?_ (by assumption)); first | done | fail))).join hgap.ext (fun y hy => .inr (own_lt hO2 y hy).1)).trans qsx
    · exact own_keep howv qsx (fun g hg hm => by simp only [List.mem_singleton] at hm; subst hm; have := (own_lt howv g (by rw [Option.mem_toList]; exact hg)).1; omega)
    · exact (((Ext.up (by (repeat first | exact .refl _ _ | assumption | refine .trans ?_ (by assumption)); first | done | fail)).trans (hgap.ext.mono (fun y hy => List.mem_cons_of_mem _ hy)))).trans (qsx.mono (by simp))
    · rcases List.mem_cons.1 hy with rfl | hy
      · exact .inl (by simp)
      · rcases hgap.blk y hy with h5 | h5
        · exact .inl (List.mem_cons_of_mem _ h5)
        · exact .inr (by omega)
  · rintro D pre X W' hD hR hDX ⟨ks2, hperm, rfl⟩ ⟨ks, v, hpre, rfl, hE, hB0, hO⟩
    obtain rfl := map_inj' (fun _ _ => yk_inj) hpre
    have hC0 := hB0.cells
    have hlen := hperm.length_eq
    have hlx' := hB0.lt
    obtain ⟨pv, cv, Av, rfl, hsv, _⟩ := SlV.of_own hO (by omega)
    have hE' : Ext [] w W' := (Ext.up (X := []) ebx).join hE (fun y hy => .inr (by simp only [List.mem_singleton] at hy; subst hy; omega))
    refine SxG.done (Q := endM _ _ _ D) ?_ endM_done
    (repeat refine Sx.seq ?_)
    refine Sx.textR ?_
    refine Ox.val rfl rfl (rv_load rfl rfl (by (intro u hu; first | exact Cells.l1 (by assumption) (by (repeat first | exact .refl _ _ | assumption | refine .trans ?_ (by assumption)); first | done | fail) _ rfl rfl | exact Cells.l0 (by assumption) (by (repeat first | exact .refl _ _ | assumption | refine .trans ?_ (by assumption)); first | done | fail) rfl rfl))) ?_
    refine Ox.pure rfl rfl (rp_assign rfl rfl) ?_
    refine Ox.nil ?_
    (repeat first | refine thenE_normal ?_ | refine blockE_normal ?_ | refine scopeE_normal ?_)
    (repeat refine Sx.seq ?_); refine Sx.ret ?_
    (repeat first | refine thenE_ret ?_ | refine blockE_ret ?_ | refine scopeE_ret ?_)
    refine endM_ret (.inl rfl) [_] (hR.ext0 (by (repeat first | exact .refl _ _ | assumption | refine .trans ?_ (by assumption)); first | done | fail)) (fun w' he => ⟨rfl, trivial⟩) (fun w' he => ⟨Ext.renew (b := D) (by (repeat first | exact .refl _ _ | assumption | refine .trans ?_ (by assumption)); first | done | fail) he (by omega), ks2, hperm, ?_⟩)
    exact own_base (own_keep (own_keep0 hO (by (repeat first | exact .refl _ _ | assumption | refine .trans ?_ (by assumption)); first | done | fail)) he (fun g hg hm => by simp only [List.mem_singleton] at hm; subst hm; exact hDX (List.mem_cons_of_mem _ (by rw [Option.mem_toList]; exact hg)))) (by omega)

theorem collect_at (l : List Ky) (b1 b : Nat) (w : World) (hn : l.Nodup) (hll : l.length ≤ 1000000) (h1 : Cells w ⟨b1, 0, none⟩ [.map (some b)]) (hM : MapL kvK evT w b (setL l)) :
    Calls Try.prog 53 #[.func (.func 55) #[] #[.pointer (some ⟨b1, 0, none⟩)]] w (Ret fun r w' => Ext [] w w' ∧ ∃ ks : List Ky, ks.Perm l ∧ OwnK w.heap.size w' r ks) := by
  refine calls_of_Sx (args := [.func (.func 55) #[] #[.pointer (some ⟨b1, 0, none⟩)]]) Try.func53 rfl rfl ?_
  (repeat refine Sx.seq ?_)
  refine Sx.textR ?_
  refine Ox.pure rfl rfl (rp_assign rfl rfl) ?_
  refine Ox.nil ?_
  (repeat first | refine thenE_normal ?_ | refine blockE_normal ?_ | refine scopeE_normal ?_)
  (repeat refine Sx.seq ?_)
  refine Sx.textR ?_
  refine Ox.pure rfl rfl (rp_move rfl rfl) ?_
  refine Ox.act rfl rfl (acts_call rfl rfl rfl (appendSeq_at l b1 b _ hn hll (h1.ext0 (by (repeat first | exact .refl _ _ | assumption | refine .trans ?_ (by assumption)); first | done | fail)) (hM.ext0 (by (repeat first | exact .refl _ _ | assumption | refine .trans ?_ (by assumption)); first | done | fail)))) ?_
  rintro v2 w2 ⟨e2, ks, hperm, hO⟩
  have hz2 := e2.size
  refine Ox.pure rfl rfl (rp_assign rfl rfl) ?_
  refine Ox.nil ?_
  (repeat first | refine thenE_normal ?_ | refine blockE_normal ?_ | refine scopeE_normal ?_)
  (repeat refine Sx.seq ?_); refine Sx.ret ?_
  (repeat first | refine thenE_ret ?_ | refine blockE_ret ?_ | refine scopeE_ret ?_)
  exact endE_ret [_] ⟨rfl, trivial⟩ ⟨by (repeat first | exact .refl _ _ | assumption | refine .trans ?_ (by assumption)); first | done | fail, ks, hperm, hO⟩

end Go.Proofs.Ytfnekbnlokigcaa
