/- Texts of one proof, put together: BranN, BranR. -/
import Derived.Test.YtfgckcochilpkaaRows
import Derived.Test.YtfgckcochilpkaaWAP7
/- Branches' walks: the reference's records, facts, validity. -/
set_option linter.unusedVariables false
set_option maxRecDepth 100000
set_option maxHeartbeats 4000000
set_option linter.unusedSimpArgs false
namespace Go.Proofs.Ytfgckcochilpkaa
open Go Go.Eng

theorem refRecord_at (l : List Fct) (c : Cr) (p : Option Addr) (A : Addr) (d : Nat) (w : World) (hs : SlV fc w p A l d) (hk : checkL l = 0) (hl : l.length + 1 ≤ 1000000) :
    Calls Try.prog 47 #[.slice p l.length d, .agg (cc c).toArray] w (Ret fun r w' => Ext [] w w' ∧ RRec w' r (addL l (chF c (nextK l)))) := by
  have hle9 := addL_len l (chF c (nextK l))
  have hp1 := hs.ptr
  have hr1 := hs.row
  have hf1 := hs.few
  refine calls_of_Sx (args := [.slice p l.length d, .agg (cc c).toArray]) Try.func47 rfl rfl ?_
  refine ztx ?_
  refine Ox.act rfl rfl (acts_box rfl rfl) ?_
  rintro vb3 wb3 ⟨eb3, bb3, rfl, hbb3, hBb3⟩
  first | (have hCb3 : Cells wb3 ⟨bb3, 0, none⟩ [_, _, _, _, _, _] := hBb3.cells) | have hCb3 := Blk.cellsL hBb3
  have hlb3 := hBb3.lt
  have hzb3 := eb3.size
  refine Ox.pure rfl rfl zas ?_
  refine Ox.pure rfl rfl zas ?_
  refine Ox.fin ?_
  refine ztx ?_
  refine Ox.pure rfl rfl zas ?_
  refine Ox.fin ?_
  refine ztx ?_
  refine Ox.pure rfl rfl zmv ?_
  refine Ox.pure rfl rfl (rp_lenS rfl rfl rfl) ?_
  refine Ox.pure rfl rfl zbc ?_
  refine Ox.fin ?_
  refine (Sx.upto (fun E' w' => (∀ t u, get [(0, .slice p l.length d), (3, .pointer (some ⟨bb3, 0, none⟩)), (6, .int .i64 (nextK l))] t = some u → get E' t = some u) ∧ Ext [] wb3 w') ?_ ?_)
  · rcases Nat.eq_zero_or_pos l.length with h0 | h0
    · have hn0 : nextK l = 1 := by rw [List.eq_nil_of_length_eq_zero h0]; rfl
      rw [hn0]
      refine zcf ?_
      refine zsk ?_
      exact ⟨sub_cons rfl (sub_cons rfl (sub_cons rfl sub_nil)), zxc⟩
    · have hln : l.length - 1 < l.length := by omega
      have hfl := (checkL_zero.1 hk).1 _ (List.getElem_mem hln)
      unfold Fits at hfl
      have hLn : ∀ u, Ext [] w u → Ld Try.prog u 3 (A.add ((l.length - 1) * 8 + 6)) (.int .i64 l[l.length - 1].known) := fun u hu => ld_field fc_len (hr1.ext0 hu) hln 6 rfl (by decide) rfl
      rw [nextK_get h0]
      refine zct ?_
      refine ztx ?_
      refine Ox.pure rfl rfl zmv ?_
      refine Ox.pure rfl rfl zmv ?_
      refine Ox.pure rfl rfl (rp_lenS rfl rfl rfl) ?_
      refine Ox.pure rfl rfl zbs ?_
      refine Ox.pure rfl rfl (rp_indexAddr (l.length - 1) rfl rfl rfl rfl rfl (by assumption) (by omega) (by omega)) ?_
      refine Ox.pure rfl rfl zfa ?_
      refine Ox.val rfl rfl (rv_load rfl rfl (fun u hu => hLn u zxc)) ?_
      refine Ox.pure rfl rfl zba ?_
      refine Ox.pure rfl rfl zas ?_
      refine Ox.fin ?_
      exact ⟨sub_cons rfl (sub_cons rfl (sub_cons rfl sub_nil)), zxc⟩
  rintro E' wm ⟨hsub, em⟩
  refine thenE_normal (Sx.weaken ?_ hsub)
  have hzm := em.size
  refine ztx ?_
  refine Ox.pure rfl rfl zmv ?_
  refine Ox.pure rfl rfl zfa ?_
  refine Ox.val rfl rfl zra ?_
  refine Ox.pure rfl rfl zfa ?_
  refine Ox.val rfl rfl zrs ?_
  refine Ox.pure rfl rfl zfa ?_
  refine Ox.val rfl rfl zra ?_
  refine Ox.pure rfl rfl zmv ?_
  refine Ox.pure rfl rfl (rp_buildS (ps := [(0, .tmp 20), (1, .tmp 22), (2, .tmp 24), (3, .tmp 25)]) rfl rfl rfl rfl rfl) ?_
  refine Ox.act rfl rfl (acts_call rfl rfl rfl (ref_Add l (chF c (nextK l)) p A d _ (hs.ext0 zxc) (by omega))) ?_
  rintro v1 w1 ⟨e1, v7, rfl, ho7⟩
  have hz1 := e1.size
  obtain ⟨p7, c7, A7, rfl, hs7, _⟩ := ho7.sl (by omega)
  refine Ox.pure rfl rfl (rp_extract rfl rfl rfl) ?_
  refine Ox.pure rfl rfl (rp_extract rfl rfl rfl) ?_
  refine Ox.pure rfl rfl zas ?_
  refine Ox.pure rfl rfl zas ?_
  refine Ox.fin ?_
  refine zrt ?_
  exact endE_ret [.slice p7 (addL l (chF c (nextK l))).1.length c7, .int .i64 (addL l (chF c (nextK l))).2] ⟨rfl, rfl, trivial⟩ ⟨zxc, p7, A7, c7, rfl, hs7.ext0 zxc⟩

theorem refRecords_at (l : List Fct) (cs : List Cr) (p q : Option Addr) (A B : Addr) (c d : Nat) (w : World) (hs : SlV fc w p A l c) (hc : SlV cc w q B cs d) (hk : checkL l = 0) (hl : l.length + cs.length ≤ 1000000) :
    Calls Try.prog 50 #[.slice p l.length c, .slice q cs.length d] w (Ret fun r w' => Ext [] w w' ∧ RRec w' r (recL l cs)) := by
  have hpc := hc.ptr
  have hrc := hc.row
  have hfc := hc.few
  refine calls_of_Sx (args := [.slice p l.length c, .slice q cs.length d]) Try.func50 rfl rfl ?_
  refine ztx ?_
  refine Ox.pure rfl rfl zas ?_
  refine Ox.pure rfl rfl zas ?_
  refine Ox.fin ?_
  refine ztx ?_
  refine Ox.pure rfl rfl zas ?_
  refine Ox.fin ?_
  refine zbl ?_
  refine Sx.loop (ι := Nat × List Fct × Option Addr × Addr × Nat) (fun i E wr => E = [(0, .slice i.2.2.1 i.2.1.length i.2.2.2.2), (1, .slice q cs.length d), (6, .int .i64 (i.1 : Int))] ∧ i.1 ≤ cs.length ∧ Ext [] w wr ∧ SlV fc wr i.2.2.1 i.2.2.2.1 i.2.1 i.2.2.2.2 ∧ i.2.1.length ≤ l.length + i.1 ∧ checkL i.2.1 = 0 ∧ recL l cs = recL i.2.1 (cs.drop i.1)) (fun i => cs.length - i.1) (0, l, p, A, c)
    (sub_cons rfl (sub_cons rfl (sub_cons rfl sub_nil))) ⟨rfl, Nat.zero_le _, zxc, hs, Nat.le_refl _, hk, by dsimp only; rw [List.drop_zero]⟩ ?_
  rintro ⟨i, li, p1, A1, c1⟩ E wr ⟨rfl, hi, er, hs1, hlen, hck, hall⟩
  dsimp only at hi hs1 hlen hck hall ⊢
  have hz := er.size
  by_cases hlt : i < cs.length
  · rw [List.drop_eq_getElem_cons hlt, recL_cons] at hall
    have hle := addL_len li (chF cs[i] (nextK li))
    by_cases hok : (addL li (chF cs[i] (nextK li))).2 = 0
    · rw [if_pos hok] at hall
      obtain ⟨a1, a2, a3, a4⟩ := addL_ok hok
      refine ztx ?_
      refine Ox.pure rfl rfl zmv ?_
      refine Ox.pure rfl rfl zmv ?_
      refine Ox.pure rfl rfl (rp_lenS rfl rfl rfl) ?_
      refine Ox.pure rfl rfl zbc ?_
      refine Ox.fin ?_
      refine zct ?_
      refine zsk ?_
      refine zbl ?_
      refine ztx ?_
      refine Ox.pure rfl rfl zmv ?_
      refine Ox.pure rfl rfl zmv ?_
      refine Ox.pure rfl rfl zmv ?_
      refine Ox.pure rfl rfl (rp_indexAddr i rfl rfl rfl rfl rfl hpc rfl hlt) ?_
      refine Ox.val rfl rfl (rv_load rfl rfl (fun u hu => ld_elem cc_len (hrc.ext0 zxc) hlt rfl rfl)) ?_
      refine Ox.act rfl rfl (acts_call rfl rfl rfl (refRecord_at li cs[i] p1 A1 c1 _ (hs1.ext0 zxc) hck (by omega))) ?_
      rintro v2 w2 ⟨e2, p7, A7, c7, rfl, hs7⟩
      have hz2 := e2.size
      refine Ox.pure rfl rfl zmv ?_
      refine Ox.pure rfl rfl (rp_extract rfl rfl rfl) ?_
      refine Ox.pure rfl rfl (rp_extract rfl rfl rfl) ?_
      refine Ox.pure rfl rfl zas ?_
      refine Ox.pure rfl rfl zas ?_
      refine Ox.fin ?_
      refine ztx ?_
      refine Ox.pure rfl rfl zmv ?_
      refine Ox.pure rfl rfl zbc ?_
      refine Ox.fin ?_
      refine zcf ?_
      refine zsk ?_
      refine ztx ?_
      refine Ox.pure rfl rfl zmv ?_
      refine Ox.pure rfl rfl zas ?_
      refine Ox.fin ?_
      refine ztx ?_
      refine Ox.pure rfl rfl zmv ?_
      refine Ox.pure rfl rfl zba ?_
      refine Ox.pure rfl rfl zas ?_
      refine Ox.fin ?_
      exact ⟨(i + 1, (addL li (chF cs[i] (nextK li))).1, p7, A7, c7), _, sub_cons rfl (sub_cons rfl (sub_cons rfl sub_nil)), ⟨rfl, hlt, zxc, hs7.ext0 zxc, (by dsimp only; omega), (by dsimp only; rw [a1]; exact checkL_snoc a2 a3 a4), hall⟩, by dsimp only; omega⟩
    · rw [if_neg hok] at hall
      refine ztx ?_
      refine Ox.pure rfl rfl zmv ?_
      refine Ox.pure rfl rfl zmv ?_
      refine Ox.pure rfl rfl (rp_lenS rfl rfl rfl) ?_
      refine Ox.pure rfl rfl zbc ?_
      refine Ox.fin ?_
      refine zct ?_
      refine zsk ?_
      refine zbl ?_
      refine ztx ?_
      refine Ox.pure rfl rfl zmv ?_
      refine Ox.pure rfl rfl zmv ?_
      refine Ox.pure rfl rfl zmv ?_
      refine Ox.pure rfl rfl (rp_indexAddr i rfl rfl rfl rfl rfl hpc rfl hlt) ?_
      refine Ox.val rfl rfl (rv_load rfl rfl (fun u hu => ld_elem cc_len (hrc.ext0 zxc) hlt rfl rfl)) ?_
      refine Ox.act rfl rfl (acts_call rfl rfl rfl (refRecord_at li cs[i] p1 A1 c1 _ (hs1.ext0 zxc) hck (by omega))) ?_
      rintro v3 w3 ⟨e3, p7, A7, c7, rfl, hs7⟩
      have hz3 := e3.size
      refine Ox.pure rfl rfl zmv ?_
      refine Ox.pure rfl rfl (rp_extract rfl rfl rfl) ?_
      refine Ox.pure rfl rfl (rp_extract rfl rfl rfl) ?_
      refine Ox.pure rfl rfl zas ?_
      refine Ox.pure rfl rfl zas ?_
      refine Ox.fin ?_
      refine ztx ?_
      refine Ox.pure rfl rfl zmv ?_
      refine Ox.pure rfl rfl zbc ?_
      refine Ox.fin ?_
      refine zct ?_
      refine ztx ?_
      refine Ox.pure rfl rfl zmv ?_
      refine Ox.pure rfl rfl zas ?_
      refine Ox.pure rfl rfl zas ?_
      refine Ox.fin ?_
      refine zrt ?_
      exact endE_ret [.slice none 0 0, .int .i64 (addL li (chF cs[i] (nextK li))).2] ⟨rfl, rfl, trivial⟩ ⟨zxc, by rw [hall]; exact ⟨none, ⟨0, 0, none⟩, 0, rfl, SlV.nil _ _⟩⟩
  · obtain rfl : i = cs.length := by omega
    rw [List.drop_length] at hall
    refine ztx ?_
    refine Ox.pure rfl rfl zmv ?_
    refine Ox.pure rfl rfl zmv ?_
    refine Ox.pure rfl rfl (rp_lenS rfl rfl rfl) ?_
    refine Ox.pure rfl rfl zbc ?_
    refine Ox.fin ?_
    refine zcf ?_
    refine zex ?_
    refine ztx ?_
    refine Ox.pure rfl rfl zmv ?_
    refine Ox.pure rfl rfl zas ?_
    refine Ox.pure rfl rfl zas ?_
    refine Ox.fin ?_
    refine zrt ?_
    exact endE_ret [.slice p1 li.length c1, .int .i64 0] ⟨rfl, rfl, trivial⟩ ⟨zxc, by rw [hall]; exact ⟨p1, A1, c1, rfl, hs1.ext0 zxc⟩⟩

theorem refWith_at (s : Bs) (hf : Formed s.br) (hck : checkL s.base = 0) (hsm : Small s) : ∀ (k many : Nat) (w : World), k ≤ s.bls.length → many ≤ lenK s.br k → BsIn s w →
    Calls Try.prog 46 #[.agg (bvc s).toArray, .int .i64 ((k : Int) - 1), .int .i64 (many : Int)] w (Ret fun r w' => Ext [] w w' ∧ RRec w' r (withB s.br ((k : Int) - 1) many)) := by
  intro k
  induction k using Nat.strongRecOn with
  | _ k ih =>
  intro many w hk hm hin
  have hbl := br_len s
  refine calls_of_Sx (args := [.agg (bvc s).toArray, .int .i64 ((k : Int) - 1), .int .i64 (many : Int)]) Try.func46 rfl rfl ?_
  rcases Nat.eq_zero_or_pos k with h0 | h0
  · subst h0
    have hmb : many ≤ s.base.length := hm
    have hle := hin.base.le
    have hlt : (s.base.take many).length = many := by rw [List.length_take]; omega
    have hsl := fc_head hin.base hmb
    refine ztx ?_
    refine Ox.act rfl rfl (acts_box rfl rfl) ?_
    rintro vb3 wb3 ⟨eb3, bb3, rfl, hbb3, hBb3⟩
    first | (have hCb3 : Cells wb3 ⟨bb3, 0, none⟩ [_, _, _, _, _] := hBb3.cells) | have hCb3 := Blk.cellsL hBb3
    have hlb3 := hBb3.lt
    have hzb3 := eb3.size
    refine Ox.pure rfl rfl zas ?_
    refine Ox.pure rfl rfl zas ?_
    refine Ox.fin ?_
    refine ztx ?_
    refine Ox.pure rfl rfl zmv ?_
    refine Ox.pure rfl rfl zbc ?_
    refine Ox.fin ?_
    refine zct ?_
    refine ztx ?_
    refine Ox.pure rfl rfl zfa ?_
    refine Ox.val rfl rfl zrs ?_
    refine Ox.pure rfl rfl zmv ?_
    refine Ox.pure rfl rfl zmv ?_
    refine Ox.pure rfl rfl (rp_slice3 0 many many rfl rfl rfl rfl rfl rfl rfl (.inl ⟨rfl, rfl⟩) ⟨_, rfl⟩ ⟨_, rfl⟩ (Nat.zero_le _) (Nat.le_refl _) (by omega)) ?_
    refine Ox.pure rfl rfl zas ?_
    refine Ox.pure rfl rfl zas ?_
    refine Ox.fin ?_
    refine zrt ?_
    refine endE_ret [.slice (if many = 0 then s.p0 else s.p0.map (·.add (0 * 8))) many many, .int .i64 0] ⟨rfl, rfl, trivial⟩ ⟨zxc, ?_⟩
    rw [withB_base (by omega)]
    refine ⟨_, _, many, ?_, hsl.ext0 zxc⟩
    show _ = Value.tuple #[.slice _ (s.base.take many).length many, .int .i64 0]
    rw [hlt]; rfl
  obtain ⟨i, rfl⟩ : ∃ i, k = i + 1 := ⟨k - 1, by omega⟩
  have hi : i < s.br.brs.length := by omega
  obtain ⟨f1, f2, f3, f4, f5⟩ := id hf
  obtain ⟨⟨g1, g2⟩, g3, g4⟩ := f5 i hi
  have hip : i < s.par.length := by have : s.par.length = s.br.brs.length := f2; omega
  have hik : i < s.fks.length := by have : s.fks.length = s.br.brs.length := f3; omega
  have hib : i < s.bls.length := by omega
  obtain ⟨k', hk'⟩ : ∃ k' : Nat, parB s.br i = (k' : Int) - 1 := ⟨(parB s.br i + 1).toNat, by omega⟩
  obtain ⟨m', hm'⟩ : ∃ m' : Nat, fkB s.br i = (m' : Int) := ⟨(fkB s.br i).toNat, by omega⟩
  have hmk : m' ≤ lenK s.br k' := by rw [lenB_K, hk', show ((k' : Int) - 1 + 1).toNat = k' by omega] at g4; omega
  have hpp := hin.par.ptr
  have hpr := hin.par.row
  have hkp := hin.fks.ptr
  have hkr := hin.fks.row
  have hbp := hin.bls.ptr
  have hbr := hin.bls.row
  have hLp : ∀ u, Ext [] w u → Ld Try.prog u 3 (s.A2.add (i * 1 + 0)) (.int .i64 ((k' : Int) - 1)) := fun u hu => by
    rw [← hk', parB_eq hip]; exact ld_field ic_len (hpr.ext0 hu) hip 0 rfl (by decide) rfl
  have hLk : ∀ u, Ext [] w u → Ld Try.prog u 3 (s.A3.add (i * 1 + 0)) (.int .i64 (m' : Int)) := fun u hu => by
    rw [← hm', fkB_eq hik]; exact ld_field ic_len (hkr.ext0 hu) hik 0 rfl (by decide) rfl
  have hLb : ∀ u, Ext [] w u → Ld Try.prog u 59 (s.A1.add (i * 1 + 0)) (.slice s.bls[i].p s.bls[i].l.length s.bls[i].c) := fun u hu => ld_field blc_len (hbr.ext0 hu) hib 0 rfl (by decide) rfl
  obtain ⟨Ab, hsb⟩ := hin.sub _ (List.getElem_mem hib)
  have hbe := brB_eq (s := s) hib
  have hmb : many ≤ s.bls[i].l.length := by have : many ≤ (brB s.br i).length := hm; rwa [hbe] at this
  have hble := hsb.le
  have htl : (s.bls[i].l.take many).length = many := by rw [List.length_take]; omega
  have hT := cr_part hsb (lo := 0) (n := many) (by omega)
  rw [List.drop_zero] at hT
  have hwl := withN_length (b := s.br) (M := 1000) hsm.base hsm.brs k' k' m'
  have hk64 : k' ≤ 64 := by omega
  have hbl2 := hsm.brs i
  rw [hbe] at hbl2
  have hwl2 : (withB s.br ((k' : Int) - 1) m').1.length ≤ 65000 := by
    unfold withB
    rw [show ((k' : Int) - 1 + 1).toNat = k' by omega]
    have : (k' + 1) * 1000 ≤ 65 * 1000 := Nat.mul_le_mul_right _ (by omega)
    omega
  have hwc : checkL (withB s.br ((k' : Int) - 1) m').1 = 0 := withN_check hck _ _ _
  have hrec : ∀ u (l3 : List Fct) (p3 : Option Addr) (A3 : Addr) (c3 : Nat), Ext [] w u → SlV fc u p3 A3 l3 c3 → checkL l3 = 0 → l3.length ≤ 65000 → Calls Try.prog 50 #[.slice p3 l3.length c3, .slice (if s.bls[i].c = 0 then s.bls[i].p else s.bls[i].p.map (·.add (0 * 6))) (many - 0) (s.bls[i].c - 0)] u (Ret fun r w' => Ext [] u w' ∧ RRec w' r (recL l3 (s.bls[i].l.take many))) := fun u l3 p3 A3 c3 hu hs3 hc3 hl3 => by
    have h9 := refRecords_at l3 (s.bls[i].l.take many) p3 _ A3 _ c3 _ u hs3 (hT.ext0 hu) hc3 (by omega)
    rw [htl] at h9
    exact h9
  have hstep : withB s.br (((i + 1 : Nat) : Int) - 1) many = if (withB s.br ((k' : Int) - 1) m').2 ≠ 0 then ([], (withB s.br ((k' : Int) - 1) m').2) else recL (withB s.br ((k' : Int) - 1) m').1 (s.bls[i].l.take many) := by
    rw [show (((i + 1 : Nat) : Int) - 1) = (i : Int) by omega, withB_step hf hi many, hk', hm', hbe, Int.toNat_natCast]
  by_cases hz : (withB s.br ((k' : Int) - 1) m').2 = 0; rotate_left
  · rw [if_pos hz] at hstep
    refine ztx ?_
    refine Ox.act rfl rfl (acts_box rfl rfl) ?_
    rintro vb3 wb3 ⟨eb3, bb3, rfl, hbb3, hBb3⟩
    first | (have hCb3 : Cells wb3 ⟨bb3, 0, none⟩ [_, _, _, _, _] := hBb3.cells) | have hCb3 := Blk.cellsL hBb3
    have hlb3 := hBb3.lt
    have hzb3 := eb3.size
    refine Ox.pure rfl rfl zas ?_
    refine Ox.pure rfl rfl zas ?_
    refine Ox.fin ?_
    refine ztx ?_
    refine Ox.pure rfl rfl zmv ?_
    refine Ox.pure rfl rfl zbc ?_
    refine Ox.fin ?_
    refine zcf ?_
    refine zsk ?_
    (repeat refine Sx.seq ?_)
    refine Sx.walkR rfl (fun _ _ _ _ h => h) [0, 1, 2, 3, 4, 5, 6, 7, 8, 9, 10, 11, 12, 13, 14, 15, 16] [0, 1, 2, 3, 4, 5, 6, 7, 8, 9, 10, 12, 13, 14, 15, 16] (0) (by kernel_rfl) ?_
    intro hq w4 e4; have hz4 := e4.size
    refine Wx.val hq rfl rfl rfl rfl ([]) zra ?_
    refine Wx.pure hq rfl rfl rfl rfl zfa ?_
    refine Wx.val hq rfl rfl rfl rfl ([]) zrs ?_
    refine Wx.pure hq rfl rfl rfl rfl zmv ?_
    refine Wx.pure hq rfl rfl rfl rfl (rp_indexAddr i rfl rfl rfl rfl rfl (by assumption) (by omega) hip) ?_
    refine Wx.val hq rfl rfl rfl rfl ([]) (rv_load rfl rfl (fun u hu => hLp u zxc)) ?_
    refine Wx.pure hq rfl rfl rfl rfl zfa ?_
    refine Wx.val hq rfl rfl rfl rfl ([]) zrs ?_
    refine Wx.pure hq rfl rfl rfl rfl zmv ?_
    refine Wx.pure hq rfl rfl rfl rfl (rp_indexAddr i rfl rfl rfl rfl rfl (by assumption) (by omega) hik) ?_
    refine Wx.val hq rfl rfl rfl rfl ([]) (rv_load rfl rfl (fun u hu => hLk u zxc)) ?_
    refine Wx.actNew rfl rfl rfl rfl (acts_call rfl rfl rfl (ih k' (by omega) m' _ (by omega) hmk (hin.ext0 zxc))) ?_
    rintro vu3 wu3 eu3 ⟨p3, A3, c3, rfl, hs3⟩
    have hzu3 := eu3.size
    refine Wx.pure hq rfl rfl rfl rfl zmv ?_
    refine Wx.pure hq rfl rfl rfl rfl (rp_extract rfl rfl rfl) ?_
    refine Wx.pure hq rfl rfl rfl rfl (rp_extract rfl rfl rfl) ?_
    refine Wx.pure hq rfl rfl rfl rfl zas ?_
    refine Wx.pure hq rfl rfl rfl rfl zas ?_
    refine Wx.fin ?_
    refine ztx ?_
    refine Ox.pure rfl rfl zmv ?_
    refine Ox.pure rfl rfl zbc ?_
    refine Ox.fin ?_
    refine zct ?_
    refine ztx ?_
    refine Ox.pure rfl rfl zmv ?_
    refine Ox.pure rfl rfl zas ?_
    refine Ox.pure rfl rfl zas ?_
    refine Ox.fin ?_
    refine zrt ?_
    exact endE_ret [.slice none 0 0, .int .i64 (withB s.br ((k' : Int) - 1) m').2] ⟨rfl, rfl, trivial⟩ ⟨zxc, by rw [hstep]; exact ⟨none, ⟨0, 0, none⟩, 0, rfl, SlV.nil _ _⟩⟩
  · rw [if_neg (fun h => h hz)] at hstep
    refine ztx ?_
    refine Ox.act rfl rfl (acts_box rfl rfl) ?_
    rintro vb3 wb3 ⟨eb3, bb3, rfl, hbb3, hBb3⟩
    first | (have hCb3 : Cells wb3 ⟨bb3, 0, none⟩ [_, _, _, _, _] := hBb3.cells) | have hCb3 := Blk.cellsL hBb3
    have hlb3 := hBb3.lt
    have hzb3 := eb3.size
    refine Ox.pure rfl rfl zas ?_
    refine Ox.pure rfl rfl zas ?_
    refine Ox.fin ?_
    refine ztx ?_
    refine Ox.pure rfl rfl zmv ?_
    refine Ox.pure rfl rfl zbc ?_
    refine Ox.fin ?_
    refine zcf ?_
    refine zsk ?_
    (repeat refine Sx.seq ?_)
    refine Sx.walkR rfl (fun _ _ _ _ h => h) [0, 1, 2, 3, 4, 5, 6, 7, 8, 9, 10, 11, 12, 13, 14, 15, 16] [0, 1, 2, 3, 4, 5, 6, 7, 8, 9, 10, 12, 13, 14, 15, 16] (0) (by kernel_rfl) ?_
    intro hq w5 e5; have hz5 := e5.size
    refine Wx.val hq rfl rfl rfl rfl ([]) zra ?_
    refine Wx.pure hq rfl rfl rfl rfl zfa ?_
    refine Wx.val hq rfl rfl rfl rfl ([]) zrs ?_
    refine Wx.pure hq rfl rfl rfl rfl zmv ?_
    refine Wx.pure hq rfl rfl rfl rfl (rp_indexAddr i rfl rfl rfl rfl rfl (by assumption) (by omega) hip) ?_
    refine Wx.val hq rfl rfl rfl rfl ([]) (rv_load rfl rfl (fun u hu => hLp u zxc)) ?_
    refine Wx.pure hq rfl rfl rfl rfl zfa ?_
    refine Wx.val hq rfl rfl rfl rfl ([]) zrs ?_
    refine Wx.pure hq rfl rfl rfl rfl zmv ?_
    refine Wx.pure hq rfl rfl rfl rfl (rp_indexAddr i rfl rfl rfl rfl rfl (by assumption) (by omega) hik) ?_
    refine Wx.val hq rfl rfl rfl rfl ([]) (rv_load rfl rfl (fun u hu => hLk u zxc)) ?_
    refine Wx.actNew rfl rfl rfl rfl (acts_call rfl rfl rfl (ih k' (by omega) m' _ (by omega) hmk (hin.ext0 zxc))) ?_
    rintro vu3 wu3 eu3 ⟨p3, A3, c3, rfl, hs3⟩
    have hzu3 := eu3.size
    refine Wx.pure hq rfl rfl rfl rfl zmv ?_
    refine Wx.pure hq rfl rfl rfl rfl (rp_extract rfl rfl rfl) ?_
    refine Wx.pure hq rfl rfl rfl rfl (rp_extract rfl rfl rfl) ?_
    refine Wx.pure hq rfl rfl rfl rfl zas ?_
    refine Wx.pure hq rfl rfl rfl rfl zas ?_
    refine Wx.fin ?_
    refine ztx ?_
    refine Ox.pure rfl rfl zmv ?_
    refine Ox.pure rfl rfl zbc ?_
    refine Ox.fin ?_
    refine zcf ?_
    refine zsk ?_
    refine ztx ?_
    refine Ox.pure rfl rfl zmv ?_
    refine Ox.pure rfl rfl zfa ?_
    refine Ox.val rfl rfl zrs ?_
    refine Ox.pure rfl rfl zmv ?_
    refine Ox.pure rfl rfl (rp_indexAddr i rfl rfl rfl rfl rfl (by assumption) (by omega) hib) ?_
    refine Ox.val rfl rfl (rv_load rfl rfl (fun u hu => hLb u zxc)) ?_
    refine Ox.pure rfl rfl zmv ?_
    refine Ox.pure rfl rfl (rp_sliceS 0 many rfl rfl rfl rfl rfl rfl (.inl ⟨rfl, rfl⟩) (.inr ⟨_, rfl⟩) (Nat.zero_le _) (by omega)) ?_
    refine Ox.act rfl rfl (acts_call rfl rfl rfl (hrec _ _ p3 A3 c3 zxc (hs3.ext0 zxc) hwc hwl2)) ?_
    rintro v6 w6 ⟨e6, p8, A8, c8, rfl, hs8⟩
    have hz6 := e6.size
    refine Ox.pure rfl rfl (rp_extract rfl rfl rfl) ?_
    refine Ox.pure rfl rfl (rp_extract rfl rfl rfl) ?_
    refine Ox.pure rfl rfl zas ?_
    refine Ox.pure rfl rfl zas ?_
    refine Ox.fin ?_
    refine zrt ?_
    exact endE_ret [.slice p8 (recL (withB s.br ((k' : Int) - 1) m').1 (s.bls[i].l.take many)).1.length c8, .int .i64 (recL (withB s.br ((k' : Int) - 1) m').1 (s.bls[i].l.take many)).2] ⟨rfl, rfl, trivial⟩ ⟨zxc, by rw [hstep]; exact ⟨p8, A8, c8, rfl, hs8.ext0 zxc⟩⟩

theorem refWith_no (s : Bs) (hf : Formed s.br) (hck : checkL s.base = 0) (hsm : Small s) (no : Int) (many : Nat) (h1 : -1 ≤ no) (h2 : no < (s.bls.length : Int)) (hm : many ≤ lenB s.br no) (w : World) (hin : BsIn s w) :
    Calls Try.prog 46 #[.agg (bvc s).toArray, .int .i64 no, .int .i64 (many : Int)] w (Ret fun r w' => Ext [] w w' ∧ RRec w' r (withB s.br no many)) := by
  have h9 := refWith_at s hf hck hsm (no + 1).toNat many w (by omega) (by rw [← lenB_K]; exact hm) hin
  rw [show (((no + 1).toNat : Int) - 1) = no by omega] at h9
  exact h9

end Go.Proofs.Ytfgckcochilpkaa

/- Branches' walks: the reference's copies. -/
set_option linter.unusedVariables false
set_option maxRecDepth 100000
set_option maxHeartbeats 4000000
set_option linter.unusedSimpArgs false
namespace Go.Proofs.Ytfgckcochilpkaa
open Go Go.Eng

theorem rows_apart {v9 v13 : Value} {b6 b10 n9 n13 m9 : Nat} (h9 : v9.ownBlock = some b6 ∨ ∃ b, v9.ownBlock = some b ∧ n9 ≤ b) (h13 : v13.ownBlock = some b10 ∨ ∃ b, v13.ownBlock = some b ∧ n13 ≤ b)
    (l9 : ∀ g, v9.ownBlock = some g → g < m9) (c1 : m9 ≤ n13) (c2 : b6 ≠ b10) (c3 : b10 < n9 ∨ m9 ≤ b10) : ∀ g, v9.ownBlock = some g → v13.ownBlock ≠ some g := by
  intro g hg hg2
  have h1 := l9 g hg
  rw [hg] at h9
  rw [hg2] at h13
  simp only [Option.some.injEq] at h9 h13
  rcases h13 with h | ⟨b, h, h2⟩
  · rcases h9 with h3 | ⟨b', h3, h4⟩ <;> omega
  · omega
theorem refCopied_fin {s : Bs} {w w1 w' : World} {b : Nat} {p5 p9 p13 p17 : Option Addr} {k5 k9 k13 k17 : Nat} (hfw : Few s) (hin : BsIn s w) (he : Ext [] w w') (hB : Blk w' b 27 [.slice s.p0 s.base.length s.c0, .slice p5 s.bls.length k5, .slice p9 s.par.length k9, .slice p13 s.fks.length k13, .slice p17 s.done.length k17])
    (hq : Ext [b] w1 w') {base : Nat} (hb : b < base) (hbw : w.heap.size ≤ base) (o5 : w1.ownsRow base 59 1 (.slice p5 s.bls.length k5) s.bls.length (rowsV blc s.bls)) (o9 : w1.ownsRow base 3 1 (.slice p9 s.par.length k9) s.par.length (rowsV ic s.par))
    (o13 : w1.ownsRow base 3 1 (.slice p13 s.fks.length k13) s.fks.length (rowsV ic s.fks)) (o17 : w1.ownsRow base 4 1 (.slice p17 s.done.length k17) s.done.length (rowsV boc s.done))
    (hap : ∀ g, (Value.slice p9 s.par.length k9).ownBlock = some g → (Value.slice p13 s.fks.length k13).ownBlock ≠ some g) :
    ∃ s' : Bs, Blk w' b 27 (bvc s') ∧ s'.br = s.br ∧ s'.bls = s.bls ∧ (∀ u, SlV fc u s.p0 s.A0 s.base s.c0 → SlV fc u s'.p0 s'.A0 s'.base s'.c0) ∧ BsOwn w.heap.size s' w' := by
  obtain ⟨w1', w2', w3', w4'⟩ := hfw
  have x5 := own_base (own_keep o5 hq (own_notin o5 hb)) hbw
  have x9 := own_base (own_keep o9 hq (own_notin o9 hb)) hbw
  have x13 := own_base (own_keep o13 hq (own_notin o13 hb)) hbw
  have x17 := own_base (own_keep o17 hq (own_notin o17 hb)) hbw
  obtain ⟨A5, z5⟩ := own_sl_at x5 (by omega)
  obtain ⟨A9, z9⟩ := own_sl_at x9 (by omega)
  obtain ⟨A13, z13⟩ := own_sl_at x13 (by omega)
  obtain ⟨A17, z17⟩ := own_sl_at x17 (by omega)
  exact ⟨⟨s.base, s.p0, s.A0, s.c0, s.bls, p5, A5, k5, s.par, p9, A9, k9, s.fks, p13, A13, k13, s.done, p17, A17, k17⟩, hB, rfl, rfl, fun _ h => h, ⟨hin.base.ext0 he, z5, fun x hx => (hin.sub x hx).imp fun _ h => h.ext0 he, z9, z13, z17⟩, x5, x9, x13, x17, hap⟩

structure RC where
  b2 : Nat
  b6 : Nat
  b10 : Nat
  b14 : Nat
  v5 : Value
  v9 : Value
  v13 : Value
  v17 : Value
theorem lt_built {w : World} {b : Nat} {t : TypeId} (h : Blk w b t []) : ∀ g, (Value.slice (some ⟨b, 0, none⟩) 0 0).ownBlock = some g → g < w.heap.size := fun g hg => by
  have : b = g := by simpa [Value.ownBlock] using hg
  subst this; exact h.lt
theorem lt_own {w : World} {base : Nat} {e : TypeId} {m k : Nat} {v : Value} {xs : List Value} (h : w.ownsRow base e m v k xs) : ∀ g, v.ownBlock = some g → g < w.heap.size := fun g hg => (own_lt h g (by simp [hg])).2
theorem pair_hi {U : Value} {b n : Nat} (h : ∀ g, U.ownBlock = some g → g < n) (hb : n ≤ b) : ∀ g, U.ownBlock = some g → (Value.slice (some ⟨b, 0, none⟩) 0 0).ownBlock ≠ some g := fun g hg h2 => by
  have : b = g := by simpa [Value.ownBlock] using h2
  have := h g hg; omega
theorem pair_lo {U : Value} {b n : Nat} (h : ∀ g, U.ownBlock = some g → g < n) (hb : n ≤ b) : ∀ g, (Value.slice (some ⟨b, 0, none⟩) 0 0).ownBlock = some g → U.ownBlock ≠ some g := fun g hg h2 => by
  have : b = g := by simpa [Value.ownBlock] using hg
  have := h g h2; omega
theorem pair_v2 {U v : Value} {b n : Nat} (hp : ∀ g, (Value.slice (some ⟨b, 0, none⟩) 0 0).ownBlock = some g → U.ownBlock ≠ some g) (h : ∀ g, U.ownBlock = some g → g < n) (hr : v.ownBlock = some b ∨ ∃ b', v.ownBlock = some b' ∧ n ≤ b') : ∀ g, v.ownBlock = some g → U.ownBlock ≠ some g := fun g hg h2 => by
  rcases hr with hr | ⟨b', hr, hb⟩
  · rw [hr] at hg; injection hg with hg; subst hg; exact hp _ rfl h2
  · rw [hr] at hg; injection hg with hg; subst hg; have := h _ h2; omega
theorem pair_v3 {U v : Value} {b n : Nat} (hp : ∀ g, U.ownBlock = some g → (Value.slice (some ⟨b, 0, none⟩) 0 0).ownBlock ≠ some g) (h : ∀ g, U.ownBlock = some g → g < n) (hr : v.ownBlock = some b ∨ ∃ b', v.ownBlock = some b' ∧ n ≤ b') : ∀ g, U.ownBlock = some g → v.ownBlock ≠ some g := fun g hg h2 => by
  rcases hr with hr | ⟨b', hr, hb⟩
  · rw [hr] at h2; injection h2 with h2; subst h2; exact hp _ hg rfl
  · rw [hr] at h2; injection h2 with h2; subst h2; have := h _ hg; omega
theorem refCopied_at (s : Bs) (hfw : Few s) (w : World) (hin : BsIn s w) :
    Calls Try.prog 41 #[.agg (bvc s).toArray] w (Ret fun r w' => Ext [] w w' ∧ ∃ s' : Bs, r = .agg (bvc s').toArray ∧ s'.br = s.br ∧ s'.bls = s.bls ∧ (∀ u, SlV fc u s.p0 s.A0 s.base s.c0 → SlV fc u s'.p0 s'.A0 s'.base s'.c0) ∧ BsOwn w.heap.size s' w') := by
  have hfw' := id hfw
  obtain ⟨w1', w2', w3', w4'⟩ := hfw'
  refine calls_of_Sx (args := [.agg (bvc s).toArray]) Try.func41 rfl rfl ?_
  refine ztx ?_
  refine Ox.act rfl rfl (acts_box rfl rfl) ?_
  rintro vb1 wb1 ⟨eb1, bb1, rfl, hbb1, hBb1⟩
  first | (have hCb1 : Cells wb1 ⟨bb1, 0, none⟩ [_, _, _, _, _] := hBb1.cells) | have hCb1 := Blk.cellsL hBb1
  have hlb1 := hBb1.lt
  have hzb1 := eb1.size
  refine Ox.act rfl rfl (acts_alloc rfl rfl) ?_
  rintro vb2 wb2 ⟨eb2, bb2, rfl, hbb2, hBb2⟩
  first | (have hCb2 : Cells wb2 ⟨bb2, 0, none⟩ [_, _, _, _, _] := hBb2.cells) | have hCb2 := Blk.cellsL hBb2
  have hlb2 := hBb2.lt
  have hzb2 := eb2.size
  refine Ox.fin ?_
  refine Sx.seq (Sx.upto (fun E' w' => (∀ t u, get [(2, .pointer (some ⟨bb2, 0, none⟩))] t = some u → get E' t = some u) ∧ Ext [] w w' ∧ ∃ s' : Bs, Blk w' bb2 27 (bvc s') ∧ s'.br = s.br ∧ s'.bls = s.bls ∧ (∀ u, SlV fc u s.p0 s.A0 s.base s.c0 → SlV fc u s'.p0 s'.A0 s'.base s'.c0) ∧ BsOwn w.heap.size s' w') ?_ ?_)
  · skip
    (repeat refine Sx.seq ?_)
    refine Sx.walkR rfl (fun _ _ _ _ h => h) [0, 1, 3, 4, 7, 8, 11, 12, 15, 16] [0, 1, 3, 4, 7, 8, 11, 12, 15, 16, 18] (10) (by kernel_rfl) ?_
    intro hq w1 e1; have hz1 := e1.size
    refine Wx.pure hq rfl rfl rfl rfl zfa ?_
    refine Wx.val hq rfl rfl rfl rfl ([]) zrs ?_
    refine Wx.pure hq rfl rfl rfl rfl zfa ?_
    refine Wx.val hq rfl rfl rfl rfl ([]) zrs ?_
    refine Wx.pure hq rfl rfl rfl rfl zfa ?_
    refine Wx.val hq rfl rfl rfl rfl ([]) zrs ?_
    refine Wx.pure hq rfl rfl rfl rfl zfa ?_
    refine Wx.val hq rfl rfl rfl rfl ([]) zrs ?_
    refine Wx.pure hq rfl rfl rfl rfl zfa ?_
    refine Wx.val hq rfl rfl rfl rfl ([]) zrs ?_
    refine Wx.join (ι := RC) (fun i w9 => Ext [] w1 w9 ∧ w9.ownsRow wb2.heap.size 59 1 i.v5 s.bls.length (rowsV blc s.bls) ∧ w9.ownsRow wb2.heap.size 3 1 i.v9 s.par.length (rowsV ic s.par) ∧ w9.ownsRow wb2.heap.size 3 1 i.v13 s.fks.length (rowsV ic s.fks) ∧ w9.ownsRow wb2.heap.size 4 1 i.v17 s.done.length (rowsV boc s.done) ∧ ∀ g, ((i.v9 : Value).ownBlock) = some g → ((i.v13 : Value).ownBlock) ≠ some g) (fun i => [(2, .pointer (some ⟨bb2, 0, none⟩)), (4, .slice s.p0 s.base.length s.c0), (7, .slice s.p1 s.bls.length s.c1), (11, .slice s.p2 s.par.length s.c2), (15, .slice s.p3 s.fks.length s.c3), (19, .slice s.p4 s.done.length s.c4), (8, i.v5), (12, i.v9), (16, i.v13), (20, i.v17)]) [17, 13, 9, 5, 14, 10, 6, 2, 16, 15, 12, 11, 8, 7, 4, 3, 1, 0] [18, 19] 0 [(1, [], w1)] (by kernel_rfl) ?_ ?_
    · rintro ⟨b2, b6, b10, b14, v5, v9, v13, v17⟩ w9 ⟨e, o0, o1, o2, o3, hap⟩
      dsimp only at o0 o1 o2 o3 hap ⊢
      have hz9 := e.size
      obtain ⟨p5, k5, A5, rfl, _, _⟩ := SlV.of_own o0 (by omega)
      obtain ⟨p9, k9, A9, rfl, _, _⟩ := SlV.of_own o1 (by omega)
      obtain ⟨p13, k13, A13, rfl, _, _⟩ := SlV.of_own o2 (by omega)
      obtain ⟨p17, k17, A17, rfl, _, _⟩ := SlV.of_own o3 (by omega)
      refine Wx.pure hq rfl rfl rfl rfl (rp_buildS (ps := [(0, .tmp 4), (1, .tmp 8), (2, .tmp 12), (3, .tmp 16), (4, .tmp 20)]) rfl rfl rfl rfl rfl) ?_
      refine Wx.actLast rfl rfl rfl rfl (by kernel_rfl) (acts_store_all rfl rfl rfl (hBb2.ext (X := []) zxc (by simp)) rfl rfl rfl (by (first | assumption | exact List.all_eq_true.mp rfl | simp [Value.cells, Value.oneCell']))) ?_
      rintro v19 w19 ⟨rfl, q19, hB19⟩
      refine Wx.fin ?_
      have e19 : Ext [] w w19 := Ext.renew zxc q19 (by omega)
      exact ⟨sub_cons rfl sub_nil, e19, refCopied_fin hfw hin e19 hB19 q19 (base := wb2.heap.size) (by have := hBb2.lt; omega) (by omega) o0 o1 o2 o3 hap⟩
    intro hS4
    refine Wx.join (ι := RC) (fun i w9 => Ext [] w1 w9 ∧ w9.ownsRow wb2.heap.size 59 1 i.v5 s.bls.length (rowsV blc s.bls) ∧ w9.ownsRow wb2.heap.size 3 1 i.v9 s.par.length (rowsV ic s.par) ∧ w9.ownsRow wb2.heap.size 3 1 i.v13 s.fks.length (rowsV ic s.fks) ∧ (wb2.heap.size ≤ i.b14 ∧ Blk w9 i.b14 4 []) ∧ ∀ g, ((i.v9 : Value).ownBlock) = some g → ((i.v13 : Value).ownBlock) ≠ some g) (fun i => [(2, .pointer (some ⟨bb2, 0, none⟩)), (4, .slice s.p0 s.base.length s.c0), (7, .slice s.p1 s.bls.length s.c1), (11, .slice s.p2 s.par.length s.c2), (15, .slice s.p3 s.fks.length s.c3), (19, .slice s.p4 s.done.length s.c4), (8, i.v5), (12, i.v9), (16, i.v13), (17, .slice (some ⟨i.b14, 0, none⟩) 0 0)]) [14, 13, 9, 5, 10, 6, 2, 16, 15, 12, 11, 8, 7, 4, 3, 1, 0] [] (3) [(16, [], w1), (1, [], w1)] (by kernel_rfl) ?_ ?_
    · rintro ⟨b2, b6, b10, b14, v5, v9, v13, v17⟩ w9 ⟨e, o0, o1, o2, q3, hap⟩
      dsimp only at o0 o1 o2 q3 hap ⊢
      have hz9 := e.size
      refine Wx.fork1 (i := 17) (by kernel_rfl) ?_
      · refine Go.Eng.Br.mk [(1, [], w1)] rfl rfl rfl [] (.drop (by kernel_rfl) (.keep (fun y hy => .inl hy) (PendK.nil))) (acts_append_new (e := 4) (size := 1) (bytes := 1) (base := wb2.heap.size) rfl rfl rfl rfl q3.2 ((hin.done.ext0 zxc).src rfl boc_len boc_one) (by omega) (by omega) q3.1) (fun _ _ h => h.1) [18, 19] 0 (by kernel_rfl) ?_
        rintro v w8 ⟨e8, ho, hr⟩
        exact hS4 ⟨b2, b6, b10, b14, v5, v9, v13, v⟩ w8 _ _ (by kernel_rfl) (sub_cons rfl (sub_cons rfl (sub_cons rfl (sub_cons rfl (sub_cons rfl (sub_cons rfl (sub_cons rfl (sub_cons rfl (sub_cons rfl (sub_cons rfl sub_nil)))))))))) ⟨e.trans e8, own_keep0 o0 e8, own_keep0 o1 e8, own_keep0 o2 e8, ho, hap⟩
    intro hS3_3
    refine Wx.join (ι := RC) (fun i w9 => Ext [] w1 w9 ∧ w9.ownsRow wb2.heap.size 59 1 i.v5 s.bls.length (rowsV blc s.bls) ∧ w9.ownsRow wb2.heap.size 3 1 i.v9 s.par.length (rowsV ic s.par) ∧ w9.ownsRow wb2.heap.size 3 1 i.v13 s.fks.length (rowsV ic s.fks) ∧ ∀ g, ((i.v9 : Value).ownBlock) = some g → ((i.v13 : Value).ownBlock) ≠ some g) (fun i => [(2, .pointer (some ⟨bb2, 0, none⟩)), (4, .slice s.p0 s.base.length s.c0), (7, .slice s.p1 s.bls.length s.c1), (11, .slice s.p2 s.par.length s.c2), (15, .slice s.p3 s.fks.length s.c3), (19, .slice s.p4 s.done.length s.c4), (8, i.v5), (12, i.v9), (16, i.v13)]) [13, 9, 5, 10, 6, 2, 16, 15, 12, 11, 8, 7, 4, 3, 1, 0] [] (4) [(16, [], w1), (1, [], w1)] (by kernel_rfl) ?_ ?_
    · rintro ⟨b2, b6, b10, b14, v5, v9, v13, v17⟩ w9 ⟨e, o0, o1, o2, hap⟩
      dsimp only at o0 o1 o2 hap ⊢
      have hz9 := e.size
      refine Wx.fork1 (i := 14) (by kernel_rfl) ?_
      · refine Go.Eng.Br.mk [(16, [], w1), (1, [], w1)] rfl rfl rfl [] (.keep (fun y hy => .inl hy) (.keep (fun y hy => .inl hy) (PendK.nil))) (acts_buildSlice (ps := []) rfl rfl rfl rfl rfl rfl rfl rfl) (fun _ _ h => h.1) [] (3) (by kernel_rfl) ?_
        rintro _ w8 ⟨e8, b, rfl, hb, hB⟩
        exact hS3_3 ⟨b2, b6, b10, b, v5, v9, v13, v17⟩ w8 _ _ (by kernel_rfl) (sub_cons rfl (sub_cons rfl (sub_cons rfl (sub_cons rfl (sub_cons rfl (sub_cons rfl (sub_cons rfl (sub_cons rfl (sub_cons rfl (sub_cons rfl sub_nil)))))))))) ⟨e.trans e8, own_keep0 o0 e8, own_keep0 o1 e8, own_keep0 o2 e8, ⟨by dsimp only; omega, hB⟩, hap⟩
    intro hS3
    refine Wx.join (ι := RC) (fun i w9 => Ext [] w1 w9 ∧ w9.ownsRow wb2.heap.size 59 1 i.v5 s.bls.length (rowsV blc s.bls) ∧ w9.ownsRow wb2.heap.size 3 1 i.v9 s.par.length (rowsV ic s.par) ∧ (wb2.heap.size ≤ i.b10 ∧ Blk w9 i.b10 3 []) ∧ (wb2.heap.size ≤ i.b14 ∧ Blk w9 i.b14 4 []) ∧ ∀ g, ((i.v9 : Value).ownBlock) = some g → ((.slice (some ⟨i.b10, 0, none⟩) 0 0 : Value).ownBlock) ≠ some g) (fun i => [(2, .pointer (some ⟨bb2, 0, none⟩)), (4, .slice s.p0 s.base.length s.c0), (7, .slice s.p1 s.bls.length s.c1), (11, .slice s.p2 s.par.length s.c2), (15, .slice s.p3 s.fks.length s.c3), (19, .slice s.p4 s.done.length s.c4), (8, i.v5), (12, i.v9), (13, .slice (some ⟨i.b10, 0, none⟩) 0 0), (17, .slice (some ⟨i.b14, 0, none⟩) 0 0)]) [14, 10, 9, 5, 6, 2, 16, 15, 12, 11, 8, 7, 4, 3, 1, 0] [] (4) [(16, [], w1), (12, [], w1), (1, [], w1)] (by kernel_rfl) ?_ ?_
    · rintro ⟨b2, b6, b10, b14, v5, v9, v13, v17⟩ w9 ⟨e, o0, o1, q2, q3, hap⟩
      dsimp only at o0 o1 q2 q3 hap ⊢
      have hz9 := e.size
      refine Wx.fork1 (i := 13) (by kernel_rfl) ?_
      · refine Go.Eng.Br.mk [(16, [], w1), (1, [], w1)] rfl rfl rfl [] (.keep (fun y hy => .inl hy) (.drop (by kernel_rfl) (.keep (fun y hy => .inl hy) (PendK.nil)))) (acts_append_new (e := 3) (size := 1) (bytes := 8) (base := wb2.heap.size) rfl rfl rfl rfl q2.2 ((hin.fks.ext0 zxc).src rfl ic_len ic_one) (by omega) (by omega) q2.1) (fun _ _ h => h.1) [] (3) (by kernel_rfl) ?_
        rintro v w8 ⟨e8, ho, hr⟩
        exact hS3_3 ⟨b2, b6, b10, b14, v5, v9, v, v17⟩ w8 _ _ (by kernel_rfl) (sub_cons rfl (sub_cons rfl (sub_cons rfl (sub_cons rfl (sub_cons rfl (sub_cons rfl (sub_cons rfl (sub_cons rfl (sub_cons rfl (sub_cons rfl sub_nil)))))))))) ⟨e.trans e8, own_keep0 o0 e8, own_keep0 o1 e8, ho, ⟨q3.1, q3.2.ext e8 (by simp)⟩, pair_v3 hap (lt_own o1) hr⟩
    intro hS2_2_3
    refine Wx.join (ι := RC) (fun i w9 => Ext [] w1 w9 ∧ w9.ownsRow wb2.heap.size 59 1 i.v5 s.bls.length (rowsV blc s.bls) ∧ w9.ownsRow wb2.heap.size 3 1 i.v9 s.par.length (rowsV ic s.par) ∧ (wb2.heap.size ≤ i.b10 ∧ Blk w9 i.b10 3 []) ∧ ∀ g, ((i.v9 : Value).ownBlock) = some g → ((.slice (some ⟨i.b10, 0, none⟩) 0 0 : Value).ownBlock) ≠ some g) (fun i => [(2, .pointer (some ⟨bb2, 0, none⟩)), (4, .slice s.p0 s.base.length s.c0), (7, .slice s.p1 s.bls.length s.c1), (11, .slice s.p2 s.par.length s.c2), (15, .slice s.p3 s.fks.length s.c3), (19, .slice s.p4 s.done.length s.c4), (8, i.v5), (12, i.v9), (13, .slice (some ⟨i.b10, 0, none⟩) 0 0)]) [10, 9, 5, 6, 2, 16, 15, 12, 11, 8, 7, 4, 3, 1, 0] [] (5) [(16, [], w1), (12, [], w1), (1, [], w1)] (by kernel_rfl) ?_ ?_
    · rintro ⟨b2, b6, b10, b14, v5, v9, v13, v17⟩ w9 ⟨e, o0, o1, q2, hap⟩
      dsimp only at o0 o1 q2 hap ⊢
      have hz9 := e.size
      refine Wx.fork (i := 13) (j := 14) (by kernel_rfl) ?_ ?_
      · refine Go.Eng.Br.mk [(16, [], w1), (1, [], w1)] rfl rfl rfl [] (.keep (fun y hy => .inl hy) (.drop (by kernel_rfl) (.keep (fun y hy => .inl hy) (PendK.nil)))) (acts_append_new (e := 3) (size := 1) (bytes := 8) (base := wb2.heap.size) rfl rfl rfl rfl q2.2 ((hin.fks.ext0 zxc).src rfl ic_len ic_one) (by omega) (by omega) q2.1) (fun _ _ h => h.1) [] (4) (by kernel_rfl) ?_
        rintro v w8 ⟨e8, ho, hr⟩
        exact hS3 ⟨b2, b6, b10, b14, v5, v9, v, v17⟩ w8 _ _ (by kernel_rfl) (sub_cons rfl (sub_cons rfl (sub_cons rfl (sub_cons rfl (sub_cons rfl (sub_cons rfl (sub_cons rfl (sub_cons rfl (sub_cons rfl sub_nil))))))))) ⟨e.trans e8, own_keep0 o0 e8, own_keep0 o1 e8, ho, pair_v3 hap (lt_own o1) hr⟩
      · refine Go.Eng.Br.mk [(16, [], w1), (12, [], w1), (1, [], w1)] rfl rfl rfl [] (.keep (fun y hy => .inl hy) (.keep (fun y hy => .inl hy) (.keep (fun y hy => .inl hy) (PendK.nil)))) (acts_buildSlice (ps := []) rfl rfl rfl rfl rfl rfl rfl rfl) (fun _ _ h => h.1) [] (4) (by kernel_rfl) ?_
        rintro _ w8 ⟨e8, b, rfl, hb, hB⟩
        exact hS2_2_3 ⟨b2, b6, b10, b, v5, v9, v13, v17⟩ w8 _ _ (by kernel_rfl) (sub_cons rfl (sub_cons rfl (sub_cons rfl (sub_cons rfl (sub_cons rfl (sub_cons rfl (sub_cons rfl (sub_cons rfl (sub_cons rfl (sub_cons rfl sub_nil)))))))))) ⟨e.trans e8, own_keep0 o0 e8, own_keep0 o1 e8, ⟨q2.1, q2.2.ext e8 (by simp)⟩, ⟨by dsimp only; omega, hB⟩, hap⟩
    intro hS2_2
    refine Wx.join (ι := RC) (fun i w9 => Ext [] w1 w9 ∧ w9.ownsRow wb2.heap.size 59 1 i.v5 s.bls.length (rowsV blc s.bls) ∧ w9.ownsRow wb2.heap.size 3 1 i.v9 s.par.length (rowsV ic s.par) ∧ (wb2.heap.size ≤ i.b14 ∧ Blk w9 i.b14 4 [])) (fun i => [(2, .pointer (some ⟨bb2, 0, none⟩)), (4, .slice s.p0 s.base.length s.c0), (7, .slice s.p1 s.bls.length s.c1), (11, .slice s.p2 s.par.length s.c2), (15, .slice s.p3 s.fks.length s.c3), (19, .slice s.p4 s.done.length s.c4), (8, i.v5), (12, i.v9), (17, .slice (some ⟨i.b14, 0, none⟩) 0 0)]) [14, 9, 5, 6, 2, 16, 15, 12, 11, 8, 7, 4, 3, 1, 0] [] (5) [(16, [], w1), (12, [], w1), (1, [], w1)] (by kernel_rfl) ?_ ?_
    · rintro ⟨b2, b6, b10, b14, v5, v9, v13, v17⟩ w9 ⟨e, o0, o1, q3⟩
      dsimp only at o0 o1 q3 ⊢
      have hz9 := e.size
      refine Wx.fork1 (i := 10) (by kernel_rfl) ?_
      · refine Go.Eng.Br.mk [(16, [], w1), (12, [], w1), (1, [], w1)] rfl rfl rfl [] (.keep (fun y hy => .inl hy) (.keep (fun y hy => .inl hy) (.keep (fun y hy => .inl hy) (PendK.nil)))) (acts_buildSlice (ps := []) rfl rfl rfl rfl rfl rfl rfl rfl) (fun _ _ h => h.1) [] (4) (by kernel_rfl) ?_
        rintro _ w8 ⟨e8, b, rfl, hb, hB⟩
        exact hS2_2_3 ⟨b2, b6, b, b14, v5, v9, v13, v17⟩ w8 _ _ (by kernel_rfl) (sub_cons rfl (sub_cons rfl (sub_cons rfl (sub_cons rfl (sub_cons rfl (sub_cons rfl (sub_cons rfl (sub_cons rfl (sub_cons rfl (sub_cons rfl sub_nil)))))))))) ⟨e.trans e8, own_keep0 o0 e8, own_keep0 o1 e8, ⟨by dsimp only; omega, hB⟩, ⟨q3.1, q3.2.ext e8 (by simp)⟩, pair_hi (lt_own o1) hb⟩
    intro hS2_3
    refine Wx.join (ι := RC) (fun i w9 => Ext [] w1 w9 ∧ w9.ownsRow wb2.heap.size 59 1 i.v5 s.bls.length (rowsV blc s.bls) ∧ (wb2.heap.size ≤ i.b6 ∧ Blk w9 i.b6 3 []) ∧ (wb2.heap.size ≤ i.b10 ∧ Blk w9 i.b10 3 []) ∧ (wb2.heap.size ≤ i.b14 ∧ Blk w9 i.b14 4 []) ∧ ∀ g, ((.slice (some ⟨i.b6, 0, none⟩) 0 0 : Value).ownBlock) = some g → ((.slice (some ⟨i.b10, 0, none⟩) 0 0 : Value).ownBlock) ≠ some g) (fun i => [(2, .pointer (some ⟨bb2, 0, none⟩)), (4, .slice s.p0 s.base.length s.c0), (7, .slice s.p1 s.bls.length s.c1), (11, .slice s.p2 s.par.length s.c2), (15, .slice s.p3 s.fks.length s.c3), (19, .slice s.p4 s.done.length s.c4), (8, i.v5), (9, .slice (some ⟨i.b6, 0, none⟩) 0 0), (13, .slice (some ⟨i.b10, 0, none⟩) 0 0), (17, .slice (some ⟨i.b14, 0, none⟩) 0 0)]) [14, 10, 6, 5, 2, 16, 15, 12, 11, 8, 7, 4, 3, 1, 0] [] (5) [(16, [], w1), (12, [], w1), (8, [], w1), (1, [], w1)] (by kernel_rfl) ?_ ?_
    · rintro ⟨b2, b6, b10, b14, v5, v9, v13, v17⟩ w9 ⟨e, o0, q1, q2, q3, hap⟩
      dsimp only at o0 q1 q2 q3 hap ⊢
      have hz9 := e.size
      refine Wx.fork1 (i := 9) (by kernel_rfl) ?_
      · refine Go.Eng.Br.mk [(16, [], w1), (12, [], w1), (1, [], w1)] rfl rfl rfl [] (.keep (fun y hy => .inl hy) (.keep (fun y hy => .inl hy) (.drop (by kernel_rfl) (.keep (fun y hy => .inl hy) (PendK.nil))))) (acts_append_new (e := 3) (size := 1) (bytes := 8) (base := wb2.heap.size) rfl rfl rfl rfl q1.2 ((hin.par.ext0 zxc).src rfl ic_len ic_one) (by omega) (by omega) q1.1) (fun _ _ h => h.1) [] (4) (by kernel_rfl) ?_
        rintro v w8 ⟨e8, ho, hr⟩
        exact hS2_2_3 ⟨b2, b6, b10, b14, v5, v, v13, v17⟩ w8 _ _ (by kernel_rfl) (sub_cons rfl (sub_cons rfl (sub_cons rfl (sub_cons rfl (sub_cons rfl (sub_cons rfl (sub_cons rfl (sub_cons rfl (sub_cons rfl (sub_cons rfl sub_nil)))))))))) ⟨e.trans e8, own_keep0 o0 e8, ho, ⟨q2.1, q2.2.ext e8 (by simp)⟩, ⟨q3.1, q3.2.ext e8 (by simp)⟩, pair_v2 hap (lt_built q2.2) hr⟩
    intro hS1_1_2_3
    refine Wx.join (ι := RC) (fun i w9 => Ext [] w1 w9 ∧ w9.ownsRow wb2.heap.size 59 1 i.v5 s.bls.length (rowsV blc s.bls) ∧ w9.ownsRow wb2.heap.size 3 1 i.v9 s.par.length (rowsV ic s.par)) (fun i => [(2, .pointer (some ⟨bb2, 0, none⟩)), (4, .slice s.p0 s.base.length s.c0), (7, .slice s.p1 s.bls.length s.c1), (11, .slice s.p2 s.par.length s.c2), (15, .slice s.p3 s.fks.length s.c3), (19, .slice s.p4 s.done.length s.c4), (8, i.v5), (12, i.v9)]) [9, 5, 6, 2, 16, 15, 12, 11, 8, 7, 4, 3, 1, 0] [] (6) [(16, [], w1), (12, [], w1), (1, [], w1)] (by kernel_rfl) ?_ ?_
    · rintro ⟨b2, b6, b10, b14, v5, v9, v13, v17⟩ w9 ⟨e, o0, o1⟩
      dsimp only at o0 o1 ⊢
      have hz9 := e.size
      refine Wx.fork (i := 10) (j := 14) (by kernel_rfl) ?_ ?_
      · refine Go.Eng.Br.mk [(16, [], w1), (12, [], w1), (1, [], w1)] rfl rfl rfl [] (.keep (fun y hy => .inl hy) (.keep (fun y hy => .inl hy) (.keep (fun y hy => .inl hy) (PendK.nil)))) (acts_buildSlice (ps := []) rfl rfl rfl rfl rfl rfl rfl rfl) (fun _ _ h => h.1) [] (5) (by kernel_rfl) ?_
        rintro _ w8 ⟨e8, b, rfl, hb, hB⟩
        exact hS2_2 ⟨b2, b6, b, b14, v5, v9, v13, v17⟩ w8 _ _ (by kernel_rfl) (sub_cons rfl (sub_cons rfl (sub_cons rfl (sub_cons rfl (sub_cons rfl (sub_cons rfl (sub_cons rfl (sub_cons rfl (sub_cons rfl sub_nil))))))))) ⟨e.trans e8, own_keep0 o0 e8, own_keep0 o1 e8, ⟨by dsimp only; omega, hB⟩, pair_hi (lt_own o1) hb⟩
      · refine Go.Eng.Br.mk [(16, [], w1), (12, [], w1), (1, [], w1)] rfl rfl rfl [] (.keep (fun y hy => .inl hy) (.keep (fun y hy => .inl hy) (.keep (fun y hy => .inl hy) (PendK.nil)))) (acts_buildSlice (ps := []) rfl rfl rfl rfl rfl rfl rfl rfl) (fun _ _ h => h.1) [] (5) (by kernel_rfl) ?_
        rintro _ w8 ⟨e8, b, rfl, hb, hB⟩
        exact hS2_3 ⟨b2, b6, b10, b, v5, v9, v13, v17⟩ w8 _ _ (by kernel_rfl) (sub_cons rfl (sub_cons rfl (sub_cons rfl (sub_cons rfl (sub_cons rfl (sub_cons rfl (sub_cons rfl (sub_cons rfl (sub_cons rfl sub_nil))))))))) ⟨e.trans e8, own_keep0 o0 e8, own_keep0 o1 e8, ⟨by dsimp only; omega, hB⟩⟩
    intro hS2
    refine Wx.join (ι := RC) (fun i w9 => Ext [] w1 w9 ∧ w9.ownsRow wb2.heap.size 59 1 i.v5 s.bls.length (rowsV blc s.bls) ∧ (wb2.heap.size ≤ i.b6 ∧ Blk w9 i.b6 3 []) ∧ (wb2.heap.size ≤ i.b10 ∧ Blk w9 i.b10 3 []) ∧ ∀ g, ((.slice (some ⟨i.b6, 0, none⟩) 0 0 : Value).ownBlock) = some g → ((.slice (some ⟨i.b10, 0, none⟩) 0 0 : Value).ownBlock) ≠ some g) (fun i => [(2, .pointer (some ⟨bb2, 0, none⟩)), (4, .slice s.p0 s.base.length s.c0), (7, .slice s.p1 s.bls.length s.c1), (11, .slice s.p2 s.par.length s.c2), (15, .slice s.p3 s.fks.length s.c3), (19, .slice s.p4 s.done.length s.c4), (8, i.v5), (9, .slice (some ⟨i.b6, 0, none⟩) 0 0), (13, .slice (some ⟨i.b10, 0, none⟩) 0 0)]) [10, 6, 5, 2, 16, 15, 12, 11, 8, 7, 4, 3, 1, 0] [] (6) [(16, [], w1), (12, [], w1), (8, [], w1), (1, [], w1)] (by kernel_rfl) ?_ ?_
    · rintro ⟨b2, b6, b10, b14, v5, v9, v13, v17⟩ w9 ⟨e, o0, q1, q2, hap⟩
      dsimp only at o0 q1 q2 hap ⊢
      have hz9 := e.size
      refine Wx.fork (i := 9) (j := 14) (by kernel_rfl) ?_ ?_
      · refine Go.Eng.Br.mk [(16, [], w1), (12, [], w1), (1, [], w1)] rfl rfl rfl [] (.keep (fun y hy => .inl hy) (.keep (fun y hy => .inl hy) (.drop (by kernel_rfl) (.keep (fun y hy => .inl hy) (PendK.nil))))) (acts_append_new (e := 3) (size := 1) (bytes := 8) (base := wb2.heap.size) rfl rfl rfl rfl q1.2 ((hin.par.ext0 zxc).src rfl ic_len ic_one) (by omega) (by omega) q1.1) (fun _ _ h => h.1) [] (5) (by kernel_rfl) ?_
        rintro v w8 ⟨e8, ho, hr⟩
        exact hS2_2 ⟨b2, b6, b10, b14, v5, v, v13, v17⟩ w8 _ _ (by kernel_rfl) (sub_cons rfl (sub_cons rfl (sub_cons rfl (sub_cons rfl (sub_cons rfl (sub_cons rfl (sub_cons rfl (sub_cons rfl (sub_cons rfl sub_nil))))))))) ⟨e.trans e8, own_keep0 o0 e8, ho, ⟨q2.1, q2.2.ext e8 (by simp)⟩, pair_v2 hap (lt_built q2.2) hr⟩
      · refine Go.Eng.Br.mk [(16, [], w1), (12, [], w1), (8, [], w1), (1, [], w1)] rfl rfl rfl [] (.keep (fun y hy => .inl hy) (.keep (fun y hy => .inl hy) (.keep (fun y hy => .inl hy) (.keep (fun y hy => .inl hy) (PendK.nil))))) (acts_buildSlice (ps := []) rfl rfl rfl rfl rfl rfl rfl rfl) (fun _ _ h => h.1) [] (5) (by kernel_rfl) ?_
        rintro _ w8 ⟨e8, b, rfl, hb, hB⟩
        exact hS1_1_2_3 ⟨b2, b6, b10, b, v5, v9, v13, v17⟩ w8 _ _ (by kernel_rfl) (sub_cons rfl (sub_cons rfl (sub_cons rfl (sub_cons rfl (sub_cons rfl (sub_cons rfl (sub_cons rfl (sub_cons rfl (sub_cons rfl (sub_cons rfl sub_nil)))))))))) ⟨e.trans e8, own_keep0 o0 e8, ⟨q1.1, q1.2.ext e8 (by simp)⟩, ⟨q2.1, q2.2.ext e8 (by simp)⟩, ⟨by dsimp only; omega, hB⟩, hap⟩
    intro hS1_1_2
    refine Wx.join (ι := RC) (fun i w9 => Ext [] w1 w9 ∧ w9.ownsRow wb2.heap.size 59 1 i.v5 s.bls.length (rowsV blc s.bls) ∧ (wb2.heap.size ≤ i.b6 ∧ Blk w9 i.b6 3 []) ∧ (wb2.heap.size ≤ i.b14 ∧ Blk w9 i.b14 4 [])) (fun i => [(2, .pointer (some ⟨bb2, 0, none⟩)), (4, .slice s.p0 s.base.length s.c0), (7, .slice s.p1 s.bls.length s.c1), (11, .slice s.p2 s.par.length s.c2), (15, .slice s.p3 s.fks.length s.c3), (19, .slice s.p4 s.done.length s.c4), (8, i.v5), (9, .slice (some ⟨i.b6, 0, none⟩) 0 0), (17, .slice (some ⟨i.b14, 0, none⟩) 0 0)]) [14, 6, 5, 2, 16, 15, 12, 11, 8, 7, 4, 3, 1, 0] [] (6) [(16, [], w1), (12, [], w1), (8, [], w1), (1, [], w1)] (by kernel_rfl) ?_ ?_
    · rintro ⟨b2, b6, b10, b14, v5, v9, v13, v17⟩ w9 ⟨e, o0, q1, q3⟩
      dsimp only at o0 q1 q3 ⊢
      have hz9 := e.size
      refine Wx.fork (i := 9) (j := 10) (by kernel_rfl) ?_ ?_
      · refine Go.Eng.Br.mk [(16, [], w1), (12, [], w1), (1, [], w1)] rfl rfl rfl [] (.keep (fun y hy => .inl hy) (.keep (fun y hy => .inl hy) (.drop (by kernel_rfl) (.keep (fun y hy => .inl hy) (PendK.nil))))) (acts_append_new (e := 3) (size := 1) (bytes := 8) (base := wb2.heap.size) rfl rfl rfl rfl q1.2 ((hin.par.ext0 zxc).src rfl ic_len ic_one) (by omega) (by omega) q1.1) (fun _ _ h => h.1) [] (5) (by kernel_rfl) ?_
        rintro v w8 ⟨e8, ho, hr⟩
        exact hS2_3 ⟨b2, b6, b10, b14, v5, v, v13, v17⟩ w8 _ _ (by kernel_rfl) (sub_cons rfl (sub_cons rfl (sub_cons rfl (sub_cons rfl (sub_cons rfl (sub_cons rfl (sub_cons rfl (sub_cons rfl (sub_cons rfl sub_nil))))))))) ⟨e.trans e8, own_keep0 o0 e8, ho, ⟨q3.1, q3.2.ext e8 (by simp)⟩⟩
      · refine Go.Eng.Br.mk [(16, [], w1), (12, [], w1), (8, [], w1), (1, [], w1)] rfl rfl rfl [] (.keep (fun y hy => .inl hy) (.keep (fun y hy => .inl hy) (.keep (fun y hy => .inl hy) (.keep (fun y hy => .inl hy) (PendK.nil))))) (acts_buildSlice (ps := []) rfl rfl rfl rfl rfl rfl rfl rfl) (fun _ _ h => h.1) [] (5) (by kernel_rfl) ?_
        rintro _ w8 ⟨e8, b, rfl, hb, hB⟩
        exact hS1_1_2_3 ⟨b2, b6, b, b14, v5, v9, v13, v17⟩ w8 _ _ (by kernel_rfl) (sub_cons rfl (sub_cons rfl (sub_cons rfl (sub_cons rfl (sub_cons rfl (sub_cons rfl (sub_cons rfl (sub_cons rfl (sub_cons rfl (sub_cons rfl sub_nil)))))))))) ⟨e.trans e8, own_keep0 o0 e8, ⟨q1.1, q1.2.ext e8 (by simp)⟩, ⟨by dsimp only; omega, hB⟩, ⟨q3.1, q3.2.ext e8 (by simp)⟩, pair_hi (lt_built q1.2) hb⟩
    intro hS1_1_3
    refine Wx.join (ι := RC) (fun i w9 => Ext [] w1 w9 ∧ w9.ownsRow wb2.heap.size 59 1 i.v5 s.bls.length (rowsV blc s.bls) ∧ (wb2.heap.size ≤ i.b10 ∧ Blk w9 i.b10 3 []) ∧ (wb2.heap.size ≤ i.b14 ∧ Blk w9 i.b14 4 [])) (fun i => [(2, .pointer (some ⟨bb2, 0, none⟩)), (4, .slice s.p0 s.base.length s.c0), (7, .slice s.p1 s.bls.length s.c1), (11, .slice s.p2 s.par.length s.c2), (15, .slice s.p3 s.fks.length s.c3), (19, .slice s.p4 s.done.length s.c4), (8, i.v5), (13, .slice (some ⟨i.b10, 0, none⟩) 0 0), (17, .slice (some ⟨i.b14, 0, none⟩) 0 0)]) [14, 10, 5, 2, 16, 15, 12, 11, 8, 7, 4, 3, 1, 0] [] (6) [(16, [], w1), (12, [], w1), (8, [], w1), (1, [], w1)] (by kernel_rfl) ?_ ?_
    · rintro ⟨b2, b6, b10, b14, v5, v9, v13, v17⟩ w9 ⟨e, o0, q2, q3⟩
      dsimp only at o0 q2 q3 ⊢
      have hz9 := e.size
      refine Wx.fork1 (i := 6) (by kernel_rfl) ?_
      · refine Go.Eng.Br.mk [(16, [], w1), (12, [], w1), (8, [], w1), (1, [], w1)] rfl rfl rfl [] (.keep (fun y hy => .inl hy) (.keep (fun y hy => .inl hy) (.keep (fun y hy => .inl hy) (.keep (fun y hy => .inl hy) (PendK.nil))))) (acts_buildSlice (ps := []) rfl rfl rfl rfl rfl rfl rfl rfl) (fun _ _ h => h.1) [] (5) (by kernel_rfl) ?_
        rintro _ w8 ⟨e8, b, rfl, hb, hB⟩
        exact hS1_1_2_3 ⟨b2, b, b10, b14, v5, v9, v13, v17⟩ w8 _ _ (by kernel_rfl) (sub_cons rfl (sub_cons rfl (sub_cons rfl (sub_cons rfl (sub_cons rfl (sub_cons rfl (sub_cons rfl (sub_cons rfl (sub_cons rfl (sub_cons rfl sub_nil)))))))))) ⟨e.trans e8, own_keep0 o0 e8, ⟨by dsimp only; omega, hB⟩, ⟨q2.1, q2.2.ext e8 (by simp)⟩, ⟨q3.1, q3.2.ext e8 (by simp)⟩, pair_lo (lt_built q2.2) hb⟩
    intro hS1_2_3
    refine Wx.join (ι := RC) (fun i w9 => Ext [] w1 w9 ∧ (wb2.heap.size ≤ i.b2 ∧ Blk w9 i.b2 59 []) ∧ (wb2.heap.size ≤ i.b6 ∧ Blk w9 i.b6 3 []) ∧ (wb2.heap.size ≤ i.b10 ∧ Blk w9 i.b10 3 []) ∧ (wb2.heap.size ≤ i.b14 ∧ Blk w9 i.b14 4 []) ∧ ∀ g, ((.slice (some ⟨i.b6, 0, none⟩) 0 0 : Value).ownBlock) = some g → ((.slice (some ⟨i.b10, 0, none⟩) 0 0 : Value).ownBlock) ≠ some g) (fun i => [(2, .pointer (some ⟨bb2, 0, none⟩)), (4, .slice s.p0 s.base.length s.c0), (7, .slice s.p1 s.bls.length s.c1), (11, .slice s.p2 s.par.length s.c2), (15, .slice s.p3 s.fks.length s.c3), (19, .slice s.p4 s.done.length s.c4), (5, .slice (some ⟨i.b2, 0, none⟩) 0 0), (9, .slice (some ⟨i.b6, 0, none⟩) 0 0), (13, .slice (some ⟨i.b10, 0, none⟩) 0 0), (17, .slice (some ⟨i.b14, 0, none⟩) 0 0)]) [14, 10, 6, 2, 16, 15, 12, 11, 8, 7, 4, 3, 1, 0] [] (6) [(16, [], w1), (12, [], w1), (8, [], w1), (4, [], w1), (1, [], w1)] (by kernel_rfl) ?_ ?_
    · rintro ⟨b2, b6, b10, b14, v5, v9, v13, v17⟩ w9 ⟨e, q0, q1, q2, q3, hap⟩
      dsimp only at q0 q1 q2 q3 hap ⊢
      have hz9 := e.size
      refine Wx.fork1 (i := 5) (by kernel_rfl) ?_
      · refine Go.Eng.Br.mk [(16, [], w1), (12, [], w1), (8, [], w1), (1, [], w1)] rfl rfl rfl [] (.keep (fun y hy => .inl hy) (.keep (fun y hy => .inl hy) (.keep (fun y hy => .inl hy) (.drop (by kernel_rfl) (.keep (fun y hy => .inl hy) (PendK.nil)))))) (acts_append_new (e := 59) (size := 1) (bytes := 24) (base := wb2.heap.size) rfl rfl rfl rfl q0.2 ((hin.bls.ext0 zxc).src rfl blc_len blc_one) (by omega) (by omega) q0.1) (fun _ _ h => h.1) [] (5) (by kernel_rfl) ?_
        rintro v w8 ⟨e8, ho, hr⟩
        exact hS1_1_2_3 ⟨b2, b6, b10, b14, v, v9, v13, v17⟩ w8 _ _ (by kernel_rfl) (sub_cons rfl (sub_cons rfl (sub_cons rfl (sub_cons rfl (sub_cons rfl (sub_cons rfl (sub_cons rfl (sub_cons rfl (sub_cons rfl (sub_cons rfl sub_nil)))))))))) ⟨e.trans e8, ho, ⟨q1.1, q1.2.ext e8 (by simp)⟩, ⟨q2.1, q2.2.ext e8 (by simp)⟩, ⟨q3.1, q3.2.ext e8 (by simp)⟩, hap⟩
    intro hS0_0_1_2_3
    refine Wx.join (ι := RC) (fun i w9 => Ext [] w1 w9 ∧ w9.ownsRow wb2.heap.size 59 1 i.v5 s.bls.length (rowsV blc s.bls) ∧ (wb2.heap.size ≤ i.b6 ∧ Blk w9 i.b6 3 [])) (fun i => [(2, .pointer (some ⟨bb2, 0, none⟩)), (4, .slice s.p0 s.base.length s.c0), (7, .slice s.p1 s.bls.length s.c1), (11, .slice s.p2 s.par.length s.c2), (15, .slice s.p3 s.fks.length s.c3), (19, .slice s.p4 s.done.length s.c4), (8, i.v5), (9, .slice (some ⟨i.b6, 0, none⟩) 0 0)]) [6, 5, 2, 16, 15, 12, 11, 8, 7, 4, 3, 1, 0] [] (7) [(16, [], w1), (12, [], w1), (8, [], w1), (1, [], w1)] (by kernel_rfl) ?_ ?_
    · rintro ⟨b2, b6, b10, b14, v5, v9, v13, v17⟩ w9 ⟨e, o0, q1⟩
      dsimp only at o0 q1 ⊢
      have hz9 := e.size
      refine Wx.fork3 (i := 9) (j := 10) (k := 14) (by kernel_rfl) ?_ ?_ ?_
      · refine Go.Eng.Br.mk [(16, [], w1), (12, [], w1), (1, [], w1)] rfl rfl rfl [] (.keep (fun y hy => .inl hy) (.keep (fun y hy => .inl hy) (.drop (by kernel_rfl) (.keep (fun y hy => .inl hy) (PendK.nil))))) (acts_append_new (e := 3) (size := 1) (bytes := 8) (base := wb2.heap.size) rfl rfl rfl rfl q1.2 ((hin.par.ext0 zxc).src rfl ic_len ic_one) (by omega) (by omega) q1.1) (fun _ _ h => h.1) [] (6) (by kernel_rfl) ?_
        rintro v w8 ⟨e8, ho, hr⟩
        exact hS2 ⟨b2, b6, b10, b14, v5, v, v13, v17⟩ w8 _ _ (by kernel_rfl) (sub_cons rfl (sub_cons rfl (sub_cons rfl (sub_cons rfl (sub_cons rfl (sub_cons rfl (sub_cons rfl (sub_cons rfl sub_nil)))))))) ⟨e.trans e8, own_keep0 o0 e8, ho⟩
      · refine Go.Eng.Br.mk [(16, [], w1), (12, [], w1), (8, [], w1), (1, [], w1)] rfl rfl rfl [] (.keep (fun y hy => .inl hy) (.keep (fun y hy => .inl hy) (.keep (fun y hy => .inl hy) (.keep (fun y hy => .inl hy) (PendK.nil))))) (acts_buildSlice (ps := []) rfl rfl rfl rfl rfl rfl rfl rfl) (fun _ _ h => h.1) [] (6) (by kernel_rfl) ?_
        rintro _ w8 ⟨e8, b, rfl, hb, hB⟩
        exact hS1_1_2 ⟨b2, b6, b, b14, v5, v9, v13, v17⟩ w8 _ _ (by kernel_rfl) (sub_cons rfl (sub_cons rfl (sub_cons rfl (sub_cons rfl (sub_cons rfl (sub_cons rfl (sub_cons rfl (sub_cons rfl (sub_cons rfl sub_nil))))))))) ⟨e.trans e8, own_keep0 o0 e8, ⟨q1.1, q1.2.ext e8 (by simp)⟩, ⟨by dsimp only; omega, hB⟩, pair_hi (lt_built q1.2) hb⟩
      · refine Go.Eng.Br.mk [(16, [], w1), (12, [], w1), (8, [], w1), (1, [], w1)] rfl rfl rfl [] (.keep (fun y hy => .inl hy) (.keep (fun y hy => .inl hy) (.keep (fun y hy => .inl hy) (.keep (fun y hy => .inl hy) (PendK.nil))))) (acts_buildSlice (ps := []) rfl rfl rfl rfl rfl rfl rfl rfl) (fun _ _ h => h.1) [] (6) (by kernel_rfl) ?_
        rintro _ w8 ⟨e8, b, rfl, hb, hB⟩
        exact hS1_1_3 ⟨b2, b6, b10, b, v5, v9, v13, v17⟩ w8 _ _ (by kernel_rfl) (sub_cons rfl (sub_cons rfl (sub_cons rfl (sub_cons rfl (sub_cons rfl (sub_cons rfl (sub_cons rfl (sub_cons rfl (sub_cons rfl sub_nil))))))))) ⟨e.trans e8, own_keep0 o0 e8, ⟨q1.1, q1.2.ext e8 (by simp)⟩, ⟨by dsimp only; omega, hB⟩⟩
    intro hS1_1
    refine Wx.join (ι := RC) (fun i w9 => Ext [] w1 w9 ∧ w9.ownsRow wb2.heap.size 59 1 i.v5 s.bls.length (rowsV blc s.bls) ∧ (wb2.heap.size ≤ i.b10 ∧ Blk w9 i.b10 3 [])) (fun i => [(2, .pointer (some ⟨bb2, 0, none⟩)), (4, .slice s.p0 s.base.length s.c0), (7, .slice s.p1 s.bls.length s.c1), (11, .slice s.p2 s.par.length s.c2), (15, .slice s.p3 s.fks.length s.c3), (19, .slice s.p4 s.done.length s.c4), (8, i.v5), (13, .slice (some ⟨i.b10, 0, none⟩) 0 0)]) [10, 5, 2, 16, 15, 12, 11, 8, 7, 4, 3, 1, 0] [] (7) [(16, [], w1), (12, [], w1), (8, [], w1), (1, [], w1)] (by kernel_rfl) ?_ ?_
    · rintro ⟨b2, b6, b10, b14, v5, v9, v13, v17⟩ w9 ⟨e, o0, q2⟩
      dsimp only at o0 q2 ⊢
      have hz9 := e.size
      refine Wx.fork (i := 6) (j := 14) (by kernel_rfl) ?_ ?_
      · refine Go.Eng.Br.mk [(16, [], w1), (12, [], w1), (8, [], w1), (1, [], w1)] rfl rfl rfl [] (.keep (fun y hy => .inl hy) (.keep (fun y hy => .inl hy) (.keep (fun y hy => .inl hy) (.keep (fun y hy => .inl hy) (PendK.nil))))) (acts_buildSlice (ps := []) rfl rfl rfl rfl rfl rfl rfl rfl) (fun _ _ h => h.1) [] (6) (by kernel_rfl) ?_
        rintro _ w8 ⟨e8, b, rfl, hb, hB⟩
        exact hS1_1_2 ⟨b2, b, b10, b14, v5, v9, v13, v17⟩ w8 _ _ (by kernel_rfl) (sub_cons rfl (sub_cons rfl (sub_cons rfl (sub_cons rfl (sub_cons rfl (sub_cons rfl (sub_cons rfl (sub_cons rfl (sub_cons rfl sub_nil))))))))) ⟨e.trans e8, own_keep0 o0 e8, ⟨by dsimp only; omega, hB⟩, ⟨q2.1, q2.2.ext e8 (by simp)⟩, pair_lo (lt_built q2.2) hb⟩
      · refine Go.Eng.Br.mk [(16, [], w1), (12, [], w1), (8, [], w1), (1, [], w1)] rfl rfl rfl [] (.keep (fun y hy => .inl hy) (.keep (fun y hy => .inl hy) (.keep (fun y hy => .inl hy) (.keep (fun y hy => .inl hy) (PendK.nil))))) (acts_buildSlice (ps := []) rfl rfl rfl rfl rfl rfl rfl rfl) (fun _ _ h => h.1) [] (6) (by kernel_rfl) ?_
        rintro _ w8 ⟨e8, b, rfl, hb, hB⟩
        exact hS1_2_3 ⟨b2, b6, b10, b, v5, v9, v13, v17⟩ w8 _ _ (by kernel_rfl) (sub_cons rfl (sub_cons rfl (sub_cons rfl (sub_cons rfl (sub_cons rfl (sub_cons rfl (sub_cons rfl (sub_cons rfl (sub_cons rfl sub_nil))))))))) ⟨e.trans e8, own_keep0 o0 e8, ⟨q2.1, q2.2.ext e8 (by simp)⟩, ⟨by dsimp only; omega, hB⟩⟩
    intro hS1_2
    refine Wx.join (ι := RC) (fun i w9 => Ext [] w1 w9 ∧ w9.ownsRow wb2.heap.size 59 1 i.v5 s.bls.length (rowsV blc s.bls) ∧ (wb2.heap.size ≤ i.b14 ∧ Blk w9 i.b14 4 [])) (fun i => [(2, .pointer (some ⟨bb2, 0, none⟩)), (4, .slice s.p0 s.base.length s.c0), (7, .slice s.p1 s.bls.length s.c1), (11, .slice s.p2 s.par.length s.c2), (15, .slice s.p3 s.fks.length s.c3), (19, .slice s.p4 s.done.length s.c4), (8, i.v5), (17, .slice (some ⟨i.b14, 0, none⟩) 0 0)]) [14, 5, 2, 16, 15, 12, 11, 8, 7, 4, 3, 1, 0] [] (7) [(16, [], w1), (12, [], w1), (8, [], w1), (1, [], w1)] (by kernel_rfl) ?_ ?_
    · rintro ⟨b2, b6, b10, b14, v5, v9, v13, v17⟩ w9 ⟨e, o0, q3⟩
      dsimp only at o0 q3 ⊢
      have hz9 := e.size
      refine Wx.fork (i := 6) (j := 10) (by kernel_rfl) ?_ ?_
      · refine Go.Eng.Br.mk [(16, [], w1), (12, [], w1), (8, [], w1), (1, [], w1)] rfl rfl rfl [] (.keep (fun y hy => .inl hy) (.keep (fun y hy => .inl hy) (.keep (fun y hy => .inl hy) (.keep (fun y hy => .inl hy) (PendK.nil))))) (acts_buildSlice (ps := []) rfl rfl rfl rfl rfl rfl rfl rfl) (fun _ _ h => h.1) [] (6) (by kernel_rfl) ?_
        rintro _ w8 ⟨e8, b, rfl, hb, hB⟩
        exact hS1_1_3 ⟨b2, b, b10, b14, v5, v9, v13, v17⟩ w8 _ _ (by kernel_rfl) (sub_cons rfl (sub_cons rfl (sub_cons rfl (sub_cons rfl (sub_cons rfl (sub_cons rfl (sub_cons rfl (sub_cons rfl (sub_cons rfl sub_nil))))))))) ⟨e.trans e8, own_keep0 o0 e8, ⟨by dsimp only; omega, hB⟩, ⟨q3.1, q3.2.ext e8 (by simp)⟩⟩
      · refine Go.Eng.Br.mk [(16, [], w1), (12, [], w1), (8, [], w1), (1, [], w1)] rfl rfl rfl [] (.keep (fun y hy => .inl hy) (.keep (fun y hy => .inl hy) (.keep (fun y hy => .inl hy) (.keep (fun y hy => .inl hy) (PendK.nil))))) (acts_buildSlice (ps := []) rfl rfl rfl rfl rfl rfl rfl rfl) (fun _ _ h => h.1) [] (6) (by kernel_rfl) ?_
        rintro _ w8 ⟨e8, b, rfl, hb, hB⟩
        exact hS1_2_3 ⟨b2, b6, b, b14, v5, v9, v13, v17⟩ w8 _ _ (by kernel_rfl) (sub_cons rfl (sub_cons rfl (sub_cons rfl (sub_cons rfl (sub_cons rfl (sub_cons rfl (sub_cons rfl (sub_cons rfl (sub_cons rfl sub_nil))))))))) ⟨e.trans e8, own_keep0 o0 e8, ⟨by dsimp only; omega, hB⟩, ⟨q3.1, q3.2.ext e8 (by simp)⟩⟩
    intro hS1_3
    refine Wx.join (ι := RC) (fun i w9 => Ext [] w1 w9 ∧ (wb2.heap.size ≤ i.b2 ∧ Blk w9 i.b2 59 []) ∧ (wb2.heap.size ≤ i.b6 ∧ Blk w9 i.b6 3 []) ∧ (wb2.heap.size ≤ i.b10 ∧ Blk w9 i.b10 3 []) ∧ ∀ g, ((.slice (some ⟨i.b6, 0, none⟩) 0 0 : Value).ownBlock) = some g → ((.slice (some ⟨i.b10, 0, none⟩) 0 0 : Value).ownBlock) ≠ some g) (fun i => [(2, .pointer (some ⟨bb2, 0, none⟩)), (4, .slice s.p0 s.base.length s.c0), (7, .slice s.p1 s.bls.length s.c1), (11, .slice s.p2 s.par.length s.c2), (15, .slice s.p3 s.fks.length s.c3), (19, .slice s.p4 s.done.length s.c4), (5, .slice (some ⟨i.b2, 0, none⟩) 0 0), (9, .slice (some ⟨i.b6, 0, none⟩) 0 0), (13, .slice (some ⟨i.b10, 0, none⟩) 0 0)]) [10, 6, 2, 16, 15, 12, 11, 8, 7, 4, 3, 1, 0] [] (7) [(16, [], w1), (12, [], w1), (8, [], w1), (4, [], w1), (1, [], w1)] (by kernel_rfl) ?_ ?_
    · rintro ⟨b2, b6, b10, b14, v5, v9, v13, v17⟩ w9 ⟨e, q0, q1, q2, hap⟩
      dsimp only at q0 q1 q2 hap ⊢
      have hz9 := e.size
      refine Wx.fork (i := 5) (j := 14) (by kernel_rfl) ?_ ?_
      · refine Go.Eng.Br.mk [(16, [], w1), (12, [], w1), (8, [], w1), (1, [], w1)] rfl rfl rfl [] (.keep (fun y hy => .inl hy) (.keep (fun y hy => .inl hy) (.keep (fun y hy => .inl hy) (.drop (by kernel_rfl) (.keep (fun y hy => .inl hy) (PendK.nil)))))) (acts_append_new (e := 59) (size := 1) (bytes := 24) (base := wb2.heap.size) rfl rfl rfl rfl q0.2 ((hin.bls.ext0 zxc).src rfl blc_len blc_one) (by omega) (by omega) q0.1) (fun _ _ h => h.1) [] (6) (by kernel_rfl) ?_
        rintro v w8 ⟨e8, ho, hr⟩
        exact hS1_1_2 ⟨b2, b6, b10, b14, v, v9, v13, v17⟩ w8 _ _ (by kernel_rfl) (sub_cons rfl (sub_cons rfl (sub_cons rfl (sub_cons rfl (sub_cons rfl (sub_cons rfl (sub_cons rfl (sub_cons rfl (sub_cons rfl sub_nil))))))))) ⟨e.trans e8, ho, ⟨q1.1, q1.2.ext e8 (by simp)⟩, ⟨q2.1, q2.2.ext e8 (by simp)⟩, hap⟩
      · refine Go.Eng.Br.mk [(16, [], w1), (12, [], w1), (8, [], w1), (4, [], w1), (1, [], w1)] rfl rfl rfl [] (.keep (fun y hy => .inl hy) (.keep (fun y hy => .inl hy) (.keep (fun y hy => .inl hy) (.keep (fun y hy => .inl hy) (.keep (fun y hy => .inl hy) (PendK.nil)))))) (acts_buildSlice (ps := []) rfl rfl rfl rfl rfl rfl rfl rfl) (fun _ _ h => h.1) [] (6) (by kernel_rfl) ?_
        rintro _ w8 ⟨e8, b, rfl, hb, hB⟩
        exact hS0_0_1_2_3 ⟨b2, b6, b10, b, v5, v9, v13, v17⟩ w8 _ _ (by kernel_rfl) (sub_cons rfl (sub_cons rfl (sub_cons rfl (sub_cons rfl (sub_cons rfl (sub_cons rfl (sub_cons rfl (sub_cons rfl (sub_cons rfl (sub_cons rfl sub_nil)))))))))) ⟨e.trans e8, ⟨q0.1, q0.2.ext e8 (by simp)⟩, ⟨q1.1, q1.2.ext e8 (by simp)⟩, ⟨q2.1, q2.2.ext e8 (by simp)⟩, ⟨by dsimp only; omega, hB⟩, hap⟩
    intro hS0_0_1_2
    refine Wx.join (ι := RC) (fun i w9 => Ext [] w1 w9 ∧ (wb2.heap.size ≤ i.b2 ∧ Blk w9 i.b2 59 []) ∧ (wb2.heap.size ≤ i.b6 ∧ Blk w9 i.b6 3 []) ∧ (wb2.heap.size ≤ i.b14 ∧ Blk w9 i.b14 4 [])) (fun i => [(2, .pointer (some ⟨bb2, 0, none⟩)), (4, .slice s.p0 s.base.length s.c0), (7, .slice s.p1 s.bls.length s.c1), (11, .slice s.p2 s.par.length s.c2), (15, .slice s.p3 s.fks.length s.c3), (19, .slice s.p4 s.done.length s.c4), (5, .slice (some ⟨i.b2, 0, none⟩) 0 0), (9, .slice (some ⟨i.b6, 0, none⟩) 0 0), (17, .slice (some ⟨i.b14, 0, none⟩) 0 0)]) [14, 6, 2, 16, 15, 12, 11, 8, 7, 4, 3, 1, 0] [] (7) [(16, [], w1), (12, [], w1), (8, [], w1), (4, [], w1), (1, [], w1)] (by kernel_rfl) ?_ ?_
    · rintro ⟨b2, b6, b10, b14, v5, v9, v13, v17⟩ w9 ⟨e, q0, q1, q3⟩
      dsimp only at q0 q1 q3 ⊢
      have hz9 := e.size
      refine Wx.fork (i := 5) (j := 10) (by kernel_rfl) ?_ ?_
      · refine Go.Eng.Br.mk [(16, [], w1), (12, [], w1), (8, [], w1), (1, [], w1)] rfl rfl rfl [] (.keep (fun y hy => .inl hy) (.keep (fun y hy => .inl hy) (.keep (fun y hy => .inl hy) (.drop (by kernel_rfl) (.keep (fun y hy => .inl hy) (PendK.nil)))))) (acts_append_new (e := 59) (size := 1) (bytes := 24) (base := wb2.heap.size) rfl rfl rfl rfl q0.2 ((hin.bls.ext0 zxc).src rfl blc_len blc_one) (by omega) (by omega) q0.1) (fun _ _ h => h.1) [] (6) (by kernel_rfl) ?_
        rintro v w8 ⟨e8, ho, hr⟩
        exact hS1_1_3 ⟨b2, b6, b10, b14, v, v9, v13, v17⟩ w8 _ _ (by kernel_rfl) (sub_cons rfl (sub_cons rfl (sub_cons rfl (sub_cons rfl (sub_cons rfl (sub_cons rfl (sub_cons rfl (sub_cons rfl (sub_cons rfl sub_nil))))))))) ⟨e.trans e8, ho, ⟨q1.1, q1.2.ext e8 (by simp)⟩, ⟨q3.1, q3.2.ext e8 (by simp)⟩⟩
      · refine Go.Eng.Br.mk [(16, [], w1), (12, [], w1), (8, [], w1), (4, [], w1), (1, [], w1)] rfl rfl rfl [] (.keep (fun y hy => .inl hy) (.keep (fun y hy => .inl hy) (.keep (fun y hy => .inl hy) (.keep (fun y hy => .inl hy) (.keep (fun y hy => .inl hy) (PendK.nil)))))) (acts_buildSlice (ps := []) rfl rfl rfl rfl rfl rfl rfl rfl) (fun _ _ h => h.1) [] (6) (by kernel_rfl) ?_
        rintro _ w8 ⟨e8, b, rfl, hb, hB⟩
        exact hS0_0_1_2_3 ⟨b2, b6, b, b14, v5, v9, v13, v17⟩ w8 _ _ (by kernel_rfl) (sub_cons rfl (sub_cons rfl (sub_cons rfl (sub_cons rfl (sub_cons rfl (sub_cons rfl (sub_cons rfl (sub_cons rfl (sub_cons rfl (sub_cons rfl sub_nil)))))))))) ⟨e.trans e8, ⟨q0.1, q0.2.ext e8 (by simp)⟩, ⟨q1.1, q1.2.ext e8 (by simp)⟩, ⟨by dsimp only; omega, hB⟩, ⟨q3.1, q3.2.ext e8 (by simp)⟩, pair_hi (lt_built q1.2) hb⟩
    intro hS0_0_1_3
    refine Wx.join (ι := RC) (fun i w9 => Ext [] w1 w9 ∧ (wb2.heap.size ≤ i.b2 ∧ Blk w9 i.b2 59 []) ∧ (wb2.heap.size ≤ i.b10 ∧ Blk w9 i.b10 3 []) ∧ (wb2.heap.size ≤ i.b14 ∧ Blk w9 i.b14 4 [])) (fun i => [(2, .pointer (some ⟨bb2, 0, none⟩)), (4, .slice s.p0 s.base.length s.c0), (7, .slice s.p1 s.bls.length s.c1), (11, .slice s.p2 s.par.length s.c2), (15, .slice s.p3 s.fks.length s.c3), (19, .slice s.p4 s.done.length s.c4), (5, .slice (some ⟨i.b2, 0, none⟩) 0 0), (13, .slice (some ⟨i.b10, 0, none⟩) 0 0), (17, .slice (some ⟨i.b14, 0, none⟩) 0 0)]) [14, 10, 2, 16, 15, 12, 11, 8, 7, 4, 3, 1, 0] [] (7) [(16, [], w1), (12, [], w1), (8, [], w1), (4, [], w1), (1, [], w1)] (by kernel_rfl) ?_ ?_
    · rintro ⟨b2, b6, b10, b14, v5, v9, v13, v17⟩ w9 ⟨e, q0, q2, q3⟩
      dsimp only at q0 q2 q3 ⊢
      have hz9 := e.size
      refine Wx.fork (i := 5) (j := 6) (by kernel_rfl) ?_ ?_
      · refine Go.Eng.Br.mk [(16, [], w1), (12, [], w1), (8, [], w1), (1, [], w1)] rfl rfl rfl [] (.keep (fun y hy => .inl hy) (.keep (fun y hy => .inl hy) (.keep (fun y hy => .inl hy) (.drop (by kernel_rfl) (.keep (fun y hy => .inl hy) (PendK.nil)))))) (acts_append_new (e := 59) (size := 1) (bytes := 24) (base := wb2.heap.size) rfl rfl rfl rfl q0.2 ((hin.bls.ext0 zxc).src rfl blc_len blc_one) (by omega) (by omega) q0.1) (fun _ _ h => h.1) [] (6) (by kernel_rfl) ?_
        rintro v w8 ⟨e8, ho, hr⟩
        exact hS1_2_3 ⟨b2, b6, b10, b14, v, v9, v13, v17⟩ w8 _ _ (by kernel_rfl) (sub_cons rfl (sub_cons rfl (sub_cons rfl (sub_cons rfl (sub_cons rfl (sub_cons rfl (sub_cons rfl (sub_cons rfl (sub_cons rfl sub_nil))))))))) ⟨e.trans e8, ho, ⟨q2.1, q2.2.ext e8 (by simp)⟩, ⟨q3.1, q3.2.ext e8 (by simp)⟩⟩
      · refine Go.Eng.Br.mk [(16, [], w1), (12, [], w1), (8, [], w1), (4, [], w1), (1, [], w1)] rfl rfl rfl [] (.keep (fun y hy => .inl hy) (.keep (fun y hy => .inl hy) (.keep (fun y hy => .inl hy) (.keep (fun y hy => .inl hy) (.keep (fun y hy => .inl hy) (PendK.nil)))))) (acts_buildSlice (ps := []) rfl rfl rfl rfl rfl rfl rfl rfl) (fun _ _ h => h.1) [] (6) (by kernel_rfl) ?_
        rintro _ w8 ⟨e8, b, rfl, hb, hB⟩
        exact hS0_0_1_2_3 ⟨b2, b, b10, b14, v5, v9, v13, v17⟩ w8 _ _ (by kernel_rfl) (sub_cons rfl (sub_cons rfl (sub_cons rfl (sub_cons rfl (sub_cons rfl (sub_cons rfl (sub_cons rfl (sub_cons rfl (sub_cons rfl (sub_cons rfl sub_nil)))))))))) ⟨e.trans e8, ⟨q0.1, q0.2.ext e8 (by simp)⟩, ⟨by dsimp only; omega, hB⟩, ⟨q2.1, q2.2.ext e8 (by simp)⟩, ⟨q3.1, q3.2.ext e8 (by simp)⟩, pair_lo (lt_built q2.2) hb⟩
    intro hS0_0_2_3
    refine Wx.join (ι := RC) (fun i w9 => Ext [] w1 w9 ∧ (wb2.heap.size ≤ i.b6 ∧ Blk w9 i.b6 3 []) ∧ (wb2.heap.size ≤ i.b10 ∧ Blk w9 i.b10 3 []) ∧ (wb2.heap.size ≤ i.b14 ∧ Blk w9 i.b14 4 []) ∧ ∀ g, ((.slice (some ⟨i.b6, 0, none⟩) 0 0 : Value).ownBlock) = some g → ((.slice (some ⟨i.b10, 0, none⟩) 0 0 : Value).ownBlock) ≠ some g) (fun i => [(2, .pointer (some ⟨bb2, 0, none⟩)), (4, .slice s.p0 s.base.length s.c0), (7, .slice s.p1 s.bls.length s.c1), (11, .slice s.p2 s.par.length s.c2), (15, .slice s.p3 s.fks.length s.c3), (19, .slice s.p4 s.done.length s.c4), (9, .slice (some ⟨i.b6, 0, none⟩) 0 0), (13, .slice (some ⟨i.b10, 0, none⟩) 0 0), (17, .slice (some ⟨i.b14, 0, none⟩) 0 0)]) [14, 10, 6, 16, 15, 12, 11, 8, 7, 4, 3, 1, 0] [] (7) [(16, [], w1), (12, [], w1), (8, [], w1), (4, [], w1), (1, [], w1)] (by kernel_rfl) ?_ ?_
    · rintro ⟨b2, b6, b10, b14, v5, v9, v13, v17⟩ w9 ⟨e, q1, q2, q3, hap⟩
      dsimp only at q1 q2 q3 hap ⊢
      have hz9 := e.size
      refine Wx.fork1 (i := 2) (by kernel_rfl) ?_
      · refine Go.Eng.Br.mk [(16, [], w1), (12, [], w1), (8, [], w1), (4, [], w1), (1, [], w1)] rfl rfl rfl [] (.keep (fun y hy => .inl hy) (.keep (fun y hy => .inl hy) (.keep (fun y hy => .inl hy) (.keep (fun y hy => .inl hy) (.keep (fun y hy => .inl hy) (PendK.nil)))))) (acts_buildSlice (ps := []) rfl rfl rfl rfl rfl rfl rfl rfl) (fun _ _ h => h.1) [] (6) (by kernel_rfl) ?_
        rintro _ w8 ⟨e8, b, rfl, hb, hB⟩
        exact hS0_0_1_2_3 ⟨b, b6, b10, b14, v5, v9, v13, v17⟩ w8 _ _ (by kernel_rfl) (sub_cons rfl (sub_cons rfl (sub_cons rfl (sub_cons rfl (sub_cons rfl (sub_cons rfl (sub_cons rfl (sub_cons rfl (sub_cons rfl (sub_cons rfl sub_nil)))))))))) ⟨e.trans e8, ⟨by dsimp only; omega, hB⟩, ⟨q1.1, q1.2.ext e8 (by simp)⟩, ⟨q2.1, q2.2.ext e8 (by simp)⟩, ⟨q3.1, q3.2.ext e8 (by simp)⟩, hap⟩
    intro hS0_1_2_3
    refine Wx.join (ι := RC) (fun i w9 => Ext [] w1 w9 ∧ w9.ownsRow wb2.heap.size 59 1 i.v5 s.bls.length (rowsV blc s.bls)) (fun i => [(2, .pointer (some ⟨bb2, 0, none⟩)), (4, .slice s.p0 s.base.length s.c0), (7, .slice s.p1 s.bls.length s.c1), (11, .slice s.p2 s.par.length s.c2), (15, .slice s.p3 s.fks.length s.c3), (19, .slice s.p4 s.done.length s.c4), (8, i.v5)]) [5, 2, 16, 15, 12, 11, 8, 7, 4, 3, 1, 0] [] (8) [(16, [], w1), (12, [], w1), (8, [], w1), (1, [], w1)] (by kernel_rfl) ?_ ?_
    · rintro ⟨b2, b6, b10, b14, v5, v9, v13, v17⟩ w9 ⟨e, o0⟩
      dsimp only at o0 ⊢
      have hz9 := e.size
      refine Wx.fork3 (i := 6) (j := 10) (k := 14) (by kernel_rfl) ?_ ?_ ?_
      · refine Go.Eng.Br.mk [(16, [], w1), (12, [], w1), (8, [], w1), (1, [], w1)] rfl rfl rfl [] (.keep (fun y hy => .inl hy) (.keep (fun y hy => .inl hy) (.keep (fun y hy => .inl hy) (.keep (fun y hy => .inl hy) (PendK.nil))))) (acts_buildSlice (ps := []) rfl rfl rfl rfl rfl rfl rfl rfl) (fun _ _ h => h.1) [] (7) (by kernel_rfl) ?_
        rintro _ w8 ⟨e8, b, rfl, hb, hB⟩
        exact hS1_1 ⟨b2, b, b10, b14, v5, v9, v13, v17⟩ w8 _ _ (by kernel_rfl) (sub_cons rfl (sub_cons rfl (sub_cons rfl (sub_cons rfl (sub_cons rfl (sub_cons rfl (sub_cons rfl (sub_cons rfl sub_nil)))))))) ⟨e.trans e8, own_keep0 o0 e8, ⟨by dsimp only; omega, hB⟩⟩
      · refine Go.Eng.Br.mk [(16, [], w1), (12, [], w1), (8, [], w1), (1, [], w1)] rfl rfl rfl [] (.keep (fun y hy => .inl hy) (.keep (fun y hy => .inl hy) (.keep (fun y hy => .inl hy) (.keep (fun y hy => .inl hy) (PendK.nil))))) (acts_buildSlice (ps := []) rfl rfl rfl rfl rfl rfl rfl rfl) (fun _ _ h => h.1) [] (7) (by kernel_rfl) ?_
        rintro _ w8 ⟨e8, b, rfl, hb, hB⟩
        exact hS1_2 ⟨b2, b6, b, b14, v5, v9, v13, v17⟩ w8 _ _ (by kernel_rfl) (sub_cons rfl (sub_cons rfl (sub_cons rfl (sub_cons rfl (sub_cons rfl (sub_cons rfl (sub_cons rfl (sub_cons rfl sub_nil)))))))) ⟨e.trans e8, own_keep0 o0 e8, ⟨by dsimp only; omega, hB⟩⟩
      · refine Go.Eng.Br.mk [(16, [], w1), (12, [], w1), (8, [], w1), (1, [], w1)] rfl rfl rfl [] (.keep (fun y hy => .inl hy) (.keep (fun y hy => .inl hy) (.keep (fun y hy => .inl hy) (.keep (fun y hy => .inl hy) (PendK.nil))))) (acts_buildSlice (ps := []) rfl rfl rfl rfl rfl rfl rfl rfl) (fun _ _ h => h.1) [] (7) (by kernel_rfl) ?_
        rintro _ w8 ⟨e8, b, rfl, hb, hB⟩
        exact hS1_3 ⟨b2, b6, b10, b, v5, v9, v13, v17⟩ w8 _ _ (by kernel_rfl) (sub_cons rfl (sub_cons rfl (sub_cons rfl (sub_cons rfl (sub_cons rfl (sub_cons rfl (sub_cons rfl (sub_cons rfl sub_nil)))))))) ⟨e.trans e8, own_keep0 o0 e8, ⟨by dsimp only; omega, hB⟩⟩
    intro hS1
    refine Wx.join (ι := RC) (fun i w9 => Ext [] w1 w9 ∧ (wb2.heap.size ≤ i.b2 ∧ Blk w9 i.b2 59 []) ∧ (wb2.heap.size ≤ i.b6 ∧ Blk w9 i.b6 3 [])) (fun i => [(2, .pointer (some ⟨bb2, 0, none⟩)), (4, .slice s.p0 s.base.length s.c0), (7, .slice s.p1 s.bls.length s.c1), (11, .slice s.p2 s.par.length s.c2), (15, .slice s.p3 s.fks.length s.c3), (19, .slice s.p4 s.done.length s.c4), (5, .slice (some ⟨i.b2, 0, none⟩) 0 0), (9, .slice (some ⟨i.b6, 0, none⟩) 0 0)]) [6, 2, 16, 15, 12, 11, 8, 7, 4, 3, 1, 0] [] (8) [(16, [], w1), (12, [], w1), (8, [], w1), (4, [], w1), (1, [], w1)] (by kernel_rfl) ?_ ?_
    · rintro ⟨b2, b6, b10, b14, v5, v9, v13, v17⟩ w9 ⟨e, q0, q1⟩
      dsimp only at q0 q1 ⊢
      have hz9 := e.size
      refine Wx.fork3 (i := 5) (j := 10) (k := 14) (by kernel_rfl) ?_ ?_ ?_
      · refine Go.Eng.Br.mk [(16, [], w1), (12, [], w1), (8, [], w1), (1, [], w1)] rfl rfl rfl [] (.keep (fun y hy => .inl hy) (.keep (fun y hy => .inl hy) (.keep (fun y hy => .inl hy) (.drop (by kernel_rfl) (.keep (fun y hy => .inl hy) (PendK.nil)))))) (acts_append_new (e := 59) (size := 1) (bytes := 24) (base := wb2.heap.size) rfl rfl rfl rfl q0.2 ((hin.bls.ext0 zxc).src rfl blc_len blc_one) (by omega) (by omega) q0.1) (fun _ _ h => h.1) [] (7) (by kernel_rfl) ?_
        rintro v w8 ⟨e8, ho, hr⟩
        exact hS1_1 ⟨b2, b6, b10, b14, v, v9, v13, v17⟩ w8 _ _ (by kernel_rfl) (sub_cons rfl (sub_cons rfl (sub_cons rfl (sub_cons rfl (sub_cons rfl (sub_cons rfl (sub_cons rfl (sub_cons rfl sub_nil)))))))) ⟨e.trans e8, ho, ⟨q1.1, q1.2.ext e8 (by simp)⟩⟩
      · refine Go.Eng.Br.mk [(16, [], w1), (12, [], w1), (8, [], w1), (4, [], w1), (1, [], w1)] rfl rfl rfl [] (.keep (fun y hy => .inl hy) (.keep (fun y hy => .inl hy) (.keep (fun y hy => .inl hy) (.keep (fun y hy => .inl hy) (.keep (fun y hy => .inl hy) (PendK.nil)))))) (acts_buildSlice (ps := []) rfl rfl rfl rfl rfl rfl rfl rfl) (fun _ _ h => h.1) [] (7) (by kernel_rfl) ?_
        rintro _ w8 ⟨e8, b, rfl, hb, hB⟩
        exact hS0_0_1_2 ⟨b2, b6, b, b14, v5, v9, v13, v17⟩ w8 _ _ (by kernel_rfl) (sub_cons rfl (sub_cons rfl (sub_cons rfl (sub_cons rfl (sub_cons rfl (sub_cons rfl (sub_cons rfl (sub_cons rfl (sub_cons rfl sub_nil))))))))) ⟨e.trans e8, ⟨q0.1, q0.2.ext e8 (by simp)⟩, ⟨q1.1, q1.2.ext e8 (by simp)⟩, ⟨by dsimp only; omega, hB⟩, pair_hi (lt_built q1.2) hb⟩
      · refine Go.Eng.Br.mk [(16, [], w1), (12, [], w1), (8, [], w1), (4, [], w1), (1, [], w1)] rfl rfl rfl [] (.keep (fun y hy => .inl hy) (.keep (fun y hy => .inl hy) (.keep (fun y hy => .inl hy) (.keep (fun y hy => .inl hy) (.keep (fun y hy => .inl hy) (PendK.nil)))))) (acts_buildSlice (ps := []) rfl rfl rfl rfl rfl rfl rfl rfl) (fun _ _ h => h.1) [] (7) (by kernel_rfl) ?_
        rintro _ w8 ⟨e8, b, rfl, hb, hB⟩
        exact hS0_0_1_3 ⟨b2, b6, b10, b, v5, v9, v13, v17⟩ w8 _ _ (by kernel_rfl) (sub_cons rfl (sub_cons rfl (sub_cons rfl (sub_cons rfl (sub_cons rfl (sub_cons rfl (sub_cons rfl (sub_cons rfl (sub_cons rfl sub_nil))))))))) ⟨e.trans e8, ⟨q0.1, q0.2.ext e8 (by simp)⟩, ⟨q1.1, q1.2.ext e8 (by simp)⟩, ⟨by dsimp only; omega, hB⟩⟩
    intro hS0_0_1
    refine Wx.join (ι := RC) (fun i w9 => Ext [] w1 w9 ∧ (wb2.heap.size ≤ i.b2 ∧ Blk w9 i.b2 59 []) ∧ (wb2.heap.size ≤ i.b10 ∧ Blk w9 i.b10 3 [])) (fun i => [(2, .pointer (some ⟨bb2, 0, none⟩)), (4, .slice s.p0 s.base.length s.c0), (7, .slice s.p1 s.bls.length s.c1), (11, .slice s.p2 s.par.length s.c2), (15, .slice s.p3 s.fks.length s.c3), (19, .slice s.p4 s.done.length s.c4), (5, .slice (some ⟨i.b2, 0, none⟩) 0 0), (13, .slice (some ⟨i.b10, 0, none⟩) 0 0)]) [10, 2, 16, 15, 12, 11, 8, 7, 4, 3, 1, 0] [] (8) [(16, [], w1), (12, [], w1), (8, [], w1), (4, [], w1), (1, [], w1)] (by kernel_rfl) ?_ ?_
    · rintro ⟨b2, b6, b10, b14, v5, v9, v13, v17⟩ w9 ⟨e, q0, q2⟩
      dsimp only at q0 q2 ⊢
      have hz9 := e.size
      refine Wx.fork3 (i := 5) (j := 6) (k := 14) (by kernel_rfl) ?_ ?_ ?_
      · refine Go.Eng.Br.mk [(16, [], w1), (12, [], w1), (8, [], w1), (1, [], w1)] rfl rfl rfl [] (.keep (fun y hy => .inl hy) (.keep (fun y hy => .inl hy) (.keep (fun y hy => .inl hy) (.drop (by kernel_rfl) (.keep (fun y hy => .inl hy) (PendK.nil)))))) (acts_append_new (e := 59) (size := 1) (bytes := 24) (base := wb2.heap.size) rfl rfl rfl rfl q0.2 ((hin.bls.ext0 zxc).src rfl blc_len blc_one) (by omega) (by omega) q0.1) (fun _ _ h => h.1) [] (7) (by kernel_rfl) ?_
        rintro v w8 ⟨e8, ho, hr⟩
        exact hS1_2 ⟨b2, b6, b10, b14, v, v9, v13, v17⟩ w8 _ _ (by kernel_rfl) (sub_cons rfl (sub_cons rfl (sub_cons rfl (sub_cons rfl (sub_cons rfl (sub_cons rfl (sub_cons rfl (sub_cons rfl sub_nil)))))))) ⟨e.trans e8, ho, ⟨q2.1, q2.2.ext e8 (by simp)⟩⟩
      · refine Go.Eng.Br.mk [(16, [], w1), (12, [], w1), (8, [], w1), (4, [], w1), (1, [], w1)] rfl rfl rfl [] (.keep (fun y hy => .inl hy) (.keep (fun y hy => .inl hy) (.keep (fun y hy => .inl hy) (.keep (fun y hy => .inl hy) (.keep (fun y hy => .inl hy) (PendK.nil)))))) (acts_buildSlice (ps := []) rfl rfl rfl rfl rfl rfl rfl rfl) (fun _ _ h => h.1) [] (7) (by kernel_rfl) ?_
        rintro _ w8 ⟨e8, b, rfl, hb, hB⟩
        exact hS0_0_1_2 ⟨b2, b, b10, b14, v5, v9, v13, v17⟩ w8 _ _ (by kernel_rfl) (sub_cons rfl (sub_cons rfl (sub_cons rfl (sub_cons rfl (sub_cons rfl (sub_cons rfl (sub_cons rfl (sub_cons rfl (sub_cons rfl sub_nil))))))))) ⟨e.trans e8, ⟨q0.1, q0.2.ext e8 (by simp)⟩, ⟨by dsimp only; omega, hB⟩, ⟨q2.1, q2.2.ext e8 (by simp)⟩, pair_lo (lt_built q2.2) hb⟩
      · refine Go.Eng.Br.mk [(16, [], w1), (12, [], w1), (8, [], w1), (4, [], w1), (1, [], w1)] rfl rfl rfl [] (.keep (fun y hy => .inl hy) (.keep (fun y hy => .inl hy) (.keep (fun y hy => .inl hy) (.keep (fun y hy => .inl hy) (.keep (fun y hy => .inl hy) (PendK.nil)))))) (acts_buildSlice (ps := []) rfl rfl rfl rfl rfl rfl rfl rfl) (fun _ _ h => h.1) [] (7) (by kernel_rfl) ?_
        rintro _ w8 ⟨e8, b, rfl, hb, hB⟩
        exact hS0_0_2_3 ⟨b2, b6, b10, b, v5, v9, v13, v17⟩ w8 _ _ (by kernel_rfl) (sub_cons rfl (sub_cons rfl (sub_cons rfl (sub_cons rfl (sub_cons rfl (sub_cons rfl (sub_cons rfl (sub_cons rfl (sub_cons rfl sub_nil))))))))) ⟨e.trans e8, ⟨q0.1, q0.2.ext e8 (by simp)⟩, ⟨q2.1, q2.2.ext e8 (by simp)⟩, ⟨by dsimp only; omega, hB⟩⟩
    intro hS0_0_2
    refine Wx.join (ι := RC) (fun i w9 => Ext [] w1 w9 ∧ (wb2.heap.size ≤ i.b2 ∧ Blk w9 i.b2 59 []) ∧ (wb2.heap.size ≤ i.b14 ∧ Blk w9 i.b14 4 [])) (fun i => [(2, .pointer (some ⟨bb2, 0, none⟩)), (4, .slice s.p0 s.base.length s.c0), (7, .slice s.p1 s.bls.length s.c1), (11, .slice s.p2 s.par.length s.c2), (15, .slice s.p3 s.fks.length s.c3), (19, .slice s.p4 s.done.length s.c4), (5, .slice (some ⟨i.b2, 0, none⟩) 0 0), (17, .slice (some ⟨i.b14, 0, none⟩) 0 0)]) [14, 2, 16, 15, 12, 11, 8, 7, 4, 3, 1, 0] [] (8) [(16, [], w1), (12, [], w1), (8, [], w1), (4, [], w1), (1, [], w1)] (by kernel_rfl) ?_ ?_
    · rintro ⟨b2, b6, b10, b14, v5, v9, v13, v17⟩ w9 ⟨e, q0, q3⟩
      dsimp only at q0 q3 ⊢
      have hz9 := e.size
      refine Wx.fork3 (i := 5) (j := 6) (k := 10) (by kernel_rfl) ?_ ?_ ?_
      · refine Go.Eng.Br.mk [(16, [], w1), (12, [], w1), (8, [], w1), (1, [], w1)] rfl rfl rfl [] (.keep (fun y hy => .inl hy) (.keep (fun y hy => .inl hy) (.keep (fun y hy => .inl hy) (.drop (by kernel_rfl) (.keep (fun y hy => .inl hy) (PendK.nil)))))) (acts_append_new (e := 59) (size := 1) (bytes := 24) (base := wb2.heap.size) rfl rfl rfl rfl q0.2 ((hin.bls.ext0 zxc).src rfl blc_len blc_one) (by omega) (by omega) q0.1) (fun _ _ h => h.1) [] (7) (by kernel_rfl) ?_
        rintro v w8 ⟨e8, ho, hr⟩
        exact hS1_3 ⟨b2, b6, b10, b14, v, v9, v13, v17⟩ w8 _ _ (by kernel_rfl) (sub_cons rfl (sub_cons rfl (sub_cons rfl (sub_cons rfl (sub_cons rfl (sub_cons rfl (sub_cons rfl (sub_cons rfl sub_nil)))))))) ⟨e.trans e8, ho, ⟨q3.1, q3.2.ext e8 (by simp)⟩⟩
      · refine Go.Eng.Br.mk [(16, [], w1), (12, [], w1), (8, [], w1), (4, [], w1), (1, [], w1)] rfl rfl rfl [] (.keep (fun y hy => .inl hy) (.keep (fun y hy => .inl hy) (.keep (fun y hy => .inl hy) (.keep (fun y hy => .inl hy) (.keep (fun y hy => .inl hy) (PendK.nil)))))) (acts_buildSlice (ps := []) rfl rfl rfl rfl rfl rfl rfl rfl) (fun _ _ h => h.1) [] (7) (by kernel_rfl) ?_
        rintro _ w8 ⟨e8, b, rfl, hb, hB⟩
        exact hS0_0_1_3 ⟨b2, b, b10, b14, v5, v9, v13, v17⟩ w8 _ _ (by kernel_rfl) (sub_cons rfl (sub_cons rfl (sub_cons rfl (sub_cons rfl (sub_cons rfl (sub_cons rfl (sub_cons rfl (sub_cons rfl (sub_cons rfl sub_nil))))))))) ⟨e.trans e8, ⟨q0.1, q0.2.ext e8 (by simp)⟩, ⟨by dsimp only; omega, hB⟩, ⟨q3.1, q3.2.ext e8 (by simp)⟩⟩
      · refine Go.Eng.Br.mk [(16, [], w1), (12, [], w1), (8, [], w1), (4, [], w1), (1, [], w1)] rfl rfl rfl [] (.keep (fun y hy => .inl hy) (.keep (fun y hy => .inl hy) (.keep (fun y hy => .inl hy) (.keep (fun y hy => .inl hy) (.keep (fun y hy => .inl hy) (PendK.nil)))))) (acts_buildSlice (ps := []) rfl rfl rfl rfl rfl rfl rfl rfl) (fun _ _ h => h.1) [] (7) (by kernel_rfl) ?_
        rintro _ w8 ⟨e8, b, rfl, hb, hB⟩
        exact hS0_0_2_3 ⟨b2, b6, b, b14, v5, v9, v13, v17⟩ w8 _ _ (by kernel_rfl) (sub_cons rfl (sub_cons rfl (sub_cons rfl (sub_cons rfl (sub_cons rfl (sub_cons rfl (sub_cons rfl (sub_cons rfl (sub_cons rfl sub_nil))))))))) ⟨e.trans e8, ⟨q0.1, q0.2.ext e8 (by simp)⟩, ⟨by dsimp only; omega, hB⟩, ⟨q3.1, q3.2.ext e8 (by simp)⟩⟩
    intro hS0_0_3
    refine Wx.join (ι := RC) (fun i w9 => Ext [] w1 w9 ∧ (wb2.heap.size ≤ i.b6 ∧ Blk w9 i.b6 3 []) ∧ (wb2.heap.size ≤ i.b10 ∧ Blk w9 i.b10 3 []) ∧ ∀ g, ((.slice (some ⟨i.b6, 0, none⟩) 0 0 : Value).ownBlock) = some g → ((.slice (some ⟨i.b10, 0, none⟩) 0 0 : Value).ownBlock) ≠ some g) (fun i => [(2, .pointer (some ⟨bb2, 0, none⟩)), (4, .slice s.p0 s.base.length s.c0), (7, .slice s.p1 s.bls.length s.c1), (11, .slice s.p2 s.par.length s.c2), (15, .slice s.p3 s.fks.length s.c3), (19, .slice s.p4 s.done.length s.c4), (9, .slice (some ⟨i.b6, 0, none⟩) 0 0), (13, .slice (some ⟨i.b10, 0, none⟩) 0 0)]) [10, 6, 16, 15, 12, 11, 8, 7, 4, 3, 1, 0] [] (8) [(16, [], w1), (12, [], w1), (8, [], w1), (4, [], w1), (1, [], w1)] (by kernel_rfl) ?_ ?_
    · rintro ⟨b2, b6, b10, b14, v5, v9, v13, v17⟩ w9 ⟨e, q1, q2, hap⟩
      dsimp only at q1 q2 hap ⊢
      have hz9 := e.size
      refine Wx.fork (i := 2) (j := 14) (by kernel_rfl) ?_ ?_
      · refine Go.Eng.Br.mk [(16, [], w1), (12, [], w1), (8, [], w1), (4, [], w1), (1, [], w1)] rfl rfl rfl [] (.keep (fun y hy => .inl hy) (.keep (fun y hy => .inl hy) (.keep (fun y hy => .inl hy) (.keep (fun y hy => .inl hy) (.keep (fun y hy => .inl hy) (PendK.nil)))))) (acts_buildSlice (ps := []) rfl rfl rfl rfl rfl rfl rfl rfl) (fun _ _ h => h.1) [] (7) (by kernel_rfl) ?_
        rintro _ w8 ⟨e8, b, rfl, hb, hB⟩
        exact hS0_0_1_2 ⟨b, b6, b10, b14, v5, v9, v13, v17⟩ w8 _ _ (by kernel_rfl) (sub_cons rfl (sub_cons rfl (sub_cons rfl (sub_cons rfl (sub_cons rfl (sub_cons rfl (sub_cons rfl (sub_cons rfl (sub_cons rfl sub_nil))))))))) ⟨e.trans e8, ⟨by dsimp only; omega, hB⟩, ⟨q1.1, q1.2.ext e8 (by simp)⟩, ⟨q2.1, q2.2.ext e8 (by simp)⟩, hap⟩
      · refine Go.Eng.Br.mk [(16, [], w1), (12, [], w1), (8, [], w1), (4, [], w1), (1, [], w1)] rfl rfl rfl [] (.keep (fun y hy => .inl hy) (.keep (fun y hy => .inl hy) (.keep (fun y hy => .inl hy) (.keep (fun y hy => .inl hy) (.keep (fun y hy => .inl hy) (PendK.nil)))))) (acts_buildSlice (ps := []) rfl rfl rfl rfl rfl rfl rfl rfl) (fun _ _ h => h.1) [] (7) (by kernel_rfl) ?_
        rintro _ w8 ⟨e8, b, rfl, hb, hB⟩
        exact hS0_1_2_3 ⟨b2, b6, b10, b, v5, v9, v13, v17⟩ w8 _ _ (by kernel_rfl) (sub_cons rfl (sub_cons rfl (sub_cons rfl (sub_cons rfl (sub_cons rfl (sub_cons rfl (sub_cons rfl (sub_cons rfl (sub_cons rfl sub_nil))))))))) ⟨e.trans e8, ⟨q1.1, q1.2.ext e8 (by simp)⟩, ⟨q2.1, q2.2.ext e8 (by simp)⟩, ⟨by dsimp only; omega, hB⟩, hap⟩
    intro hS0_1_2
    refine Wx.join (ι := RC) (fun i w9 => Ext [] w1 w9 ∧ (wb2.heap.size ≤ i.b6 ∧ Blk w9 i.b6 3 []) ∧ (wb2.heap.size ≤ i.b14 ∧ Blk w9 i.b14 4 [])) (fun i => [(2, .pointer (some ⟨bb2, 0, none⟩)), (4, .slice s.p0 s.base.length s.c0), (7, .slice s.p1 s.bls.length s.c1), (11, .slice s.p2 s.par.length s.c2), (15, .slice s.p3 s.fks.length s.c3), (19, .slice s.p4 s.done.length s.c4), (9, .slice (some ⟨i.b6, 0, none⟩) 0 0), (17, .slice (some ⟨i.b14, 0, none⟩) 0 0)]) [14, 6, 16, 15, 12, 11, 8, 7, 4, 3, 1, 0] [] (8) [(16, [], w1), (12, [], w1), (8, [], w1), (4, [], w1), (1, [], w1)] (by kernel_rfl) ?_ ?_
    · rintro ⟨b2, b6, b10, b14, v5, v9, v13, v17⟩ w9 ⟨e, q1, q3⟩
      dsimp only at q1 q3 ⊢
      have hz9 := e.size
      refine Wx.fork (i := 2) (j := 10) (by kernel_rfl) ?_ ?_
      · refine Go.Eng.Br.mk [(16, [], w1), (12, [], w1), (8, [], w1), (4, [], w1), (1, [], w1)] rfl rfl rfl [] (.keep (fun y hy => .inl hy) (.keep (fun y hy => .inl hy) (.keep (fun y hy => .inl hy) (.keep (fun y hy => .inl hy) (.keep (fun y hy => .inl hy) (PendK.nil)))))) (acts_buildSlice (ps := []) rfl rfl rfl rfl rfl rfl rfl rfl) (fun _ _ h => h.1) [] (7) (by kernel_rfl) ?_
        rintro _ w8 ⟨e8, b, rfl, hb, hB⟩
        exact hS0_0_1_3 ⟨b, b6, b10, b14, v5, v9, v13, v17⟩ w8 _ _ (by kernel_rfl) (sub_cons rfl (sub_cons rfl (sub_cons rfl (sub_cons rfl (sub_cons rfl (sub_cons rfl (sub_cons rfl (sub_cons rfl (sub_cons rfl sub_nil))))))))) ⟨e.trans e8, ⟨by dsimp only; omega, hB⟩, ⟨q1.1, q1.2.ext e8 (by simp)⟩, ⟨q3.1, q3.2.ext e8 (by simp)⟩⟩
      · refine Go.Eng.Br.mk [(16, [], w1), (12, [], w1), (8, [], w1), (4, [], w1), (1, [], w1)] rfl rfl rfl [] (.keep (fun y hy => .inl hy) (.keep (fun y hy => .inl hy) (.keep (fun y hy => .inl hy) (.keep (fun y hy => .inl hy) (.keep (fun y hy => .inl hy) (PendK.nil)))))) (acts_buildSlice (ps := []) rfl rfl rfl rfl rfl rfl rfl rfl) (fun _ _ h => h.1) [] (7) (by kernel_rfl) ?_
        rintro _ w8 ⟨e8, b, rfl, hb, hB⟩
        exact hS0_1_2_3 ⟨b2, b6, b, b14, v5, v9, v13, v17⟩ w8 _ _ (by kernel_rfl) (sub_cons rfl (sub_cons rfl (sub_cons rfl (sub_cons rfl (sub_cons rfl (sub_cons rfl (sub_cons rfl (sub_cons rfl (sub_cons rfl sub_nil))))))))) ⟨e.trans e8, ⟨q1.1, q1.2.ext e8 (by simp)⟩, ⟨by dsimp only; omega, hB⟩, ⟨q3.1, q3.2.ext e8 (by simp)⟩, pair_hi (lt_built q1.2) hb⟩
    intro hS0_1_3
    refine Wx.join (ι := RC) (fun i w9 => Ext [] w1 w9 ∧ (wb2.heap.size ≤ i.b10 ∧ Blk w9 i.b10 3 []) ∧ (wb2.heap.size ≤ i.b14 ∧ Blk w9 i.b14 4 [])) (fun i => [(2, .pointer (some ⟨bb2, 0, none⟩)), (4, .slice s.p0 s.base.length s.c0), (7, .slice s.p1 s.bls.length s.c1), (11, .slice s.p2 s.par.length s.c2), (15, .slice s.p3 s.fks.length s.c3), (19, .slice s.p4 s.done.length s.c4), (13, .slice (some ⟨i.b10, 0, none⟩) 0 0), (17, .slice (some ⟨i.b14, 0, none⟩) 0 0)]) [14, 10, 16, 15, 12, 11, 8, 7, 4, 3, 1, 0] [] (8) [(16, [], w1), (12, [], w1), (8, [], w1), (4, [], w1), (1, [], w1)] (by kernel_rfl) ?_ ?_
    · rintro ⟨b2, b6, b10, b14, v5, v9, v13, v17⟩ w9 ⟨e, q2, q3⟩
      dsimp only at q2 q3 ⊢
      have hz9 := e.size
      refine Wx.fork (i := 2) (j := 6) (by kernel_rfl) ?_ ?_
      · refine Go.Eng.Br.mk [(16, [], w1), (12, [], w1), (8, [], w1), (4, [], w1), (1, [], w1)] rfl rfl rfl [] (.keep (fun y hy => .inl hy) (.keep (fun y hy => .inl hy) (.keep (fun y hy => .inl hy) (.keep (fun y hy => .inl hy) (.keep (fun y hy => .inl hy) (PendK.nil)))))) (acts_buildSlice (ps := []) rfl rfl rfl rfl rfl rfl rfl rfl) (fun _ _ h => h.1) [] (7) (by kernel_rfl) ?_
        rintro _ w8 ⟨e8, b, rfl, hb, hB⟩
        exact hS0_0_2_3 ⟨b, b6, b10, b14, v5, v9, v13, v17⟩ w8 _ _ (by kernel_rfl) (sub_cons rfl (sub_cons rfl (sub_cons rfl (sub_cons rfl (sub_cons rfl (sub_cons rfl (sub_cons rfl (sub_cons rfl (sub_cons rfl sub_nil))))))))) ⟨e.trans e8, ⟨by dsimp only; omega, hB⟩, ⟨q2.1, q2.2.ext e8 (by simp)⟩, ⟨q3.1, q3.2.ext e8 (by simp)⟩⟩
      · refine Go.Eng.Br.mk [(16, [], w1), (12, [], w1), (8, [], w1), (4, [], w1), (1, [], w1)] rfl rfl rfl [] (.keep (fun y hy => .inl hy) (.keep (fun y hy => .inl hy) (.keep (fun y hy => .inl hy) (.keep (fun y hy => .inl hy) (.keep (fun y hy => .inl hy) (PendK.nil)))))) (acts_buildSlice (ps := []) rfl rfl rfl rfl rfl rfl rfl rfl) (fun _ _ h => h.1) [] (7) (by kernel_rfl) ?_
        rintro _ w8 ⟨e8, b, rfl, hb, hB⟩
        exact hS0_1_2_3 ⟨b2, b, b10, b14, v5, v9, v13, v17⟩ w8 _ _ (by kernel_rfl) (sub_cons rfl (sub_cons rfl (sub_cons rfl (sub_cons rfl (sub_cons rfl (sub_cons rfl (sub_cons rfl (sub_cons rfl (sub_cons rfl sub_nil))))))))) ⟨e.trans e8, ⟨by dsimp only; omega, hB⟩, ⟨q2.1, q2.2.ext e8 (by simp)⟩, ⟨q3.1, q3.2.ext e8 (by simp)⟩, pair_lo (lt_built q2.2) hb⟩
    intro hS0_2_3
    refine Wx.join (ι := RC) (fun i w9 => Ext [] w1 w9 ∧ (wb2.heap.size ≤ i.b2 ∧ Blk w9 i.b2 59 [])) (fun i => [(2, .pointer (some ⟨bb2, 0, none⟩)), (4, .slice s.p0 s.base.length s.c0), (7, .slice s.p1 s.bls.length s.c1), (11, .slice s.p2 s.par.length s.c2), (15, .slice s.p3 s.fks.length s.c3), (19, .slice s.p4 s.done.length s.c4), (5, .slice (some ⟨i.b2, 0, none⟩) 0 0)]) [2, 16, 15, 12, 11, 8, 7, 4, 3, 1, 0] [] (9) [(16, [], w1), (12, [], w1), (8, [], w1), (4, [], w1), (1, [], w1)] (by kernel_rfl) ?_ ?_
    · rintro ⟨b2, b6, b10, b14, v5, v9, v13, v17⟩ w9 ⟨e, q0⟩
      dsimp only at q0 ⊢
      have hz9 := e.size
      refine Wx.fork4 (i := 5) (j := 6) (k := 10) (l := 14) (by kernel_rfl) ?_ ?_ ?_ ?_
      · refine Go.Eng.Br.mk [(16, [], w1), (12, [], w1), (8, [], w1), (1, [], w1)] rfl rfl rfl [] (.keep (fun y hy => .inl hy) (.keep (fun y hy => .inl hy) (.keep (fun y hy => .inl hy) (.drop (by kernel_rfl) (.keep (fun y hy => .inl hy) (PendK.nil)))))) (acts_append_new (e := 59) (size := 1) (bytes := 24) (base := wb2.heap.size) rfl rfl rfl rfl q0.2 ((hin.bls.ext0 zxc).src rfl blc_len blc_one) (by omega) (by omega) q0.1) (fun _ _ h => h.1) [] (8) (by kernel_rfl) ?_
        rintro v w8 ⟨e8, ho, hr⟩
        exact hS1 ⟨b2, b6, b10, b14, v, v9, v13, v17⟩ w8 _ _ (by kernel_rfl) (sub_cons rfl (sub_cons rfl (sub_cons rfl (sub_cons rfl (sub_cons rfl (sub_cons rfl (sub_cons rfl sub_nil))))))) ⟨e.trans e8, ho⟩
      · refine Go.Eng.Br.mk [(16, [], w1), (12, [], w1), (8, [], w1), (4, [], w1), (1, [], w1)] rfl rfl rfl [] (.keep (fun y hy => .inl hy) (.keep (fun y hy => .inl hy) (.keep (fun y hy => .inl hy) (.keep (fun y hy => .inl hy) (.keep (fun y hy => .inl hy) (PendK.nil)))))) (acts_buildSlice (ps := []) rfl rfl rfl rfl rfl rfl rfl rfl) (fun _ _ h => h.1) [] (8) (by kernel_rfl) ?_
        rintro _ w8 ⟨e8, b, rfl, hb, hB⟩
        exact hS0_0_1 ⟨b2, b, b10, b14, v5, v9, v13, v17⟩ w8 _ _ (by kernel_rfl) (sub_cons rfl (sub_cons rfl (sub_cons rfl (sub_cons rfl (sub_cons rfl (sub_cons rfl (sub_cons rfl (sub_cons rfl sub_nil)))))))) ⟨e.trans e8, ⟨q0.1, q0.2.ext e8 (by simp)⟩, ⟨by dsimp only; omega, hB⟩⟩
      · refine Go.Eng.Br.mk [(16, [], w1), (12, [], w1), (8, [], w1), (4, [], w1), (1, [], w1)] rfl rfl rfl [] (.keep (fun y hy => .inl hy) (.keep (fun y hy => .inl hy) (.keep (fun y hy => .inl hy) (.keep (fun y hy => .inl hy) (.keep (fun y hy => .inl hy) (PendK.nil)))))) (acts_buildSlice (ps := []) rfl rfl rfl rfl rfl rfl rfl rfl) (fun _ _ h => h.1) [] (8) (by kernel_rfl) ?_
        rintro _ w8 ⟨e8, b, rfl, hb, hB⟩
        exact hS0_0_2 ⟨b2, b6, b, b14, v5, v9, v13, v17⟩ w8 _ _ (by kernel_rfl) (sub_cons rfl (sub_cons rfl (sub_cons rfl (sub_cons rfl (sub_cons rfl (sub_cons rfl (sub_cons rfl (sub_cons rfl sub_nil)))))))) ⟨e.trans e8, ⟨q0.1, q0.2.ext e8 (by simp)⟩, ⟨by dsimp only; omega, hB⟩⟩
      · refine Go.Eng.Br.mk [(16, [], w1), (12, [], w1), (8, [], w1), (4, [], w1), (1, [], w1)] rfl rfl rfl [] (.keep (fun y hy => .inl hy) (.keep (fun y hy => .inl hy) (.keep (fun y hy => .inl hy) (.keep (fun y hy => .inl hy) (.keep (fun y hy => .inl hy) (PendK.nil)))))) (acts_buildSlice (ps := []) rfl rfl rfl rfl rfl rfl rfl rfl) (fun _ _ h => h.1) [] (8) (by kernel_rfl) ?_
        rintro _ w8 ⟨e8, b, rfl, hb, hB⟩
        exact hS0_0_3 ⟨b2, b6, b10, b, v5, v9, v13, v17⟩ w8 _ _ (by kernel_rfl) (sub_cons rfl (sub_cons rfl (sub_cons rfl (sub_cons rfl (sub_cons rfl (sub_cons rfl (sub_cons rfl (sub_cons rfl sub_nil)))))))) ⟨e.trans e8, ⟨q0.1, q0.2.ext e8 (by simp)⟩, ⟨by dsimp only; omega, hB⟩⟩
    intro hS0_0
    refine Wx.join (ι := RC) (fun i w9 => Ext [] w1 w9 ∧ (wb2.heap.size ≤ i.b6 ∧ Blk w9 i.b6 3 [])) (fun i => [(2, .pointer (some ⟨bb2, 0, none⟩)), (4, .slice s.p0 s.base.length s.c0), (7, .slice s.p1 s.bls.length s.c1), (11, .slice s.p2 s.par.length s.c2), (15, .slice s.p3 s.fks.length s.c3), (19, .slice s.p4 s.done.length s.c4), (9, .slice (some ⟨i.b6, 0, none⟩) 0 0)]) [6, 16, 15, 12, 11, 8, 7, 4, 3, 1, 0] [] (9) [(16, [], w1), (12, [], w1), (8, [], w1), (4, [], w1), (1, [], w1)] (by kernel_rfl) ?_ ?_
    · rintro ⟨b2, b6, b10, b14, v5, v9, v13, v17⟩ w9 ⟨e, q1⟩
      dsimp only at q1 ⊢
      have hz9 := e.size
      refine Wx.fork3 (i := 2) (j := 10) (k := 14) (by kernel_rfl) ?_ ?_ ?_
      · refine Go.Eng.Br.mk [(16, [], w1), (12, [], w1), (8, [], w1), (4, [], w1), (1, [], w1)] rfl rfl rfl [] (.keep (fun y hy => .inl hy) (.keep (fun y hy => .inl hy) (.keep (fun y hy => .inl hy) (.keep (fun y hy => .inl hy) (.keep (fun y hy => .inl hy) (PendK.nil)))))) (acts_buildSlice (ps := []) rfl rfl rfl rfl rfl rfl rfl rfl) (fun _ _ h => h.1) [] (8) (by kernel_rfl) ?_
        rintro _ w8 ⟨e8, b, rfl, hb, hB⟩
        exact hS0_0_1 ⟨b, b6, b10, b14, v5, v9, v13, v17⟩ w8 _ _ (by kernel_rfl) (sub_cons rfl (sub_cons rfl (sub_cons rfl (sub_cons rfl (sub_cons rfl (sub_cons rfl (sub_cons rfl (sub_cons rfl sub_nil)))))))) ⟨e.trans e8, ⟨by dsimp only; omega, hB⟩, ⟨q1.1, q1.2.ext e8 (by simp)⟩⟩
      · refine Go.Eng.Br.mk [(16, [], w1), (12, [], w1), (8, [], w1), (4, [], w1), (1, [], w1)] rfl rfl rfl [] (.keep (fun y hy => .inl hy) (.keep (fun y hy => .inl hy) (.keep (fun y hy => .inl hy) (.keep (fun y hy => .inl hy) (.keep (fun y hy => .inl hy) (PendK.nil)))))) (acts_buildSlice (ps := []) rfl rfl rfl rfl rfl rfl rfl rfl) (fun _ _ h => h.1) [] (8) (by kernel_rfl) ?_
        rintro _ w8 ⟨e8, b, rfl, hb, hB⟩
        exact hS0_1_2 ⟨b2, b6, b, b14, v5, v9, v13, v17⟩ w8 _ _ (by kernel_rfl) (sub_cons rfl (sub_cons rfl (sub_cons rfl (sub_cons rfl (sub_cons rfl (sub_cons rfl (sub_cons rfl (sub_cons rfl sub_nil)))))))) ⟨e.trans e8, ⟨q1.1, q1.2.ext e8 (by simp)⟩, ⟨by dsimp only; omega, hB⟩, pair_hi (lt_built q1.2) hb⟩
      · refine Go.Eng.Br.mk [(16, [], w1), (12, [], w1), (8, [], w1), (4, [], w1), (1, [], w1)] rfl rfl rfl [] (.keep (fun y hy => .inl hy) (.keep (fun y hy => .inl hy) (.keep (fun y hy => .inl hy) (.keep (fun y hy => .inl hy) (.keep (fun y hy => .inl hy) (PendK.nil)))))) (acts_buildSlice (ps := []) rfl rfl rfl rfl rfl rfl rfl rfl) (fun _ _ h => h.1) [] (8) (by kernel_rfl) ?_
        rintro _ w8 ⟨e8, b, rfl, hb, hB⟩
        exact hS0_1_3 ⟨b2, b6, b10, b, v5, v9, v13, v17⟩ w8 _ _ (by kernel_rfl) (sub_cons rfl (sub_cons rfl (sub_cons rfl (sub_cons rfl (sub_cons rfl (sub_cons rfl (sub_cons rfl (sub_cons rfl sub_nil)))))))) ⟨e.trans e8, ⟨q1.1, q1.2.ext e8 (by simp)⟩, ⟨by dsimp only; omega, hB⟩⟩
    intro hS0_1
    refine Wx.join (ι := RC) (fun i w9 => Ext [] w1 w9 ∧ (wb2.heap.size ≤ i.b10 ∧ Blk w9 i.b10 3 [])) (fun i => [(2, .pointer (some ⟨bb2, 0, none⟩)), (4, .slice s.p0 s.base.length s.c0), (7, .slice s.p1 s.bls.length s.c1), (11, .slice s.p2 s.par.length s.c2), (15, .slice s.p3 s.fks.length s.c3), (19, .slice s.p4 s.done.length s.c4), (13, .slice (some ⟨i.b10, 0, none⟩) 0 0)]) [10, 16, 15, 12, 11, 8, 7, 4, 3, 1, 0] [] (9) [(16, [], w1), (12, [], w1), (8, [], w1), (4, [], w1), (1, [], w1)] (by kernel_rfl) ?_ ?_
    · rintro ⟨b2, b6, b10, b14, v5, v9, v13, v17⟩ w9 ⟨e, q2⟩
      dsimp only at q2 ⊢
      have hz9 := e.size
      refine Wx.fork3 (i := 2) (j := 6) (k := 14) (by kernel_rfl) ?_ ?_ ?_
      · refine Go.Eng.Br.mk [(16, [], w1), (12, [], w1), (8, [], w1), (4, [], w1), (1, [], w1)] rfl rfl rfl [] (.keep (fun y hy => .inl hy) (.keep (fun y hy => .inl hy) (.keep (fun y hy => .inl hy) (.keep (fun y hy => .inl hy) (.keep (fun y hy => .inl hy) (PendK.nil)))))) (acts_buildSlice (ps := []) rfl rfl rfl rfl rfl rfl rfl rfl) (fun _ _ h => h.1) [] (8) (by kernel_rfl) ?_
        rintro _ w8 ⟨e8, b, rfl, hb, hB⟩
        exact hS0_0_2 ⟨b, b6, b10, b14, v5, v9, v13, v17⟩ w8 _ _ (by kernel_rfl) (sub_cons rfl (sub_cons rfl (sub_cons rfl (sub_cons rfl (sub_cons rfl (sub_cons rfl (sub_cons rfl (sub_cons rfl sub_nil)))))))) ⟨e.trans e8, ⟨by dsimp only; omega, hB⟩, ⟨q2.1, q2.2.ext e8 (by simp)⟩⟩
      · refine Go.Eng.Br.mk [(16, [], w1), (12, [], w1), (8, [], w1), (4, [], w1), (1, [], w1)] rfl rfl rfl [] (.keep (fun y hy => .inl hy) (.keep (fun y hy => .inl hy) (.keep (fun y hy => .inl hy) (.keep (fun y hy => .inl hy) (.keep (fun y hy => .inl hy) (PendK.nil)))))) (acts_buildSlice (ps := []) rfl rfl rfl rfl rfl rfl rfl rfl) (fun _ _ h => h.1) [] (8) (by kernel_rfl) ?_
        rintro _ w8 ⟨e8, b, rfl, hb, hB⟩
        exact hS0_1_2 ⟨b2, b, b10, b14, v5, v9, v13, v17⟩ w8 _ _ (by kernel_rfl) (sub_cons rfl (sub_cons rfl (sub_cons rfl (sub_cons rfl (sub_cons rfl (sub_cons rfl (sub_cons rfl (sub_cons rfl sub_nil)))))))) ⟨e.trans e8, ⟨by dsimp only; omega, hB⟩, ⟨q2.1, q2.2.ext e8 (by simp)⟩, pair_lo (lt_built q2.2) hb⟩
      · refine Go.Eng.Br.mk [(16, [], w1), (12, [], w1), (8, [], w1), (4, [], w1), (1, [], w1)] rfl rfl rfl [] (.keep (fun y hy => .inl hy) (.keep (fun y hy => .inl hy) (.keep (fun y hy => .inl hy) (.keep (fun y hy => .inl hy) (.keep (fun y hy => .inl hy) (PendK.nil)))))) (acts_buildSlice (ps := []) rfl rfl rfl rfl rfl rfl rfl rfl) (fun _ _ h => h.1) [] (8) (by kernel_rfl) ?_
        rintro _ w8 ⟨e8, b, rfl, hb, hB⟩
        exact hS0_2_3 ⟨b2, b6, b10, b, v5, v9, v13, v17⟩ w8 _ _ (by kernel_rfl) (sub_cons rfl (sub_cons rfl (sub_cons rfl (sub_cons rfl (sub_cons rfl (sub_cons rfl (sub_cons rfl (sub_cons rfl sub_nil)))))))) ⟨e.trans e8, ⟨q2.1, q2.2.ext e8 (by simp)⟩, ⟨by dsimp only; omega, hB⟩⟩
    intro hS0_2
    refine Wx.join (ι := RC) (fun i w9 => Ext [] w1 w9 ∧ (wb2.heap.size ≤ i.b14 ∧ Blk w9 i.b14 4 [])) (fun i => [(2, .pointer (some ⟨bb2, 0, none⟩)), (4, .slice s.p0 s.base.length s.c0), (7, .slice s.p1 s.bls.length s.c1), (11, .slice s.p2 s.par.length s.c2), (15, .slice s.p3 s.fks.length s.c3), (19, .slice s.p4 s.done.length s.c4), (17, .slice (some ⟨i.b14, 0, none⟩) 0 0)]) [14, 16, 15, 12, 11, 8, 7, 4, 3, 1, 0] [] (9) [(16, [], w1), (12, [], w1), (8, [], w1), (4, [], w1), (1, [], w1)] (by kernel_rfl) ?_ ?_
    · rintro ⟨b2, b6, b10, b14, v5, v9, v13, v17⟩ w9 ⟨e, q3⟩
      dsimp only at q3 ⊢
      have hz9 := e.size
      refine Wx.fork3 (i := 2) (j := 6) (k := 10) (by kernel_rfl) ?_ ?_ ?_
      · refine Go.Eng.Br.mk [(16, [], w1), (12, [], w1), (8, [], w1), (4, [], w1), (1, [], w1)] rfl rfl rfl [] (.keep (fun y hy => .inl hy) (.keep (fun y hy => .inl hy) (.keep (fun y hy => .inl hy) (.keep (fun y hy => .inl hy) (.keep (fun y hy => .inl hy) (PendK.nil)))))) (acts_buildSlice (ps := []) rfl rfl rfl rfl rfl rfl rfl rfl) (fun _ _ h => h.1) [] (8) (by kernel_rfl) ?_
        rintro _ w8 ⟨e8, b, rfl, hb, hB⟩
        exact hS0_0_3 ⟨b, b6, b10, b14, v5, v9, v13, v17⟩ w8 _ _ (by kernel_rfl) (sub_cons rfl (sub_cons rfl (sub_cons rfl (sub_cons rfl (sub_cons rfl (sub_cons rfl (sub_cons rfl (sub_cons rfl sub_nil)))))))) ⟨e.trans e8, ⟨by dsimp only; omega, hB⟩, ⟨q3.1, q3.2.ext e8 (by simp)⟩⟩
      · refine Go.Eng.Br.mk [(16, [], w1), (12, [], w1), (8, [], w1), (4, [], w1), (1, [], w1)] rfl rfl rfl [] (.keep (fun y hy => .inl hy) (.keep (fun y hy => .inl hy) (.keep (fun y hy => .inl hy) (.keep (fun y hy => .inl hy) (.keep (fun y hy => .inl hy) (PendK.nil)))))) (acts_buildSlice (ps := []) rfl rfl rfl rfl rfl rfl rfl rfl) (fun _ _ h => h.1) [] (8) (by kernel_rfl) ?_
        rintro _ w8 ⟨e8, b, rfl, hb, hB⟩
        exact hS0_1_3 ⟨b2, b, b10, b14, v5, v9, v13, v17⟩ w8 _ _ (by kernel_rfl) (sub_cons rfl (sub_cons rfl (sub_cons rfl (sub_cons rfl (sub_cons rfl (sub_cons rfl (sub_cons rfl (sub_cons rfl sub_nil)))))))) ⟨e.trans e8, ⟨by dsimp only; omega, hB⟩, ⟨q3.1, q3.2.ext e8 (by simp)⟩⟩
      · refine Go.Eng.Br.mk [(16, [], w1), (12, [], w1), (8, [], w1), (4, [], w1), (1, [], w1)] rfl rfl rfl [] (.keep (fun y hy => .inl hy) (.keep (fun y hy => .inl hy) (.keep (fun y hy => .inl hy) (.keep (fun y hy => .inl hy) (.keep (fun y hy => .inl hy) (PendK.nil)))))) (acts_buildSlice (ps := []) rfl rfl rfl rfl rfl rfl rfl rfl) (fun _ _ h => h.1) [] (8) (by kernel_rfl) ?_
        rintro _ w8 ⟨e8, b, rfl, hb, hB⟩
        exact hS0_2_3 ⟨b2, b6, b, b14, v5, v9, v13, v17⟩ w8 _ _ (by kernel_rfl) (sub_cons rfl (sub_cons rfl (sub_cons rfl (sub_cons rfl (sub_cons rfl (sub_cons rfl (sub_cons rfl (sub_cons rfl sub_nil)))))))) ⟨e.trans e8, ⟨by dsimp only; omega, hB⟩, ⟨q3.1, q3.2.ext e8 (by simp)⟩⟩
    intro hS0_3
    refine Wx.fork4 (i := 2) (j := 6) (k := 10) (l := 14) (by kernel_rfl) ?_ ?_ ?_ ?_
    · refine Go.Eng.Br.mk [(16, [], w1), (12, [], w1), (8, [], w1), (4, [], w1), (1, [], w1)] rfl rfl rfl [] (.keep (fun y hy => .inl hy) (.keep (fun y hy => .inl hy) (.keep (fun y hy => .inl hy) (.keep (fun y hy => .inl hy) (.keep (fun y hy => .inl hy) (PendK.nil)))))) (acts_buildSlice (ps := []) rfl rfl rfl rfl rfl rfl rfl rfl) (fun _ _ h => h.1) [] (9) (by kernel_rfl) ?_
      rintro _ w8 ⟨e8, b, rfl, hb, hB⟩
      exact hS0_0 ⟨b, 0, 0, 0, nilS, nilS, nilS, nilS⟩ w8 _ _ (by kernel_rfl) (sub_cons rfl (sub_cons rfl (sub_cons rfl (sub_cons rfl (sub_cons rfl (sub_cons rfl (sub_cons rfl sub_nil))))))) ⟨(Ext.refl _ _).trans e8, ⟨by dsimp only; omega, hB⟩⟩
    · refine Go.Eng.Br.mk [(16, [], w1), (12, [], w1), (8, [], w1), (4, [], w1), (1, [], w1)] rfl rfl rfl [] (.keep (fun y hy => .inl hy) (.keep (fun y hy => .inl hy) (.keep (fun y hy => .inl hy) (.keep (fun y hy => .inl hy) (.keep (fun y hy => .inl hy) (PendK.nil)))))) (acts_buildSlice (ps := []) rfl rfl rfl rfl rfl rfl rfl rfl) (fun _ _ h => h.1) [] (9) (by kernel_rfl) ?_
      rintro _ w8 ⟨e8, b, rfl, hb, hB⟩
      exact hS0_1 ⟨0, b, 0, 0, nilS, nilS, nilS, nilS⟩ w8 _ _ (by kernel_rfl) (sub_cons rfl (sub_cons rfl (sub_cons rfl (sub_cons rfl (sub_cons rfl (sub_cons rfl (sub_cons rfl sub_nil))))))) ⟨(Ext.refl _ _).trans e8, ⟨by dsimp only; omega, hB⟩⟩
    · refine Go.Eng.Br.mk [(16, [], w1), (12, [], w1), (8, [], w1), (4, [], w1), (1, [], w1)] rfl rfl rfl [] (.keep (fun y hy => .inl hy) (.keep (fun y hy => .inl hy) (.keep (fun y hy => .inl hy) (.keep (fun y hy => .inl hy) (.keep (fun y hy => .inl hy) (PendK.nil)))))) (acts_buildSlice (ps := []) rfl rfl rfl rfl rfl rfl rfl rfl) (fun _ _ h => h.1) [] (9) (by kernel_rfl) ?_
      rintro _ w8 ⟨e8, b, rfl, hb, hB⟩
      exact hS0_2 ⟨0, 0, b, 0, nilS, nilS, nilS, nilS⟩ w8 _ _ (by kernel_rfl) (sub_cons rfl (sub_cons rfl (sub_cons rfl (sub_cons rfl (sub_cons rfl (sub_cons rfl (sub_cons rfl sub_nil))))))) ⟨(Ext.refl _ _).trans e8, ⟨by dsimp only; omega, hB⟩⟩
    · refine Go.Eng.Br.mk [(16, [], w1), (12, [], w1), (8, [], w1), (4, [], w1), (1, [], w1)] rfl rfl rfl [] (.keep (fun y hy => .inl hy) (.keep (fun y hy => .inl hy) (.keep (fun y hy => .inl hy) (.keep (fun y hy => .inl hy) (.keep (fun y hy => .inl hy) (PendK.nil)))))) (acts_buildSlice (ps := []) rfl rfl rfl rfl rfl rfl rfl rfl) (fun _ _ h => h.1) [] (9) (by kernel_rfl) ?_
      rintro _ w8 ⟨e8, b, rfl, hb, hB⟩
      exact hS0_3 ⟨0, 0, 0, b, nilS, nilS, nilS, nilS⟩ w8 _ _ (by kernel_rfl) (sub_cons rfl (sub_cons rfl (sub_cons rfl (sub_cons rfl (sub_cons rfl (sub_cons rfl (sub_cons rfl sub_nil))))))) ⟨(Ext.refl _ _).trans e8, ⟨by dsimp only; omega, hB⟩⟩
  rintro E' wm ⟨hsub, em, s', hB', hbr, hbls, htr, hO⟩
  refine thenE_normal (Sx.weaken ?_ hsub)
  refine zrt ?_
  exact endE_ret [.agg (bvc s').toArray] ⟨⟨⟨bb2, 0, none⟩, rfl, hB'.cells.ldA rfl rfl⟩, trivial⟩ ⟨em, s', rfl, hbr, hbls, htr, hO⟩

end Go.Proofs.Ytfgckcochilpkaa
