import Derived.Test.Qxb6500567aGreatLa
/- The engine: Has, Match, New. -/
namespace Go.Proofs.Qxb6500567aGreat
set_option linter.unusedVariables false
set_option linter.unusedSimpArgs false

theorem PKV.no {w : World} {P : PK} (V : PKV w P) : ∀ b l, Blk w.heap b l 175 → ¬ pset P b := by
  obtain ⟨f, h, h2, sf, reg, best, z, hB, hC, hO, hK, hR, hE, hN, hA, hr8, hb8⟩ := V
  intro b l hb h
  rcases h with rfl | rfl | rfl | rfl | rfl | rfl
  · exact absurd (hb.uniq hB).2 (by decide)
  · exact absurd (hb.uniq hC).2 (by decide)
  · exact absurd (hb.uniq hO).2 (by decide)
  · exact absurd (hb.uniq hK).2 (by decide)
  · exact absurd (hb.uniq hR).2 (by decide)
  · exact absurd (hb.uniq hE).2 (by decide)
theorem PKV.fram {w w' : World} {P : PK} {F : Nat → Prop} {d : Nat} (V : PKV w P) (f : Fram F { w with drawn := d } w') (hn : ∀ b, pset P b ∨ b = P.nn → ¬ F b) : PKV w' P := by
  obtain ⟨f, h, h2, sf, reg, best, z, hB, hC, hO, hK, hR, hE, hN, hA, hr8, hb8⟩ := V
  rename_i ff
  exact ⟨f, h, h2, sf, reg, best, z, Blk.fram (w := { w with drawn := d }) hB ff (hn _ (.inl (.inl rfl))), Blk.fram (w := { w with drawn := d }) hC ff (hn _ (.inl (.inr (.inl rfl)))), Blk.fram (w := { w with drawn := d }) hO ff (hn _ (.inl (.inr (.inr (.inl rfl))))), Blk.fram (w := { w with drawn := d }) hK ff (hn _ (.inl (.inr (.inr (.inr (.inl rfl)))))), Blk.fram (w := { w with drawn := d }) hR ff (hn _ (.inl (.inr (.inr (.inr (.inr (.inl rfl))))))), Blk.fram (w := { w with drawn := d }) hE ff (hn _ (.inl (.inr (.inr (.inr (.inr (.inr rfl))))))), Blk.fram (w := { w with drawn := d }) hN ff (hn _ (.inr rfl)), hA, hr8, hb8⟩
theorem DVO.no {w : World} {D : DF} {cn : Nat} (V : DVO w D cn) : ∀ b l, Blk w.heap b l 175 → ¬ dset D b := by
  obtain ⟨kv, N, g, hB, hN, ⟨gs, hK⟩, -⟩ := V
  intro b l hb h
  rcases h with rfl | rfl | rfl
  · exact absurd (hb.uniq hB).2 (by decide)
  · exact absurd (hb.uniq hN).2 (by decide)
  · exact absurd (hb.uniq hK).2 (by decide)

theorem EBo.pk' {E : EB} (h : EBo E) {k : Nat} (hk : pset E.P k ∨ k = E.P.nn) : E.B.rb < k ∧ k < E.D.db := by
  have h1 := h.bp
  obtain ⟨p1, p2, p3, p4, p5, p6⟩ := h.pk
  have h3 := h.pd
  rcases hk with (rfl | rfl | rfl | rfl | rfl | rfl) | rfl <;> omega
theorem EBo.df' {E : EB} (h : EBo E) {k : Nat} (hk : dset E.D k) : E.P.nn < k ∧ k < E.eb := by
  have h3 := h.pd
  obtain ⟨f1, f2⟩ := h.df
  have h5 := h.de
  rcases hk with rfl | rfl | rfl <;> omega
theorem EBo.nn' {E : EB} (h : EBo E) : E.B.rb < E.P.nn ∧ E.P.nn < E.D.db ∧ E.D.db < E.eb := by
  have h1 := h.bp
  obtain ⟨p1, p2, p3, p4, p5, p6⟩ := h.pk
  have h3 := h.pd
  obtain ⟨f1, f2⟩ := h.df
  have h5 := h.de
  omega

/-- The engine in memory. -/
structure EGr (w : World) (E : EB) (cn : Nat) (m0 m1 : Mem) : Prop where
  blk : Blk w.heap E.eb (ecl E m0 m1) 117
  sm : SMV w.heap E.B
  a : EN w.heap m0
  b : EN w.heap m1
  pk : PKV w E.P
  df : DVO w E.D cn

def EGV (w : World) (E : EB) (cn : Nat) : Prop := ∃ m0 m1, EGr w E cn m0 m1

/-- All that it owns. -/
def eset (E : EB) : Nat → Prop := fun k => k = E.eb ∨ sset E.B k ∨ pset E.P k ∨ dset E.D k

theorem EBo.all {E : EB} (h : EBo E) {k : Nat} (hk : eset E k) : k ≤ E.eb := by
  have h1 := h.nn'
  rcases hk with rfl | hk | hk | hk
  · exact Nat.le_refl _
  · have := h.sm hk; omega
  · have := h.pk' (.inl hk); omega
  · have := h.df' hk; omega

theorem EGr.no {w : World} {E : EB} {cn : Nat} {m0 m1 : Mem} (V : EGr w E cn m0 m1) : ∀ b l, Blk w.heap b l 175 → ¬ eset E b := by
  intro b l hb h
  rcases h with rfl | h | h | h
  · exact absurd (hb.uniq V.blk).2 (by decide)
  · exact V.sm.no b l hb h
  · exact V.pk.no b l hb h
  · exact V.df.no b l hb h

theorem EGr.framS {w w' : World} {E : EB} {cn d : Nat} {m0 m1 : Mem} {F : Nat → Prop} (V : EGr w E cn m0 m1) (f : Fram F { w with drawn := d } w') (hn : ∀ b, eset E b ∨ b = E.P.nn → ¬ F b) (h175 : ∀ b l, Blk w.heap b l 175 → ¬ F b) : EGr w' E cn m0 m1 :=
  ⟨Blk.fram (w := { w with drawn := d }) V.blk f (hn _ (.inl (.inl rfl))), V.sm.fram f (fun b hb => hn b (.inl (.inr (.inl hb)))), V.a.fram f h175, V.b.fram f h175, V.pk.fram f (fun b hb => hn b (hb.elim (fun h => .inl (.inr (.inr (.inl h)))) .inr)), V.df.framS f (fun b hb => hn b (.inl (.inr (.inr (.inr hb))))) h175⟩
theorem EGr.framN {w w' : World} {E : EB} {cn d : Nat} {m0 m1 : Mem} (V : EGr w E cn m0 m1) (f : Fram none' { w with drawn := d } w') : EGr w' E cn m0 m1 := V.framS f (fun _ _ h => h) (fun _ _ _ h => h)
theorem EGr.framB {w w' : World} {E : EB} {cn d b : Nat} {m0 m1 : Mem} {l : List Value} {t : TypeId} (V : EGr w E cn m0 m1) (ho : EBo E) (f : Fram (one b) { w with drawn := d } w') (hb : Blk w.heap b l t) (ht : t ≠ 175) (hlt : E.eb < b) : EGr w' E cn m0 m1 := by
  refine V.framS f ?_ ?_
  · intro k hk h
    have h' : k = b := h
    subst h'
    rcases hk with hk | rfl
    · have := ho.all hk; omega
    · have := ho.nn'; omega
  · intro b' l' hb' h
    have h' : b' = b := h
    subst h'
    exact ht (hb.uniq hb').2
theorem EGr.byR {w w' : World} {E : EB} {cn d : Nat} {m0 m1 m0' m1' : Mem} (V : EGr w E cn m0 m1) (ho : EBo E) (f : Fram (rset E) { w with drawn := d } w') (h1 : Blk w'.heap E.eb (ecl E m0' m1') 117) (h2 : SMV w'.heap E.B) (h3 : EN w'.heap m0') (h4 : EN w'.heap m1') : EGr w' E cn m0' m1' := by
  have hq := ho.nn'
  refine ⟨h1, h2, h3, h4, V.pk.fram f ?_, V.df.framS f ?_ ?_⟩
  · intro b hb h
    have := ho.pk' hb
    rcases h with rfl | h
    · omega
    · have := ho.sm h; omega
  · intro b hb h
    have := ho.df' hb
    rcases h with rfl | h
    · omega
    · have := ho.sm h; omega
  · intro b l hb h
    rcases h with rfl | h
    · exact absurd (hb.uniq V.blk).2 (by decide)
    · exact V.sm.no b l hb h
theorem EGr.byD {w w' : World} {E : EB} {cn cm d : Nat} {m0 m1 : Mem} (V : EGr w E cn m0 m1) (ho : EBo E) (f : Fram (dset E.D) { w with drawn := d } w') (h1 : DVO w' E.D cm) : EGr w' E cm m0 m1 := by
  have hq := ho.nn'
  refine ⟨Blk.fram (w := { w with drawn := d }) V.blk f ?_, V.sm.fram f ?_, V.a.fram f V.df.no, V.b.fram f V.df.no, V.pk.fram f ?_, h1⟩
  · intro h; have := ho.df' h; omega
  · intro b hb h; have := ho.df' h; have := ho.sm hb; omega
  · intro b hb h; have := ho.df' h; have := ho.pk' hb
    have h5 : b ≤ E.P.nn := by
      obtain ⟨p1, p2, p3, p4, p5, p6⟩ := ho.pk
      rcases hb with (rfl | rfl | rfl | rfl | rfl | rfl) | rfl <;> omega
    omega
theorem EGr.byP {w w' : World} {E : EB} {cn d : Nat} {m0 m1 : Mem} (V : EGr w E cn m0 m1) (ho : EBo E) (f : Fram (pset E.P) { w with drawn := d } w') (h1 : PKV w' E.P) : EGr w' E cn m0 m1 := by
  have hq := ho.nn'
  refine ⟨Blk.fram (w := { w with drawn := d }) V.blk f ?_, V.sm.fram f ?_, V.a.fram f V.pk.no, V.b.fram f V.pk.no, h1, V.df.framS f ?_ V.pk.no⟩
  · intro h; have := ho.pk' (.inl h); omega
  · intro b hb h; have := ho.pk' (.inl h); have := ho.sm hb; omega
  · intro b hb h
    have := ho.df' hb
    have h5 : b ≤ E.P.nn := by
      obtain ⟨p1, p2, p3, p4, p5, p6⟩ := ho.pk
      rcases h with rfl | rfl | rfl | rfl | rfl | rfl <;> omega
    omega

/-- The cells of Has's answer. -/
def hasc (p s : List UInt8) (i : Nat) : List Value := match engT p s with
  | .error e => fdc e.1 e.2 false nocaps
  | .ok r => fdc 0 0 (lft s r i).isSome nocaps

theorem engT_e {p s : List UInt8} {e : Er} (h1 : p.length ≤ 128) (h2 : s.length ≤ 256) (h : coreT p = .error e) : engT p s = .error e := by
  unfold engT
  rw [if_neg (by omega), h]
theorem engT_o {p s : List UInt8} {r : RE} {g : Nat} (h1 : p.length ≤ 128) (h2 : s.length ≤ 256) (h : coreT p = .ok (r, g)) : engT p s = .ok r := by
  unfold engT
  rw [if_neg (by omega), h]
theorem EC.en {H : Array Obj} {pat : List UInt8} {m : Mem} (h : EC H pat m) : EN H m := by
  intro hu
  obtain ⟨h1, h2, h3⟩ := h
  subst h2
  exact ⟨h1, rfl, h3⟩

theorem rset_e {E : EB} {k : Nat} (h : rset E k) : eset E k := h.elim .inl (fun h => .inr (.inl h))

set_option maxHeartbeats 8000000 in
theorem Has36 {w : World} {E : EB} {cn i : Nat} {pat s : List UInt8} (ho : EBo E) (V : EGV w E cn) (hcn : cn ≤ 80000000000000000) (hi : i ≤ s.length) (hpm : pat.length ≤ 9223372036854775807) (hsm : s.length ≤ 9223372036854775807) :
    Ret Tryz.prog 36 [ptr E.eb, S pat, S s, i64c i] w (fun v w' => v = .agg (hasc pat s i).toArray ∧ EGV w' E (cn + 400) ∧ Fram (eset E) w w') := by
  have hF : Fram (eset E) w w := Fram.refl _ _
  obtain ⟨m0, m1, V⟩ := V
  have lt0 := V.blk.lt
  refine ret_of Tryz.func36 rfl Tryz.ntmps36 rfl ?_
  refine c_seq (fun K1 hK1 => ?_)
  refine c_reg ?_ -- region 0 prog.go:39
  refine wl_new (ze_57) (fun mb w1 hbmb hM F1 => ?_)
  have hbsmb := Nat.le_trans hF.size hbmb
  replace hF := hF.thenDrew.thenN F1
  replace V := V.framN (d := World.drawn _) F1
  have hemb : E.eb < mb := by omega
  have hM0 := hM
  refine wl_nil (x_then (hK1 _ _ ?_))
  clear hK1 K1
  refine c_seq (fun K2 hK2 => ?_)
  refine c_seq (fun K3 hK3 => ?_)
  have hql : 128 < pat.length ∨ (pat.length ≤ 128 ∧ 256 < s.length) ∨ (pat.length ≤ 128 ∧ s.length ≤ 256) := by omega
  rcases hql with q | q | q
  · skip
    have hE : engT pat s = .error (12, 0) := by unfold engT; rw [if_pos (by omega)]
    refine c_reg ?_ -- region 1 prog.go:40
    refine wl (ro_move rfl) ?_
    refine wl (ro_lenS rfl st_9) ?_
    refine wl (ro_cmp (r := true) rfl rfl (congrArg some (decide_eq_true (by omega)))) ?_
    refine wl (ro_move rfl) ?_
    refine wlg_no rfl ?_
    refine wlg_no rfl ?_
    refine wlg_no rfl ?_
    refine wl (ro_pick rfl rfl rfl) ?_
    refine wl_nil (x_then (hK3 _ _ ?_))
    clear hK3 K3
    refine wc_condT rfl ?_
    refine c_seq (fun K4 hK4 => ?_)
    refine c_reg ?_ -- region 2 prog.go:41
    refine wl_call rfl en_35 (Refused35 (er := 12) (p := 0)) ?_
    rintro _ w2 ⟨rfl, F2⟩
    replace V := V.framN (d := World.drawn _) F2
    replace hF := hF.transG F2 (by intro k hk h; simp only [one, two, none'] at h ⊢ <;> omega)
    replace hM := F2.blkF hM (by intro h; simp only [one, two, none'] at h <;> omega)
    have hM2 := hM
    refine wl_puta rfl rfl ((fdc_cells 12 0 false nocaps)) sz_57 (rfl) hM ((by simp)) (rfl) (fun w2 hM F2 => ?_)
    replace hF := hF.thenDrew.thenO F2 (by first | exact .inr (by omega) | exact .inl rfl | exact .inl (by assumption))
    replace V := V.framB (d := World.drawn _) ho F2 hM2 (by decide) hemb
    refine wl_nil (x_then (hK4 _ _ ?_))
    clear hK4 K4
    refine c_ret (x_thenR ?_)
    refine bq_ret (res1 Tryz.results36 (rv_c rfl ag_57 (hM) rfl)) ?_
    unfold hasc; rw [hE]; exact ⟨rfl, ⟨_, _, V.blk, V.sm, V.a, V.b, V.pk, V.df.up (by omega)⟩, hF⟩
  · skip
    have hE : engT pat s = .error (12, 0) := by unfold engT; rw [if_pos (by omega)]
    refine c_reg ?_ -- region 1 prog.go:40
    refine wl (ro_move rfl) ?_
    refine wl (ro_lenS rfl st_9) ?_
    refine wl (ro_cmp (r := false) rfl rfl (congrArg some (decide_eq_false (by omega)))) ?_
    refine wl (ro_move rfl) ?_
    refine wlg_yes rfl (ro_move rfl) ?_
    refine wlg_yes rfl (ro_lenS rfl st_9) ?_
    refine wlg_yes rfl (ro_cmp (r := true) rfl rfl (congrArg some (decide_eq_true (by omega)))) ?_
    refine wl (ro_pick rfl rfl rfl) ?_
    refine wl_nil (x_then (hK3 _ _ ?_))
    clear hK3 K3
    refine wc_condT rfl ?_
    refine c_seq (fun K5 hK5 => ?_)
    refine c_reg ?_ -- region 2 prog.go:41
    refine wl_call rfl en_35 (Refused35 (er := 12) (p := 0)) ?_
    rintro _ w2 ⟨rfl, F2⟩
    replace V := V.framN (d := World.drawn _) F2
    replace hF := hF.transG F2 (by intro k hk h; simp only [one, two, none'] at h ⊢ <;> omega)
    replace hM := F2.blkF hM (by intro h; simp only [one, two, none'] at h <;> omega)
    have hM2 := hM
    refine wl_puta rfl rfl ((fdc_cells 12 0 false nocaps)) sz_57 (rfl) hM ((by simp)) (rfl) (fun w3 hM F3 => ?_)
    replace hF := hF.thenDrew.thenO F3 (by first | exact .inr (by omega) | exact .inl rfl | exact .inl (by assumption))
    replace V := V.framB (d := World.drawn _) ho F3 hM2 (by decide) hemb
    refine wl_nil (x_then (hK5 _ _ ?_))
    clear hK5 K5
    refine c_ret (x_thenR ?_)
    refine bq_ret (res1 Tryz.results36 (rv_c rfl ag_57 (hM) rfl)) ?_
    unfold hasc; rw [hE]; exact ⟨rfl, ⟨_, _, V.blk, V.sm, V.a, V.b, V.pk, V.df.up (by omega)⟩, hF⟩
  · skip
    refine c_reg ?_ -- region 1 prog.go:40
    refine wl (ro_move rfl) ?_
    refine wl (ro_lenS rfl st_9) ?_
    refine wl (ro_cmp (r := false) rfl rfl (congrArg some (decide_eq_false (by omega)))) ?_
    refine wl (ro_move rfl) ?_
    refine wlg_yes rfl (ro_move rfl) ?_
    refine wlg_yes rfl (ro_lenS rfl st_9) ?_
    refine wlg_yes rfl (ro_cmp (r := false) rfl rfl (congrArg some (decide_eq_false (by omega)))) ?_
    refine wl (ro_pick rfl rfl rfl) ?_
    refine wl_nil (x_then (hK3 _ _ ?_))
    clear hK3 K3
    refine wc_condF rfl ?_
    refine c_skip (x_then (hK2 _ _ ?_))
    clear hK2 K2
    refine forget [(0, _), (1, _), (2, _), (3, _), (8, _)] ⟨rfl, rfl, rfl, rfl, rfl, trivial⟩ (fun e => ?_)
    refine c_seq (fun K6 hK6 => ?_)
    rcases hct : coreT pat with ec | ⟨rc, gc⟩
    · skip
      have hne := coreT_er hct
      have hE := engT_e q.1 q.2 hct
      refine c_reg ?_ -- region 3 prog.go:43
      refine wl (ro_move rfl) ?_
      refine wl (ro_move rfl) ?_
      refine wl_call rfl en_48 (recall48 ho V.blk V.sm V.a V.b q.1) ?_
      rintro _ w3 ⟨rfl, ⟨⟨u, p, a, l, c, e5, q5⟩, m1', hB, hEC, hEN⟩, hSM, F3⟩
      replace V := V.byR (d := World.drawn _) ho F3 hB hSM hEC.en hEN
      replace hM := F3.blkF hM (fun h => by have := ho.all (rset_e h); omega)
      have hM0 := hM
      replace hF := hF.trans' F3 (fun k _ h ↦ rset_e h)
      obtain ⟨hu5, hp5, hEC⟩ := hEC
      obtain rfl : true = u := hu5.symm
      obtain rfl : pat = p := hp5.symm
      rw [hct] at hEC
      first
        | (obtain ⟨rfl, rfl⟩ := hEC)
        | (obtain ⟨rfl, rfl, qb, rfl, rfl, rfl, hG⟩ := hEC)
      refine wl_nil (x_then (hK6 _ _ ?_))
      clear hK6 K6
      refine c_seq (fun K7 hK7 => ?_)
      refine c_seq (fun K8 hK8 => ?_)
      refine c_reg ?_ -- region 4 prog.go:44
      refine wl (ro_move rfl) ?_
      refine wl (ro_nilCheck rfl) ?_
      refine wl (ro_fieldAddr (k := 3) rfl fo_117_3) ?_
      refine wl (ro_indexAddrA (et := 114) (k := 5) rfl rfl ar_115 ((show (0 : Int) = ((0 : Nat) : Int) from rfl)) ((by omega : 0 < 2))) ?_
      refine wl (ro_fieldAddr (k := 3) rfl fo_114_3) ?_
      refine wl (ro_loadB rfl sc_53 (hB) (rfl)) ?_
      refine wl (ro_cmp (r := true) rfl rfl (congrArg some ((bnec ec.1 0).trans (decide_eq_true hne)))) ?_
      refine wl_nil (x_then (hK8 _ _ ?_))
      clear hK8 K8
      refine wc_condT rfl ?_
      refine c_seq (fun K9 hK9 => ?_)
      refine c_piL 13 [(0, false), (1, false), (2, false), (3, false), (4, false), (5, false), (6, false), (7, false), (8, false), (9, false), (10, false), (11, false), (12, true)] (fun w' => Blk w'.heap E.eb (ecl E ⟨true, pat, a, l, c, ec.1, ec.2⟩ m1') 117) mixed (by kernel_rfl) rfl (by kernel_rfl) (po_then (po_then (po_bp))) (hB) ?_ -- region 5 prog.go:45
      refine ql_ro rfl (fun w hS => ro_move rfl) ?_
      refine ql_ro rfl (fun w hS => ro_nilCheck rfl) ?_
      refine ql_ro rfl (fun w hS => ro_fieldAddr (k := 3) rfl fo_117_3) ?_
      refine ql_ro rfl (fun w hS => ro_indexAddrA (et := 114) (k := 5) rfl rfl ar_115 ((show (0 : Int) = ((0 : Nat) : Int) from rfl)) ((by omega : 0 < 2))) ?_
      refine ql_ro rfl (fun w hS => ro_fieldAddr (k := 3) rfl fo_114_3) ?_
      refine ql_ro rfl (fun w hS => ro_loadB rfl sc_53 (hS) (rfl)) ?_
      refine ql_ro rfl (fun w hS => ro_move rfl) ?_
      refine ql_ro rfl (fun w hS => ro_nilCheck rfl) ?_
      refine ql_ro rfl (fun w hS => ro_fieldAddr (k := 3) rfl fo_117_3) ?_
      refine ql_ro rfl (fun w hS => ro_indexAddrA (et := 114) (k := 5) rfl rfl ar_115 ((show (0 : Int) = ((0 : Nat) : Int) from rfl)) ((by omega : 0 < 2))) ?_
      refine ql_ro rfl (fun w hS => ro_fieldAddr (k := 4) rfl fo_114_4) ?_
      refine ql_ro rfl (fun w hS => ro_loadB rfl sc_3 (hS) (rfl)) ?_
      refine ql_call rfl rfl en_35 (Refused35 (er := ec.1) (p := ec.2)) ?_
      rintro _ w4 ⟨rfl, F4⟩
      replace V := V.framN F4
      replace hF := hF.transG F4 (by intro k hk h; simp only [one, two, none'] at h ⊢ <;> omega)
      replace hM := F4.blkF hM (by intro h; simp only [one, two, none'] at h <;> omega)
      replace hB := F4.blkF hB (by intro h; simp only [one, two, none'] at h <;> omega)
      have hM0 := hM
      refine ⟨hB, ?_⟩
      refine ql_puta rfl rfl rfl ((fdc_cells ec.1 ec.2 false nocaps)) sz_57 (rfl) hM ((by simp)) (rfl) (fun w4 hM F4 => ?_)
      replace hF := hF.thenDrew.thenO F4 (by first | exact .inr (by omega) | exact .inl rfl | exact .inl (by assumption))
      replace hB := F4.blkO hB (by omega)
      replace V := V.framB (d := World.drawn _) ho F4 hM0 (by decide) hemb
      refine x_then (hK9 _ _ ?_)
      clear hK9 K9
      refine c_ret (x_thenR ?_)
      refine bq_ret (res1 Tryz.results36 (rv_c rfl ag_57 (hM) rfl)) ?_
      unfold hasc; rw [hE]; exact ⟨rfl, ⟨_, _, V.blk, V.sm, V.a, V.b, V.pk, V.df.up (by omega)⟩, hF⟩
    · skip
      obtain ⟨hpt, hwf, hn24, hn31⟩ := coreT_ok hct
      have hE := engT_o q.1 q.2 hct
      have hpok := codeOf_prg hwf hn31
      have hset := codeOf_set hwf
      refine c_reg ?_ -- region 3 prog.go:43
      refine wl (ro_move rfl) ?_
      refine wl (ro_move rfl) ?_
      refine wl_call rfl en_48 (recall48 ho V.blk V.sm V.a V.b q.1) ?_
      rintro _ w3 ⟨rfl, ⟨⟨u, p, a, l, c, e5, q5⟩, m1', hB, hEC, hEN⟩, hSM, F3⟩
      replace V := V.byR (d := World.drawn _) ho F3 hB hSM hEC.en hEN
      replace hM := F3.blkF hM (fun h => by have := ho.all (rset_e h); omega)
      have hM0 := hM
      replace hF := hF.trans' F3 (fun k _ h ↦ rset_e h)
      obtain ⟨hu5, hp5, hEC⟩ := hEC
      obtain rfl : true = u := hu5.symm
      obtain rfl : pat = p := hp5.symm
      rw [hct] at hEC
      first
        | (obtain ⟨rfl, rfl⟩ := hEC)
        | (obtain ⟨rfl, rfl, qb, rfl, rfl, rfl, hG⟩ := hEC)
      refine wl_nil (x_then (hK6 _ _ ?_))
      clear hK6 K6
      refine c_seq (fun K10 hK10 => ?_)
      refine c_seq (fun K11 hK11 => ?_)
      refine c_reg ?_ -- region 4 prog.go:44
      refine wl (ro_move rfl) ?_
      refine wl (ro_nilCheck rfl) ?_
      refine wl (ro_fieldAddr (k := 3) rfl fo_117_3) ?_
      refine wl (ro_indexAddrA (et := 114) (k := 5) rfl rfl ar_115 ((show (0 : Int) = ((0 : Nat) : Int) from rfl)) ((by omega : 0 < 2))) ?_
      refine wl (ro_fieldAddr (k := 3) rfl fo_114_3) ?_
      refine wl (ro_loadB rfl sc_53 (hB) (rfl)) ?_
      refine wl (ro_cmp (r := false) rfl rfl rfl) ?_
      refine wl_nil (x_then (hK11 _ _ ?_))
      clear hK11 K11
      refine wc_condF rfl ?_
      refine c_skip (x_then (hK10 _ _ ?_))
      clear hK10 K10
      refine forget [(0, _), (2, _), (3, _), (8, _)] ⟨rfl, rfl, rfl, rfl, trivial⟩ (fun e => ?_)
      refine c_seq (fun K12 hK12 => ?_)
      refine c_pi [(0, false), (1, false), (2, false), (3, false), (4, false), (5, false), (6, false), (7, false), (8, false), (9, false), (10, false), (11, false), (12, true), (13, false), (14, false), (15, false), (16, false), (17, false)] (fun w' => Blk w'.heap E.eb (ecl E ⟨true, pat, some ⟨qb, 0, none⟩, (codeOf (child rc)).length, (codeOf (child rc)).length, 0, 0⟩ m1') 117) mixed (by kernel_rfl) rfl (by kernel_rfl) (po_then (po_bp)) (hB) ?_ -- region 6 prog.go:47
      refine pi_ro rfl (fun w hS => ro_move rfl) ?_
      refine pi_ro rfl (fun w hS => ro_nilCheck rfl) ?_
      refine pi_ro rfl (fun w hS => ro_fieldAddr (k := 2) rfl fo_117_2) ?_
      refine pi_ro rfl (fun w hS => ro_loadB rfl sc_48 (hS) (rfl)) ?_
      refine pi_ro rfl (fun w hS => ro_move rfl) ?_
      refine pi_ro rfl (fun w hS => ro_nilCheck rfl) ?_
      refine pi_ro rfl (fun w hS => ro_fieldAddr (k := 3) rfl fo_117_3) ?_
      refine pi_ro rfl (fun w hS => ro_indexAddrA (et := 114) (k := 5) rfl rfl ar_115 ((show (0 : Int) = ((0 : Nat) : Int) from rfl)) ((by omega : 0 < 2))) ?_
      refine pi_ro rfl (fun w hS => ro_fieldAddr (k := 2) rfl fo_114_2) ?_
      refine pi_ro rfl (fun w hS => ro_loadB rfl sc_109 (hS) (rfl)) ?_
      refine pi_ro rfl (fun w hS => ro_move rfl) ?_
      refine pi_ro rfl (fun w hS => ro_move rfl) ?_
      refine pi_call rfl rfl en_49 (Any49 (p := codeOf (child rc)) V.df hcn hG hpok hset q.2 hi) ?_
      rintro _ w5 ⟨⟨b, Q, rfl, hclo, hrun⟩, hD5, hG5, F5⟩
      replace V := V.byD ho F5 hD5
      replace hB := V.blk
      replace hM := F5.blkF hM (fun h => by have := ho.df' h; omega)
      replace hF := hF.transG F5 (fun k _ h ↦ .inr (.inr (.inr h)))
      have hbl := any_lft hwf hi hclo hrun (fun pc S h => hpok.ok pc _ h)
      refine ⟨hB, ?_⟩
      refine pi_ro rfl (fun w hS => ro_move rfl) ?_
      refine pi_ro rfl (fun w hS => ro_extract rfl rfl) ?_
      refine pi_ro rfl (fun w hS => ro_extract rfl rfl) ?_
      refine pi_ro rfl (fun w hS => ro_assign rfl) ?_
      refine pi_ro rfl (fun w hS => ro_assign rfl) ?_
      refine pi_nil (x_then (hK12 _ _ ?_))
      clear hK12 K12
      refine c_seq (fun K13 hK13 => ?_)
      refine c_seq (fun K14 hK14 => ?_)
      refine c_reg ?_ -- region 7 prog.go:48
      refine wl (ro_move rfl) ?_
      refine wl (ro_cmp (r := false) rfl rfl rfl) ?_
      refine wl_nil (x_then (hK14 _ _ ?_))
      clear hK14 K14
      refine wc_condF rfl ?_
      refine c_skip (x_then (hK13 _ _ ?_))
      clear hK13 K13
      refine forget [(8, _), (9, _)] ⟨rfl, rfl, trivial⟩ (fun e => ?_)
      refine c_seq (fun K15 hK15 => ?_)
      refine c_reg ?_ -- region 9 prog.go:51
      refine wl_call rfl en_50 (Nothing50) ?_
      rintro _ w6 ⟨rfl, F6⟩
      replace V := V.framN (d := World.drawn _) F6
      replace hF := hF.transG F6 (by intro k hk h; simp only [one, two, none'] at h ⊢ <;> omega)
      replace hM := F6.blkF hM (by intro h; simp only [one, two, none'] at h <;> omega)
      replace hB := F6.blkF hB (by intro h; simp only [one, two, none'] at h <;> omega)
      refine wl_new (ze_57) (fun xb w5 hbxb hX F5 => ?_)
      have hbsxb := Nat.le_trans hF.size hbxb
      have hnembxb : mb < xb := Nat.lt_of_lt_of_le hM.lt hbxb
      have hneE.ebxb : E.eb < xb := Nat.lt_of_lt_of_le hB.lt hbxb
      replace hF := hF.thenDrew.thenN F5
      replace hM := F5.blkN hM
      replace hB := F5.blkN hB
      replace V := V.framN (d := World.drawn _) F5
      have hX0 := hX
      have hexb : E.eb < xb := by omega
      refine wl_puta rfl rfl ((fdc_cells 0 0 false nocaps)) sz_57 (rfl) hX ((by simp)) (rfl) (fun w6 hX F6 => ?_)
      replace hF := hF.thenDrew.thenO F6 (by first | exact .inr (by omega) | exact .inl rfl | exact .inl (by assumption))
      replace hM := F6.blkO hM (by omega)
      replace hB := F6.blkO hB (by omega)
      replace V := V.framB (d := World.drawn _) ho F6 hX0 (by decide) hexb
      have hX1 := hX
      refine wl_nil (x_then (hK15 _ _ ?_))
      clear hK15 K15
      refine forget [(8, _), (9, _), (11, _)] ⟨rfl, rfl, rfl, trivial⟩ (fun e => ?_)
      refine c_seq (fun K16 hK16 => ?_)
      refine c_reg ?_ -- region 10 prog.go:52
      refine wl (ro_move rfl) ?_
      refine wl (ro_fieldAddr (k := 2) rfl fo_57_2) ?_
      refine wl_put rfl rfl rfl sz_4 hX ((by simp)) ((show _ = fdc 0 0 b nocaps from rfl)) (fun w7 hX F7 => ?_)
      replace hF := hF.thenDrew.thenO F7 (by first | exact .inr (by omega) | exact .inl rfl | exact .inl (by assumption))
      replace hM := F7.blkO hM (by omega)
      replace hB := F7.blkO hB (by omega)
      replace V := V.framB (d := World.drawn _) ho F7 hX1 (by decide) hexb
      have hM1 := hM
      refine wl_nil (x_then (hK16 _ _ ?_))
      clear hK16 K16
      refine forget [(8, _), (11, _)] ⟨rfl, rfl, trivial⟩ (fun e => ?_)
      refine c_seq (fun K17 hK17 => ?_)
      refine c_reg ?_ -- region 11 prog.go:53
      refine wl (ro_loadAggB rfl ag_57 (hX) (rfl) (rfl)) ?_
      refine wl_puta rfl rfl ((fdc_cells 0 0 b nocaps)) sz_57 (rfl) hM ((by simp)) (rfl) (fun w8 hM F8 => ?_)
      replace hF := hF.thenDrew.thenO F8 (by first | exact .inr (by omega) | exact .inl rfl | exact .inl (by assumption))
      replace hB := F8.blkO hB (by omega)
      replace hX := F8.blkO hX (by omega)
      replace V := V.framB (d := World.drawn _) ho F8 hM1 (by decide) hemb
      refine wl_nil (x_then (hK17 _ _ ?_))
      clear hK17 K17
      refine c_ret ?_
      refine bq_ret (res1 Tryz.results36 (rv_c rfl ag_57 (hM) rfl)) ?_
      unfold hasc; rw [hE]; subst hbl; exact ⟨rfl, ⟨_, _, V⟩, hF⟩

end Go.Proofs.Qxb6500567aGreat
