import Derived.Test.Qxb6500567aGreatKf
import Derived.Test.Qxb6500567aGreatFk
import Derived.Test.Qxb6500567aGreatPr
import Derived.Test.Qxb6500567aGreatId
import Derived.Test.Qxb6500567aGreatGg
/- The engine: its memo; recall. -/
namespace Go.Proofs.Qxb6500567aGreat
set_option linter.unusedVariables false
set_option linter.unusedSimpArgs false

/-- An entry of the memo. -/
structure Mem where
  u : Bool
  p : List UInt8
  a : Option Addr
  l : Nat
  c : Nat
  e : Nat
  q : Nat

abbrev mec (m : Mem) : List Value := [.bool m.u, S m.p, .slice m.a m.l m.c, i64c m.e, i64c m.q]
theorem mec_cells (m : Mem) : ∀ x ∈ mec m, x.oneCell' = true := by
  intro x hx
  simp only [mec, List.mem_cons, List.not_mem_nil, or_false] at hx
  rcases hx with rfl | rfl | rfl | rfl | rfl <;> rfl

/-- It tells what pat is. -/
def EC (H : Array Obj) (pat : List UInt8) (m : Mem) : Prop := m.u = true ∧ m.p = pat ∧ match coreT pat with
  | .error e => m.e = e.1 ∧ m.q = e.2
  | .ok (r, _) => m.e = 0 ∧ m.q = 0 ∧ ∃ qb, m.a = some ⟨qb, 0, none⟩ ∧ m.l = (codeOf (child r)).length ∧ m.c = (codeOf (child r)).length ∧ PGB H qb (insL (codeOf (child r)))

def EN (H : Array Obj) (m : Mem) : Prop := m.u = true → EC H m.p m

theorem EC.fram {w w' : World} {pat : List UInt8} {m : Mem} {F : Nat → Prop} {d : Nat} (h : EC w.heap pat m) (f : Fram F { w with drawn := d } w') (hn : ∀ b l, Blk w.heap b l 175 → ¬ F b) : EC w'.heap pat m := by
  obtain ⟨h1, h2, h3⟩ := h
  refine ⟨h1, h2, ?_⟩
  rcases hc : coreT pat with e | ⟨r, g⟩
  · rw [hc] at h3; exact h3
  · rw [hc] at h3
    obtain ⟨h4, h5, qb, h6, h7, h8, h9⟩ := h3
    exact ⟨h4, h5, qb, h6, h7, h8, Blk.fram (w := { w with drawn := d }) h9 f (hn _ _ h9)⟩
theorem EN.fram {w w' : World} {m : Mem} {F : Nat → Prop} {d : Nat} (h : EN w.heap m) (f : Fram F { w with drawn := d } w') (hn : ∀ b l, Blk w.heap b l 175 → ¬ F b) : EN w'.heap m := fun hu => (h hu).fram f hn
theorem EN.framN {w w' : World} {m : Mem} (h : EN w.heap m) (f : Fram none' w w') : EN w'.heap m := h.fram (d := w.drawn) f (fun _ _ _ h => h)

theorem SMV.no {H : Array Obj} {B : SB} (V : SMV H B) : ∀ b l, Blk H b l 175 → ¬ sset B b := by
  obtain ⟨no, nw, nr, fo, fw, fr, fh, fz, fx, hB, hO, hK, hR, hH, hZ, hP⟩ := V
  intro b l hb h
  rcases h with rfl | rfl | rfl | rfl | rfl | rfl | rfl
  · exact absurd (hb.uniq hB).2 (by decide)
  · exact absurd (hb.uniq hO).2 (by decide)
  · exact absurd (hb.uniq hK).2 (by decide)
  · exact absurd (hb.uniq hR).2 (by decide)
  · exact absurd (hb.uniq hH).2 (by decide)
  · exact absurd (hb.uniq hZ).2 (by decide)
  · exact absurd (hb.uniq hP).2 (by decide)
theorem SMV.fram {w w' : World} {B : SB} {F : Nat → Prop} {d : Nat} (V : SMV w.heap B) (f : Fram F { w with drawn := d } w') (hn : ∀ b, sset B b → ¬ F b) : SMV w'.heap B := by
  obtain ⟨no, nw, nr, fo, fw, fr, fh, fz, fx, hB, hO, hK, hR, hH, hZ, hP⟩ := V
  exact ⟨no, nw, nr, fo, fw, fr, fh, fz, fx, Blk.fram (w := { w with drawn := d }) hB f (hn _ (.inl rfl)), Blk.fram (w := { w with drawn := d }) hO f (hn _ (.inr (.inl rfl))), Blk.fram (w := { w with drawn := d }) hK f (hn _ (.inr (.inr (.inl rfl)))), Blk.fram (w := { w with drawn := d }) hR f (hn _ (.inr (.inr (.inr (.inl rfl))))), Blk.fram (w := { w with drawn := d }) hH f (hn _ (.inr (.inr (.inr (.inr (.inl rfl)))))), Blk.fram (w := { w with drawn := d }) hZ f (hn _ (.inr (.inr (.inr (.inr (.inr (.inl rfl))))))), Blk.fram (w := { w with drawn := d }) hP f (hn _ (.inr (.inr (.inr (.inr (.inr (.inr rfl))))))) ⟩
theorem SMV.framN {w w' : World} {B : SB} (V : SMV w.heap B) (f : Fram none' w w') : SMV w'.heap B := V.fram (d := w.drawn) f (fun _ _ h => h)

/-- The engine's blocks. -/
structure EB where
  eb : Nat
  B : SB
  P : PK
  D : DF

structure EBo (E : EB) : Prop where
  d7 : D7 E.B
  bp : E.B.rb < E.P.pb
  pk : PKo E.P
  pd : E.P.nn < E.D.db
  df : DFo E.D
  de : E.D.sk < E.eb

abbrev ecl (E : EB) (m0 m1 : Mem) : List Value := [ptr E.B.sb, ptr E.P.pb, ptr E.D.db] ++ (mec m0 ++ mec m1)

theorem EBo.sm {E : EB} (h : EBo E) {k : Nat} (hk : sset E.B k) : k ≤ E.B.rb := by
  obtain ⟨d1, d2, d3, d4, d5, d6⟩ := h.d7
  rcases hk with rfl | rfl | rfl | rfl | rfl | rfl | rfl <;> omega
theorem EBo.rb {E : EB} (h : EBo E) : E.B.rb < E.eb := by
  have h1 := h.bp
  obtain ⟨p1, p2, p3, p4, p5, p6⟩ := h.pk
  have h3 := h.pd
  obtain ⟨f1, f2⟩ := h.df
  have h5 := h.de
  omega

/-- The entries and the simplifier. -/
structure R3 (w : World) (B : SB) (m0 m1 : Mem) : Prop where
  a : EN w.heap m0
  b : EN w.heap m1
  v : SMV w.heap B
theorem R3.framN {w w' : World} {B : SB} {m0 m1 : Mem} {d : Nat} (R : R3 w B m0 m1) (f : Fram none' { w with drawn := d } w') : R3 w' B m0 m1 := ⟨R.a.fram f (fun _ _ _ h => h), R.b.fram f (fun _ _ _ h => h), R.v.fram f (fun _ _ h => h)⟩
theorem R3.framB {w w' : World} {B : SB} {m0 m1 : Mem} {d b : Nat} {l : List Value} {t : TypeId} (R : R3 w B m0 m1) (f : Fram (one b) { w with drawn := d } w') (hb : Blk w.heap b l t) (ht : t ≠ 175) (hn : ¬ sset B b) : R3 w' B m0 m1 := by
  have h175 : ∀ b' l', Blk w.heap b' l' 175 → ¬ one b b' := by
    intro b' l' hb' h
    have h' : b' = b := h
    subst h'
    exact ht (hb.uniq hb').2
  refine ⟨R.a.fram f h175, R.b.fram f h175, R.v.fram f ?_⟩
  intro k hk h
  have h' : k = b := h
  subst h'
  exact hn hk

/-- What recall touches. -/
def rset (E : EB) : Nat → Prop := fun k => k = E.eb ∨ sset E.B k

set_option maxHeartbeats 8000000 in
theorem recall48 {w : World} {E : EB} {m0 m1 : Mem} {pat : List UInt8} (ho : EBo E) (hB : Blk w.heap E.eb (ecl E m0 m1) 117) (V : SMV w.heap E.B) (h0 : EN w.heap m0) (h1 : EN w.heap m1) (hpl : pat.length ≤ 128) :
    Ret Tryz.prog 48 [ptr E.eb, S pat] w (fun v w' => v = .tuple #[] ∧ (∃ m0' m1', Blk w'.heap E.eb (ecl E m0' m1') 117 ∧ EC w'.heap pat m0' ∧ EN w'.heap m1') ∧ SMV w'.heap E.B ∧ Fram (rset E) w w') := by
  have hF : Fram (rset E) w w := Fram.refl _ _
  have orb := ho.rb
  have hme : rset E E.eb := .inl rfl
  have hse : ∀ k, sset E.B k → ¬ one E.eb k := fun k hk h => by have := ho.sm hk; have h' : k = E.eb := h; omega
  have h175 : ∀ w' : World, (∃ l, Blk w'.heap E.eb l 117) → ∀ b l, Blk w'.heap b l 175 → ¬ one E.eb b := by
    rintro w' ⟨l', hb'⟩ b l hb h
    have h' : b = E.eb := h
    subst h'
    exact absurd (hb.uniq hb').2 (by decide)
  obtain ⟨u0, p0, a0, l0, c0, e0, q0⟩ := m0
  obtain ⟨u1, p1, a1, l1, c1, e1, q1⟩ := m1
  refine ret_of Tryz.func48 rfl Tryz.ntmps48 rfl ?_
  refine c_seq (fun K1 hK1 => ?_)
  refine c_seq (fun K2 hK2 => ?_)
  have hq0 : (u0 = true ∧ p0 = pat) ∨ (u0 = true ∧ p0 ≠ pat) ∨ u0 = false := by
    cases u0 with
    | false => exact .inr (.inr rfl)
    | true => by_cases h : p0 = pat; exact .inl ⟨rfl, h⟩; exact .inr (.inl ⟨rfl, h⟩)
  rcases hq0 with ⟨rfl, hp0⟩ | ⟨rfl, hp0⟩ | rfl
  · skip
    refine c_reg ?_ -- region 0 memo.go:20
    refine wl (ro_move rfl) ?_
    refine wl (ro_nilCheck rfl) ?_
    refine wl (ro_fieldAddr (k := 3) rfl fo_117_3) ?_
    refine wl (ro_indexAddrA (et := 114) (k := 5) rfl rfl ar_115 ((show (0 : Int) = ((0 : Nat) : Int) from rfl)) ((by omega : 0 < 2))) ?_
    refine wl (ro_fieldAddr (k := 0) rfl fo_114_0) ?_
    refine wl (ro_loadB rfl sc_4 (hB) (rfl)) ?_
    refine wl (ro_move rfl) ?_
    refine wlg_yes rfl (ro_move rfl) ?_
    refine wlg_yes rfl (ro_nilCheck rfl) ?_
    refine wlg_yes rfl (ro_fieldAddr (k := 3) rfl fo_117_3) ?_
    refine wlg_yes rfl (ro_indexAddrA (et := 114) (k := 5) rfl rfl ar_115 ((show (0 : Int) = ((0 : Nat) : Int) from rfl)) ((by omega : 0 < 2))) ?_
    refine wlg_yes rfl (ro_fieldAddr (k := 1) rfl fo_114_1) ?_
    refine wlg_yes rfl (ro_loadB rfl sc_9 (hB) (rfl)) ?_
    refine wlg_yes rfl (ro_move rfl) ?_
    refine wlg_yes rfl (ro_eqS (l := p0) (m := pat) (r := true) rfl rfl (congrArg some (by simpa using hp0))) ?_
    refine wl (ro_pick rfl rfl rfl) ?_
    refine wl_nil (x_then (hK2 _ _ ?_))
    clear hK2 K2
    refine wc_condT rfl ?_
    refine c_ret (x_thenR ?_)
    refine bp_ret Tryz.results48 rfl ?_
    exact ⟨rfl, ⟨_, _, hB, by subst hp0; exact h0 rfl, h1⟩, V, hF⟩
  · skip
    refine c_reg ?_ -- region 0 memo.go:20
    refine wl (ro_move rfl) ?_
    refine wl (ro_nilCheck rfl) ?_
    refine wl (ro_fieldAddr (k := 3) rfl fo_117_3) ?_
    refine wl (ro_indexAddrA (et := 114) (k := 5) rfl rfl ar_115 ((show (0 : Int) = ((0 : Nat) : Int) from rfl)) ((by omega : 0 < 2))) ?_
    refine wl (ro_fieldAddr (k := 0) rfl fo_114_0) ?_
    refine wl (ro_loadB rfl sc_4 (hB) (rfl)) ?_
    refine wl (ro_move rfl) ?_
    refine wlg_yes rfl (ro_move rfl) ?_
    refine wlg_yes rfl (ro_nilCheck rfl) ?_
    refine wlg_yes rfl (ro_fieldAddr (k := 3) rfl fo_117_3) ?_
    refine wlg_yes rfl (ro_indexAddrA (et := 114) (k := 5) rfl rfl ar_115 ((show (0 : Int) = ((0 : Nat) : Int) from rfl)) ((by omega : 0 < 2))) ?_
    refine wlg_yes rfl (ro_fieldAddr (k := 1) rfl fo_114_1) ?_
    refine wlg_yes rfl (ro_loadB rfl sc_9 (hB) (rfl)) ?_
    refine wlg_yes rfl (ro_move rfl) ?_
    refine wlg_yes rfl (ro_eqS (l := p0) (m := pat) (r := false) rfl rfl (congrArg some (by simpa using hp0))) ?_
    refine wl (ro_pick rfl rfl rfl) ?_
    refine wl_nil (x_then (hK2 _ _ ?_))
    clear hK2 K2
    refine wc_condF rfl ?_
    refine c_skip (x_then (hK1 _ _ ?_))
    clear hK1 K1
    refine c_seq (fun K3 hK3 => ?_)
    refine c_seq (fun K4 hK4 => ?_)
    have hq1 : (u1 = true ∧ p1 = pat) ∨ (u1 = true ∧ p1 ≠ pat) ∨ u1 = false := by
      cases u1 with
      | false => exact .inr (.inr rfl)
      | true => by_cases h : p1 = pat; exact .inl ⟨rfl, h⟩; exact .inr (.inl ⟨rfl, h⟩)
    rcases hq1 with ⟨rfl, hp1⟩ | ⟨rfl, hp1⟩ | rfl
    · skip
      have hB2 := hB
      refine c_reg ?_ -- region 1 memo.go:23
      refine wl (ro_move rfl) ?_
      refine wl (ro_nilCheck rfl) ?_
      refine wl (ro_fieldAddr (k := 3) rfl fo_117_3) ?_
      refine wl (ro_indexAddrA (et := 114) (k := 5) rfl rfl ar_115 ((show (1 : Int) = ((1 : Nat) : Int) from rfl)) ((by omega : 1 < 2))) ?_
      refine wl (ro_fieldAddr (k := 0) rfl fo_114_0) ?_
      refine wl (ro_loadB rfl sc_4 (hB) (rfl)) ?_
      refine wl (ro_move rfl) ?_
      refine wlg_yes rfl (ro_move rfl) ?_
      refine wlg_yes rfl (ro_nilCheck rfl) ?_
      refine wlg_yes rfl (ro_fieldAddr (k := 3) rfl fo_117_3) ?_
      refine wlg_yes rfl (ro_indexAddrA (et := 114) (k := 5) rfl rfl ar_115 ((show (1 : Int) = ((1 : Nat) : Int) from rfl)) ((by omega : 1 < 2))) ?_
      refine wlg_yes rfl (ro_fieldAddr (k := 1) rfl fo_114_1) ?_
      refine wlg_yes rfl (ro_loadB rfl sc_9 (hB) (rfl)) ?_
      refine wlg_yes rfl (ro_move rfl) ?_
      refine wlg_yes rfl (ro_eqS (l := p1) (m := pat) (r := true) rfl rfl (congrArg some (by simpa using hp1))) ?_
      refine wl (ro_pick rfl rfl rfl) ?_
      refine wl_nil (x_then (hK4 _ _ ?_))
      clear hK4 K4
      refine wc_condT rfl ?_
      refine c_seq (fun K5 hK5 => ?_)
      refine c_piB [15, 19] [(0, 1), (1, 1), (2, 1), (3, 1), (4, 1), (5, 1), (6, 0), (7, 1), (8, 1), (9, 1), (10, 1), (11, 0), (12, 1), (13, 1), (14, 1), (16, 1), (17, 1), (15, 2), (18, 1), (19, 2)] (SameH _) mixed (by kernel_rfl) rfl (by kernel_rfl) (po_then (po_then (po_bp))) (sameH_now _ _) ?_ -- region 2 memo.go:24
      refine pb_ro1 rfl (fun w => ro_move rfl) ?_
      refine pb_ro1 rfl (fun w => ro_move rfl) ?_
      refine pb_ro1 rfl (fun w => ro_move rfl) ?_
      refine pb_ro1 rfl (fun w => ro_nilCheck rfl) ?_
      refine pb_ro1 rfl (fun w => ro_fieldAddr (k := 3) rfl fo_117_3) ?_
      refine pb_ro1 rfl (fun w => ro_indexAddrA (et := 114) (k := 5) rfl rfl ar_115 ((show (1 : Int) = ((1 : Nat) : Int) from rfl)) ((by omega : 1 < 2))) ?_
      refine pb_ro0 rfl (fun w hS => ro_loadAggB rfl ag_114 (Blk.of_heap hB hS) (rfl) (rfl)) ?_
      refine pb_ro1 rfl (fun w => ro_move rfl) ?_
      refine pb_ro1 rfl (fun w => ro_nilCheck rfl) ?_
      refine pb_ro1 rfl (fun w => ro_fieldAddr (k := 3) rfl fo_117_3) ?_
      refine pb_ro1 rfl (fun w => ro_indexAddrA (et := 114) (k := 5) rfl rfl ar_115 ((show (0 : Int) = ((0 : Nat) : Int) from rfl)) ((by omega : 0 < 2))) ?_
      refine pb_ro0 rfl (fun w hS => ro_loadAggB rfl ag_114 (Blk.of_heap hB hS) (rfl) (rfl)) ?_
      refine pb_ro1 rfl (fun w => ro_nilCheck rfl) ?_
      refine pb_ro1 rfl (fun w => ro_fieldAddr (k := 3) rfl fo_117_3) ?_
      refine pb_ro1 rfl (fun w => ro_indexAddrA (et := 114) (k := 5) rfl rfl ar_115 ((show (0 : Int) = ((0 : Nat) : Int) from rfl)) ((by omega : 0 < 2))) ?_
      refine pb_ro1 rfl (fun w => ro_nilCheck rfl) ?_
      refine pb_ro1 rfl (fun w => ro_fieldAddr (k := 3) rfl fo_117_3) ?_
      refine pb_puta rfl rfl rfl ((mec_cells ⟨true, p1, a1, l1, c1, e1, q1⟩)) sz_114 (rfl) hB ((by simp)) (rfl) (fun w1 hB F1 => ?_)
      replace hF := hF.thenDrew.thenO F1 (by first | exact .inr (by omega) | exact .inl rfl | exact .inl (by assumption))
      have hB3 := hB
      replace h0 := h0.fram F1 (h175 w ⟨_, hB2⟩)
      replace h1 := h1.fram F1 (h175 w ⟨_, hB2⟩)
      replace V := V.fram F1 hse
      refine pb_ro1 rfl (fun w => ro_indexAddrA (et := 114) (k := 5) rfl rfl ar_115 ((show (1 : Int) = ((1 : Nat) : Int) from rfl)) ((by omega : 1 < 2))) ?_
      refine pb_puta rfl rfl rfl ((mec_cells ⟨_, p0, a0, l0, c0, e0, q0⟩)) sz_114 (rfl) hB ((by simp)) (rfl) (fun w2 hB F2 => ?_)
      replace hF := hF.thenDrew.thenO F2 (by first | exact .inr (by omega) | exact .inl rfl | exact .inl (by assumption))
      replace h0 := h0.fram (d := World.drawn _) F2 (h175 _ ⟨_, hB3⟩)
      replace h1 := h1.fram (d := World.drawn _) F2 (h175 _ ⟨_, hB3⟩)
      replace V := V.fram (d := World.drawn _) F2 hse
      refine pb_nil (x_then (hK5 _ _ ?_))
      clear hK5 K5
      refine c_ret (x_thenR ?_)
      refine bp_ret Tryz.results48 rfl ?_
      exact ⟨rfl, ⟨⟨true, p1, a1, l1, c1, e1, q1⟩, ⟨_, p0, a0, l0, c0, e0, q0⟩, hB, by subst hp1; exact h1 rfl, h0⟩, V, hF⟩
    · skip
      refine c_reg ?_ -- region 1 memo.go:23
      refine wl (ro_move rfl) ?_
      refine wl (ro_nilCheck rfl) ?_
      refine wl (ro_fieldAddr (k := 3) rfl fo_117_3) ?_
      refine wl (ro_indexAddrA (et := 114) (k := 5) rfl rfl ar_115 ((show (1 : Int) = ((1 : Nat) : Int) from rfl)) ((by omega : 1 < 2))) ?_
      refine wl (ro_fieldAddr (k := 0) rfl fo_114_0) ?_
      refine wl (ro_loadB rfl sc_4 (hB) (rfl)) ?_
      refine wl (ro_move rfl) ?_
      refine wlg_yes rfl (ro_move rfl) ?_
      refine wlg_yes rfl (ro_nilCheck rfl) ?_
      refine wlg_yes rfl (ro_fieldAddr (k := 3) rfl fo_117_3) ?_
      refine wlg_yes rfl (ro_indexAddrA (et := 114) (k := 5) rfl rfl ar_115 ((show (1 : Int) = ((1 : Nat) : Int) from rfl)) ((by omega : 1 < 2))) ?_
      refine wlg_yes rfl (ro_fieldAddr (k := 1) rfl fo_114_1) ?_
      refine wlg_yes rfl (ro_loadB rfl sc_9 (hB) (rfl)) ?_
      refine wlg_yes rfl (ro_move rfl) ?_
      refine wlg_yes rfl (ro_eqS (l := p1) (m := pat) (r := false) rfl rfl (congrArg some (by simpa using hp1))) ?_
      refine wl (ro_pick rfl rfl rfl) ?_
      refine wl_nil (x_then (hK4 _ _ ?_))
      clear hK4 K4
      refine wc_condF rfl ?_
      refine c_skip (x_then (hK3 _ _ ?_))
      clear hK3 K3
      refine forget [(0, _), (1, _)] ⟨rfl, rfl, trivial⟩ (fun e => ?_)
      refine c_seq (fun K6 hK6 => ?_)
      rcases hct : coreT pat with ec | ⟨rc, gc⟩
      · skip
        have hne := coreT_er hct
        refine c_reg ?_ -- region 3 memo.go:27
        refine wl (ro_move rfl) ?_
        refine wl (ro_nilCheck rfl) ?_
        refine wl (ro_fieldAddr (k := 0) rfl fo_117_0) ?_
        refine wl (ro_loadB rfl sc_44 (hB) (rfl)) ?_
        refine wl (ro_move rfl) ?_
        refine wl_call rfl en_57 (Core57 ho.d7 V (by omega)) ?_
        rintro v3 w3 ⟨hCV, V3, F3⟩
        replace h0 := h0.fram (d := World.drawn _) F3 V.no
        replace h1 := h1.fram (d := World.drawn _) F3 V.no
        have R : R3 w3 E.B _ _ := ⟨h0, h1, V3⟩
        clear h0 h1 V V3
        replace hB := F3.blkF hB (fun h => by have := ho.sm h; omega)
        replace hF := hF.trans' F3 (fun k _ h ↦ .inr h)
        rw [hct] at hCV
        first
          | (obtain rfl : v3 = .agg (erV ec).toArray := hCV)
          | (obtain ⟨nb, cc, hv3, hnb, hT, hAR⟩ := hCV
             rw [show icv ((nds (child rc) : Int) - 1) = i64c (nds (child rc) - 1 : Nat) from congrArg (Value.int .i64) (by have := nds_pos (child rc); omega)] at hv3
             subst hv3)
        refine wl_new (ze_151) (fun xb w3 hbxb hX F3 => ?_)
        have hbsxb := Nat.le_trans hF.size hbxb
        have hneE.ebxb : E.eb < xb := Nat.lt_of_lt_of_le hB.lt hbxb
        replace hF := hF.thenDrew.thenN F3
        replace hB := F3.blkN hB
        replace R := R.framN (d := World.drawn _) F3
        have hX0 := hX
        refine wl_puta rfl rfl (by simp [Value.oneCell', i64c, u64c, u8c, ptr]) sz_151 (rfl) hX ((by simp)) (rfl) (fun w4 hX F4 => ?_)
        replace hF := hF.thenDrew.thenO F4 (by first | exact .inr (by omega) | exact .inl rfl | exact .inl (by assumption))
        replace hB := F4.blkO hB (by omega)
        replace R := R.framB (d := World.drawn _) F4 hX0 (by decide) (fun h => by have := ho.sm h; omega)
        refine wl_nil (x_then (hK6 _ _ ?_))
        clear hK6 K6
        refine forget [(0, _), (1, _), (4, _)] ⟨rfl, rfl, rfl, trivial⟩ (fun e => ?_)
        refine c_seq (fun K7 hK7 => ?_)
        refine c_reg ?_ -- region 4 memo.go:28
        refine wl (ro_move rfl) ?_
        refine wl (ro_fieldAddr (k := 3) rfl fo_151_3) ?_
        refine wl (ro_loadB rfl sc_53 (hX) (rfl)) ?_
        refine wl (ro_fieldAddr (k := 4) rfl fo_151_4) ?_
        refine wl (ro_loadB rfl sc_3 (hX) (rfl)) ?_
        refine wl (ro_build rfl bld_114_0_1_3_4) ?_
        refine wl_new (ze_114) (fun yb w5 hbyb hY F5 => ?_)
        have hbsyb := Nat.le_trans hF.size hbyb
        have hneE.ebyb : E.eb < yb := Nat.lt_of_lt_of_le hB.lt hbyb
        have hnexbyb : xb < yb := Nat.lt_of_lt_of_le hX.lt hbyb
        replace hF := hF.thenDrew.thenN F5
        replace hB := F5.blkN hB
        replace hX := F5.blkN hX
        replace R := R.framN (d := World.drawn _) F5
        have hY0 := hY
        refine wl_puta rfl rfl ((mec_cells ⟨true, pat, none, 0, 0, ec.1, ec.2⟩)) sz_114 (rfl) hY ((by simp)) ((show _ = mec ⟨true, pat, none, 0, 0, ec.1, ec.2⟩ from rfl)) (fun w6 hY F6 => ?_)
        replace hF := hF.thenDrew.thenO F6 (by first | exact .inr (by omega) | exact .inl rfl | exact .inl (by assumption))
        replace hB := F6.blkO hB (by omega)
        replace hX := F6.blkO hX (by omega)
        replace R := R.framB (d := World.drawn _) F6 hY0 (by decide) (fun h => by have := ho.sm h; omega)
        refine wl_nil (x_then (hK7 _ _ ?_))
        clear hK7 K7
        refine c_seq (fun K8 hK8 => ?_)
        refine c_seq (fun K9 hK9 => ?_)
        refine c_reg ?_ -- region 5 memo.go:29
        refine wl (ro_fieldAddr (k := 3) rfl fo_151_3) ?_
        refine wl (ro_loadB rfl sc_53 (hX) (rfl)) ?_
        refine wl (ro_cmp (r := false) rfl rfl (congrArg some ((beqc ec.1 0).trans (decide_eq_false hne)))) ?_
        refine wl_nil (x_then (hK9 _ _ ?_))
        clear hK9 K9
        refine wc_condF rfl ?_
        refine c_skip (x_then (hK8 _ _ ?_))
        clear hK8 K8
        refine forget [(0, _), (5, _)] ⟨rfl, rfl, trivial⟩ (fun e => ?_)
        refine c_seq (fun K10 hK10 => ?_)
        have hB7 := hB
        refine c_piL 9 [(0, false), (1, false), (2, false), (3, false), (4, false), (5, false), (6, false), (7, false), (8, false)] (SameH _) mixed (by kernel_rfl) rfl (by kernel_rfl) (po_then (po_bp)) (sameH_now _ _) ?_ -- region 7 memo.go:32
        refine ql_ro rfl (fun w hS => ro_move rfl) ?_
        refine ql_ro rfl (fun w hS => ro_move rfl) ?_
        refine ql_ro rfl (fun w hS => ro_nilCheck rfl) ?_
        refine ql_ro rfl (fun w hS => ro_fieldAddr (k := 3) rfl fo_117_3) ?_
        refine ql_ro rfl (fun w hS => ro_indexAddrA (et := 114) (k := 5) rfl rfl ar_115 ((show (0 : Int) = ((0 : Nat) : Int) from rfl)) ((by omega : 0 < 2))) ?_
        refine ql_ro rfl (fun w hS => ro_loadAggB rfl ag_114 (Blk.of_heap hB hS) (rfl) (rfl)) ?_
        refine ql_ro rfl (fun w hS => ro_nilCheck rfl) ?_
        refine ql_ro rfl (fun w hS => ro_fieldAddr (k := 3) rfl fo_117_3) ?_
        refine ql_ro rfl (fun w hS => ro_indexAddrA (et := 114) (k := 5) rfl rfl ar_115 ((show (1 : Int) = ((1 : Nat) : Int) from rfl)) ((by omega : 1 < 2))) ?_
        refine ql_puta rfl rfl rfl ((mec_cells ⟨_, p0, a0, l0, c0, e0, q0⟩)) sz_114 (rfl) hB ((by simp)) (rfl) (fun w7 hB F7 => ?_)
        replace hF := hF.thenDrew.thenO F7 (by first | exact .inr (by omega) | exact .inl rfl | exact .inl (by assumption))
        replace hX := F7.blkO hX (by omega)
        replace hY := F7.blkO hY (by omega)
        replace R := R.framB F7 hB7 (by decide) (fun h => by have := ho.sm h; omega)
        refine x_then (hK10 _ _ ?_)
        clear hK10 K10
        have hB8 := hB
        refine c_piL 5 [(0, false), (1, false), (2, false), (3, false), (4, false)] (SameH _) mixed (by kernel_rfl) rfl (by kernel_rfl) (po_bp) (sameH_now _ _) ?_ -- region 8 memo.go:33
        refine ql_ro rfl (fun w hS => ro_move rfl) ?_
        refine ql_ro rfl (fun w hS => ro_loadAggB rfl ag_114 (Blk.of_heap hY hS) (rfl) (rfl)) ?_
        refine ql_ro rfl (fun w hS => ro_nilCheck rfl) ?_
        refine ql_ro rfl (fun w hS => ro_fieldAddr (k := 3) rfl fo_117_3) ?_
        refine ql_ro rfl (fun w hS => ro_indexAddrA (et := 114) (k := 5) rfl rfl ar_115 ((show (0 : Int) = ((0 : Nat) : Int) from rfl)) ((by omega : 0 < 2))) ?_
        refine ql_puta rfl rfl rfl ((mec_cells ⟨true, pat, none, 0, 0, ec.1, ec.2⟩)) sz_114 (rfl) hB ((by simp)) (rfl) (fun w8 hB F8 => ?_)
        replace hF := hF.thenDrew.thenO F8 (by first | exact .inr (by omega) | exact .inl rfl | exact .inl (by assumption))
        replace hX := F8.blkO hX (by omega)
        replace hY := F8.blkO hY (by omega)
        replace R := R.framB F8 hB8 (by decide) (fun h => by have := ho.sm h; omega)
        refine ?_
        refine bp_end Tryz.results48 rfl ?_
        exact ⟨rfl, ⟨⟨true, pat, none, 0, 0, ec.1, ec.2⟩, ⟨_, p0, a0, l0, c0, e0, q0⟩, hB, ⟨rfl, rfl, by rw [hct]; exact ⟨rfl, rfl⟩⟩, R.a⟩, R.v, hF⟩
      · skip
        obtain ⟨hpt, hwf, hn24, hn31⟩ := coreT_ok hct
        refine c_reg ?_ -- region 3 memo.go:27
        refine wl (ro_move rfl) ?_
        refine wl (ro_nilCheck rfl) ?_
        refine wl (ro_fieldAddr (k := 0) rfl fo_117_0) ?_
        refine wl (ro_loadB rfl sc_44 (hB) (rfl)) ?_
        refine wl (ro_move rfl) ?_
        refine wl_call rfl en_57 (Core57 ho.d7 V (by omega)) ?_
        rintro v3 w3 ⟨hCV, V3, F3⟩
        replace h0 := h0.fram (d := World.drawn _) F3 V.no
        replace h1 := h1.fram (d := World.drawn _) F3 V.no
        have R : R3 w3 E.B _ _ := ⟨h0, h1, V3⟩
        clear h0 h1 V V3
        replace hB := F3.blkF hB (fun h => by have := ho.sm h; omega)
        replace hF := hF.trans' F3 (fun k _ h ↦ .inr h)
        rw [hct] at hCV
        first
          | (obtain rfl : v3 = .agg (erV ec).toArray := hCV)
          | (obtain ⟨nb, cc, hv3, hnb, hT, hAR⟩ := hCV
             rw [show icv ((nds (child rc) : Int) - 1) = i64c (nds (child rc) - 1 : Nat) from congrArg (Value.int .i64) (by have := nds_pos (child rc); omega)] at hv3
             subst hv3)
        refine wl_new (ze_151) (fun xb w9 hbxb hX F9 => ?_)
        have hbsxb := Nat.le_trans hF.size hbxb
        have hneE.ebxb : E.eb < xb := Nat.lt_of_lt_of_le hB.lt hbxb
        replace hF := hF.thenDrew.thenN F9
        replace hB := F9.blkN hB
        replace R := R.framN (d := World.drawn _) F9
        have hX0 := hX
        have hnx : nb < xb := Nat.lt_of_lt_of_le hT.lt hbxb
        replace hT := F9.blkN hT
        refine wl_puta rfl rfl (by simp [Value.oneCell', i64c, u64c, u8c, ptr]) sz_151 (rfl) hX ((by simp)) (rfl) (fun w10 hX F10 => ?_)
        replace hF := hF.thenDrew.thenO F10 (by first | exact .inr (by omega) | exact .inl rfl | exact .inl (by assumption))
        replace hB := F10.blkO hB (by omega)
        replace R := R.framB (d := World.drawn _) F10 hX0 (by decide) (fun h => by have := ho.sm h; omega)
        replace hT := F10.blkO hT (by omega)
        refine wl_nil (x_then (hK6 _ _ ?_))
        clear hK6 K6
        refine forget [(0, _), (1, _), (4, _)] ⟨rfl, rfl, rfl, trivial⟩ (fun e => ?_)
        refine c_seq (fun K11 hK11 => ?_)
        refine c_reg ?_ -- region 4 memo.go:28
        refine wl (ro_move rfl) ?_
        refine wl (ro_fieldAddr (k := 3) rfl fo_151_3) ?_
        refine wl (ro_loadB rfl sc_53 (hX) (rfl)) ?_
        refine wl (ro_fieldAddr (k := 4) rfl fo_151_4) ?_
        refine wl (ro_loadB rfl sc_3 (hX) (rfl)) ?_
        refine wl (ro_build rfl bld_114_0_1_3_4) ?_
        refine wl_new (ze_114) (fun yb w11 hbyb hY F11 => ?_)
        have hbsyb := Nat.le_trans hF.size hbyb
        have hneE.ebyb : E.eb < yb := Nat.lt_of_lt_of_le hB.lt hbyb
        have hnexbyb : xb < yb := Nat.lt_of_lt_of_le hX.lt hbyb
        replace hF := hF.thenDrew.thenN F11
        replace hB := F11.blkN hB
        replace hX := F11.blkN hX
        replace R := R.framN (d := World.drawn _) F11
        have hY0 := hY
        have hny : nb < yb := Nat.lt_of_lt_of_le hT.lt hbyb
        replace hT := F11.blkN hT
        refine wl_puta rfl rfl ((mec_cells ⟨true, pat, none, 0, 0, 0, 0⟩)) sz_114 (rfl) hY ((by simp)) ((show _ = mec ⟨true, pat, none, 0, 0, 0, 0⟩ from rfl)) (fun w12 hY F12 => ?_)
        replace hF := hF.thenDrew.thenO F12 (by first | exact .inr (by omega) | exact .inl rfl | exact .inl (by assumption))
        replace hB := F12.blkO hB (by omega)
        replace hX := F12.blkO hX (by omega)
        replace R := R.framB (d := World.drawn _) F12 hY0 (by decide) (fun h => by have := ho.sm h; omega)
        replace hT := F12.blkO hT (by omega)
        refine wl_nil (x_then (hK11 _ _ ?_))
        clear hK11 K11
        refine c_seq (fun K12 hK12 => ?_)
        refine c_seq (fun K13 hK13 => ?_)
        refine c_reg ?_ -- region 5 memo.go:29
        refine wl (ro_fieldAddr (k := 3) rfl fo_151_3) ?_
        refine wl (ro_loadB rfl sc_53 (hX) (rfl)) ?_
        refine wl (ro_cmp (r := true) rfl rfl rfl) ?_
        refine wl_nil (x_then (hK13 _ _ ?_))
        clear hK13 K13
        refine wc_condT rfl ?_
        refine c_reg ?_ -- region 6 memo.go:30
        refine wl (ro_loadAggB rfl ag_151 (hX) (rfl) (rfl)) ?_
        refine wl_call rfl en_58 (compile58 (g := gc) hT hAR hn31 (fun x hx ↦ by have := hwf.gs (gs_child hx); omega)) ?_
        rintro _ w6 ⟨qb, rfl, hqb, hG, F6⟩
        have hqy : yb < qb := by have := hY.lt; omega
        have hqe : E.eb < qb := by have := hB.lt; omega
        replace R := R.framN (d := World.drawn _) F6
        replace hF := hF.transG F6 (by intro k hk h; simp only [one, two, none', rset] at h ⊢ <;> omega)
        replace hB := F6.blkF hB (by intro h; simp only [one, two, none', rset] at h <;> omega)
        replace hX := F6.blkF hX (by intro h; simp only [one, two, none', rset] at h <;> omega)
        replace hY := F6.blkF hY (by intro h; simp only [one, two, none', rset] at h <;> omega)
        have hY1 := hY
        clear hT
        refine wl (ro_fieldAddr (k := 2) rfl fo_114_2) ?_
        refine wl_put rfl rfl rfl sz_109 hY ((by simp)) ((show _ = mec ⟨true, pat, some ⟨qb, 0, none⟩, (codeOf (child rc)).length, (codeOf (child rc)).length, 0, 0⟩ from rfl)) (fun w13 hY F13 => ?_)
        replace hF := hF.thenDrew.thenO F13 (by first | exact .inr (by omega) | exact .inl rfl | exact .inl (by assumption))
        replace hB := F13.blkO hB (by omega)
        replace hX := F13.blkO hX (by omega)
        replace hG := F13.blkO hG (by omega)
        replace R := R.framB (d := World.drawn _) F13 hY1 (by decide) (fun h => by have := ho.sm h; omega)
        refine wl_nil (x_then (hK12 _ _ ?_))
        clear hK12 K12
        refine forget [(0, _), (5, _)] ⟨rfl, rfl, trivial⟩ (fun e => ?_)
        refine c_seq (fun K14 hK14 => ?_)
        have hB7 := hB
        refine c_piL 9 [(0, false), (1, false), (2, false), (3, false), (4, false), (5, false), (6, false), (7, false), (8, false)] (SameH _) mixed (by kernel_rfl) rfl (by kernel_rfl) (po_then (po_bp)) (sameH_now _ _) ?_ -- region 7 memo.go:32
        refine ql_ro rfl (fun w hS => ro_move rfl) ?_
        refine ql_ro rfl (fun w hS => ro_move rfl) ?_
        refine ql_ro rfl (fun w hS => ro_nilCheck rfl) ?_
        refine ql_ro rfl (fun w hS => ro_fieldAddr (k := 3) rfl fo_117_3) ?_
        refine ql_ro rfl (fun w hS => ro_indexAddrA (et := 114) (k := 5) rfl rfl ar_115 ((show (0 : Int) = ((0 : Nat) : Int) from rfl)) ((by omega : 0 < 2))) ?_
        refine ql_ro rfl (fun w hS => ro_loadAggB rfl ag_114 (Blk.of_heap hB hS) (rfl) (rfl)) ?_
        refine ql_ro rfl (fun w hS => ro_nilCheck rfl) ?_
        refine ql_ro rfl (fun w hS => ro_fieldAddr (k := 3) rfl fo_117_3) ?_
        refine ql_ro rfl (fun w hS => ro_indexAddrA (et := 114) (k := 5) rfl rfl ar_115 ((show (1 : Int) = ((1 : Nat) : Int) from rfl)) ((by omega : 1 < 2))) ?_
        refine ql_puta rfl rfl rfl ((mec_cells ⟨_, p0, a0, l0, c0, e0, q0⟩)) sz_114 (rfl) hB ((by simp)) (rfl) (fun w14 hB F14 => ?_)
        replace hF := hF.thenDrew.thenO F14 (by first | exact .inr (by omega) | exact .inl rfl | exact .inl (by assumption))
        replace hX := F14.blkO hX (by omega)
        replace hY := F14.blkO hY (by omega)
        replace hG := F14.blkO hG (by omega)
        replace R := R.framB F14 hB7 (by decide) (fun h => by have := ho.sm h; omega)
        refine x_then (hK14 _ _ ?_)
        clear hK14 K14
        have hB8 := hB
        refine c_piL 5 [(0, false), (1, false), (2, false), (3, false), (4, false)] (SameH _) mixed (by kernel_rfl) rfl (by kernel_rfl) (po_bp) (sameH_now _ _) ?_ -- region 8 memo.go:33
        refine ql_ro rfl (fun w hS => ro_move rfl) ?_
        refine ql_ro rfl (fun w hS => ro_loadAggB rfl ag_114 (Blk.of_heap hY hS) (rfl) (rfl)) ?_
        refine ql_ro rfl (fun w hS => ro_nilCheck rfl) ?_
        refine ql_ro rfl (fun w hS => ro_fieldAddr (k := 3) rfl fo_117_3) ?_
        refine ql_ro rfl (fun w hS => ro_indexAddrA (et := 114) (k := 5) rfl rfl ar_115 ((show (0 : Int) = ((0 : Nat) : Int) from rfl)) ((by omega : 0 < 2))) ?_
        refine ql_puta rfl rfl rfl ((mec_cells ⟨true, pat, some ⟨qb, 0, none⟩, (codeOf (child rc)).length, (codeOf (child rc)).length, 0, 0⟩)) sz_114 (rfl) hB ((by simp)) (rfl) (fun w15 hB F15 => ?_)
        replace hF := hF.thenDrew.thenO F15 (by first | exact .inr (by omega) | exact .inl rfl | exact .inl (by assumption))
        replace hX := F15.blkO hX (by omega)
        replace hY := F15.blkO hY (by omega)
        replace hG := F15.blkO hG (by omega)
        replace R := R.framB F15 hB8 (by decide) (fun h => by have := ho.sm h; omega)
        refine ?_
        refine bp_end Tryz.results48 rfl ?_
        exact ⟨rfl, ⟨⟨true, pat, some ⟨qb, 0, none⟩, (codeOf (child rc)).length, (codeOf (child rc)).length, 0, 0⟩, ⟨_, p0, a0, l0, c0, e0, q0⟩, hB, ⟨rfl, rfl, by rw [hct]; exact ⟨rfl, rfl, qb, rfl, rfl, rfl, hG⟩⟩, R.a⟩, R.v, hF⟩
    · skip
      refine c_reg ?_ -- region 1 memo.go:23
      refine wl (ro_move rfl) ?_
      refine wl (ro_nilCheck rfl) ?_
      refine wl (ro_fieldAddr (k := 3) rfl fo_117_3) ?_
      refine wl (ro_indexAddrA (et := 114) (k := 5) rfl rfl ar_115 ((show (1 : Int) = ((1 : Nat) : Int) from rfl)) ((by omega : 1 < 2))) ?_
      refine wl (ro_fieldAddr (k := 0) rfl fo_114_0) ?_
      refine wl (ro_loadB rfl sc_4 (hB) (rfl)) ?_
      refine wl (ro_move rfl) ?_
      refine wlg_no rfl ?_
      refine wlg_no rfl ?_
      refine wlg_no rfl ?_
      refine wlg_no rfl ?_
      refine wlg_no rfl ?_
      refine wlg_no rfl ?_
      refine wlg_no rfl ?_
      refine wlg_no rfl ?_
      refine wl (ro_pick rfl rfl rfl) ?_
      refine wl_nil (x_then (hK4 _ _ ?_))
      clear hK4 K4
      refine wc_condF rfl ?_
      refine c_skip (x_then (hK3 _ _ ?_))
      clear hK3 K3
      refine forget [(0, _), (1, _)] ⟨rfl, rfl, trivial⟩ (fun e => ?_)
      refine c_seq (fun K15 hK15 => ?_)
      rcases hct : coreT pat with ec | ⟨rc, gc⟩
      · skip
        have hne := coreT_er hct
        refine c_reg ?_ -- region 3 memo.go:27
        refine wl (ro_move rfl) ?_
        refine wl (ro_nilCheck rfl) ?_
        refine wl (ro_fieldAddr (k := 0) rfl fo_117_0) ?_
        refine wl (ro_loadB rfl sc_44 (hB) (rfl)) ?_
        refine wl (ro_move rfl) ?_
        refine wl_call rfl en_57 (Core57 ho.d7 V (by omega)) ?_
        rintro v3 w3 ⟨hCV, V3, F3⟩
        replace h0 := h0.fram (d := World.drawn _) F3 V.no
        replace h1 := h1.fram (d := World.drawn _) F3 V.no
        have R : R3 w3 E.B _ _ := ⟨h0, h1, V3⟩
        clear h0 h1 V V3
        replace hB := F3.blkF hB (fun h => by have := ho.sm h; omega)
        replace hF := hF.trans' F3 (fun k _ h ↦ .inr h)
        rw [hct] at hCV
        first
          | (obtain rfl : v3 = .agg (erV ec).toArray := hCV)
          | (obtain ⟨nb, cc, hv3, hnb, hT, hAR⟩ := hCV
             rw [show icv ((nds (child rc) : Int) - 1) = i64c (nds (child rc) - 1 : Nat) from congrArg (Value.int .i64) (by have := nds_pos (child rc); omega)] at hv3
             subst hv3)
        refine wl_new (ze_151) (fun xb w16 hbxb hX F16 => ?_)
        have hbsxb := Nat.le_trans hF.size hbxb
        have hneE.ebxb : E.eb < xb := Nat.lt_of_lt_of_le hB.lt hbxb
        replace hF := hF.thenDrew.thenN F16
        replace hB := F16.blkN hB
        replace R := R.framN (d := World.drawn _) F16
        have hX0 := hX
        refine wl_puta rfl rfl (by simp [Value.oneCell', i64c, u64c, u8c, ptr]) sz_151 (rfl) hX ((by simp)) (rfl) (fun w17 hX F17 => ?_)
        replace hF := hF.thenDrew.thenO F17 (by first | exact .inr (by omega) | exact .inl rfl | exact .inl (by assumption))
        replace hB := F17.blkO hB (by omega)
        replace R := R.framB (d := World.drawn _) F17 hX0 (by decide) (fun h => by have := ho.sm h; omega)
        refine wl_nil (x_then (hK15 _ _ ?_))
        clear hK15 K15
        refine forget [(0, _), (1, _), (4, _)] ⟨rfl, rfl, rfl, trivial⟩ (fun e => ?_)
        refine c_seq (fun K16 hK16 => ?_)
        refine c_reg ?_ -- region 4 memo.go:28
        refine wl (ro_move rfl) ?_
        refine wl (ro_fieldAddr (k := 3) rfl fo_151_3) ?_
        refine wl (ro_loadB rfl sc_53 (hX) (rfl)) ?_
        refine wl (ro_fieldAddr (k := 4) rfl fo_151_4) ?_
        refine wl (ro_loadB rfl sc_3 (hX) (rfl)) ?_
        refine wl (ro_build rfl bld_114_0_1_3_4) ?_
        refine wl_new (ze_114) (fun yb w18 hbyb hY F18 => ?_)
        have hbsyb := Nat.le_trans hF.size hbyb
        have hneE.ebyb : E.eb < yb := Nat.lt_of_lt_of_le hB.lt hbyb
        have hnexbyb : xb < yb := Nat.lt_of_lt_of_le hX.lt hbyb
        replace hF := hF.thenDrew.thenN F18
        replace hB := F18.blkN hB
        replace hX := F18.blkN hX
        replace R := R.framN (d := World.drawn _) F18
        have hY0 := hY
        refine wl_puta rfl rfl ((mec_cells ⟨true, pat, none, 0, 0, ec.1, ec.2⟩)) sz_114 (rfl) hY ((by simp)) ((show _ = mec ⟨true, pat, none, 0, 0, ec.1, ec.2⟩ from rfl)) (fun w19 hY F19 => ?_)
        replace hF := hF.thenDrew.thenO F19 (by first | exact .inr (by omega) | exact .inl rfl | exact .inl (by assumption))
        replace hB := F19.blkO hB (by omega)
        replace hX := F19.blkO hX (by omega)
        replace R := R.framB (d := World.drawn _) F19 hY0 (by decide) (fun h => by have := ho.sm h; omega)
        refine wl_nil (x_then (hK16 _ _ ?_))
        clear hK16 K16
        refine c_seq (fun K17 hK17 => ?_)
        refine c_seq (fun K18 hK18 => ?_)
        refine c_reg ?_ -- region 5 memo.go:29
        refine wl (ro_fieldAddr (k := 3) rfl fo_151_3) ?_
        refine wl (ro_loadB rfl sc_53 (hX) (rfl)) ?_
        refine wl (ro_cmp (r := false) rfl rfl (congrArg some ((beqc ec.1 0).trans (decide_eq_false hne)))) ?_
        refine wl_nil (x_then (hK18 _ _ ?_))
        clear hK18 K18
        refine wc_condF rfl ?_
        refine c_skip (x_then (hK17 _ _ ?_))
        clear hK17 K17
        refine forget [(0, _), (5, _)] ⟨rfl, rfl, trivial⟩ (fun e => ?_)
        refine c_seq (fun K19 hK19 => ?_)
        have hB7 := hB
        refine c_piL 9 [(0, false), (1, false), (2, false), (3, false), (4, false), (5, false), (6, false), (7, false), (8, false)] (SameH _) mixed (by kernel_rfl) rfl (by kernel_rfl) (po_then (po_bp)) (sameH_now _ _) ?_ -- region 7 memo.go:32
        refine ql_ro rfl (fun w hS => ro_move rfl) ?_
        refine ql_ro rfl (fun w hS => ro_move rfl) ?_
        refine ql_ro rfl (fun w hS => ro_nilCheck rfl) ?_
        refine ql_ro rfl (fun w hS => ro_fieldAddr (k := 3) rfl fo_117_3) ?_
        refine ql_ro rfl (fun w hS => ro_indexAddrA (et := 114) (k := 5) rfl rfl ar_115 ((show (0 : Int) = ((0 : Nat) : Int) from rfl)) ((by omega : 0 < 2))) ?_
        refine ql_ro rfl (fun w hS => ro_loadAggB rfl ag_114 (Blk.of_heap hB hS) (rfl) (rfl)) ?_
        refine ql_ro rfl (fun w hS => ro_nilCheck rfl) ?_
        refine ql_ro rfl (fun w hS => ro_fieldAddr (k := 3) rfl fo_117_3) ?_
        refine ql_ro rfl (fun w hS => ro_indexAddrA (et := 114) (k := 5) rfl rfl ar_115 ((show (1 : Int) = ((1 : Nat) : Int) from rfl)) ((by omega : 1 < 2))) ?_
        refine ql_puta rfl rfl rfl ((mec_cells ⟨_, p0, a0, l0, c0, e0, q0⟩)) sz_114 (rfl) hB ((by simp)) (rfl) (fun w20 hB F20 => ?_)
        replace hF := hF.thenDrew.thenO F20 (by first | exact .inr (by omega) | exact .inl rfl | exact .inl (by assumption))
        replace hX := F20.blkO hX (by omega)
        replace hY := F20.blkO hY (by omega)
        replace R := R.framB F20 hB7 (by decide) (fun h => by have := ho.sm h; omega)
        refine x_then (hK19 _ _ ?_)
        clear hK19 K19
        have hB8 := hB
        refine c_piL 5 [(0, false), (1, false), (2, false), (3, false), (4, false)] (SameH _) mixed (by kernel_rfl) rfl (by kernel_rfl) (po_bp) (sameH_now _ _) ?_ -- region 8 memo.go:33
        refine ql_ro rfl (fun w hS => ro_move rfl) ?_
        refine ql_ro rfl (fun w hS => ro_loadAggB rfl ag_114 (Blk.of_heap hY hS) (rfl) (rfl)) ?_
        refine ql_ro rfl (fun w hS => ro_nilCheck rfl) ?_
        refine ql_ro rfl (fun w hS => ro_fieldAddr (k := 3) rfl fo_117_3) ?_
        refine ql_ro rfl (fun w hS => ro_indexAddrA (et := 114) (k := 5) rfl rfl ar_115 ((show (0 : Int) = ((0 : Nat) : Int) from rfl)) ((by omega : 0 < 2))) ?_
        refine ql_puta rfl rfl rfl ((mec_cells ⟨true, pat, none, 0, 0, ec.1, ec.2⟩)) sz_114 (rfl) hB ((by simp)) (rfl) (fun w21 hB F21 => ?_)
        replace hF := hF.thenDrew.thenO F21 (by first | exact .inr (by omega) | exact .inl rfl | exact .inl (by assumption))
        replace hX := F21.blkO hX (by omega)
        replace hY := F21.blkO hY (by omega)
        replace R := R.framB F21 hB8 (by decide) (fun h => by have := ho.sm h; omega)
        refine ?_
        refine bp_end Tryz.results48 rfl ?_
        exact ⟨rfl, ⟨⟨true, pat, none, 0, 0, ec.1, ec.2⟩, ⟨_, p0, a0, l0, c0, e0, q0⟩, hB, ⟨rfl, rfl, by rw [hct]; exact ⟨rfl, rfl⟩⟩, R.a⟩, R.v, hF⟩
      · skip
        obtain ⟨hpt, hwf, hn24, hn31⟩ := coreT_ok hct
        refine c_reg ?_ -- region 3 memo.go:27
        refine wl (ro_move rfl) ?_
        refine wl (ro_nilCheck rfl) ?_
        refine wl (ro_fieldAddr (k := 0) rfl fo_117_0) ?_
        refine wl (ro_loadB rfl sc_44 (hB) (rfl)) ?_
        refine wl (ro_move rfl) ?_
        refine wl_call rfl en_57 (Core57 ho.d7 V (by omega)) ?_
        rintro v3 w3 ⟨hCV, V3, F3⟩
        replace h0 := h0.fram (d := World.drawn _) F3 V.no
        replace h1 := h1.fram (d := World.drawn _) F3 V.no
        have R : R3 w3 E.B _ _ := ⟨h0, h1, V3⟩
        clear h0 h1 V V3
        replace hB := F3.blkF hB (fun h => by have := ho.sm h; omega)
        replace hF := hF.trans' F3 (fun k _ h ↦ .inr h)
        rw [hct] at hCV
        first
          | (obtain rfl : v3 = .agg (erV ec).toArray := hCV)
          | (obtain ⟨nb, cc, hv3, hnb, hT, hAR⟩ := hCV
             rw [show icv ((nds (child rc) : Int) - 1) = i64c (nds (child rc) - 1 : Nat) from congrArg (Value.int .i64) (by have := nds_pos (child rc); omega)] at hv3
             subst hv3)
        refine wl_new (ze_151) (fun xb w22 hbxb hX F22 => ?_)
        have hbsxb := Nat.le_trans hF.size hbxb
        have hneE.ebxb : E.eb < xb := Nat.lt_of_lt_of_le hB.lt hbxb
        replace hF := hF.thenDrew.thenN F22
        replace hB := F22.blkN hB
        replace R := R.framN (d := World.drawn _) F22
        have hX0 := hX
        have hnx : nb < xb := Nat.lt_of_lt_of_le hT.lt hbxb
        replace hT := F22.blkN hT
        refine wl_puta rfl rfl (by simp [Value.oneCell', i64c, u64c, u8c, ptr]) sz_151 (rfl) hX ((by simp)) (rfl) (fun w23 hX F23 => ?_)
        replace hF := hF.thenDrew.thenO F23 (by first | exact .inr (by omega) | exact .inl rfl | exact .inl (by assumption))
        replace hB := F23.blkO hB (by omega)
        replace R := R.framB (d := World.drawn _) F23 hX0 (by decide) (fun h => by have := ho.sm h; omega)
        replace hT := F23.blkO hT (by omega)
        refine wl_nil (x_then (hK15 _ _ ?_))
        clear hK15 K15
        refine forget [(0, _), (1, _), (4, _)] ⟨rfl, rfl, rfl, trivial⟩ (fun e => ?_)
        refine c_seq (fun K20 hK20 => ?_)
        refine c_reg ?_ -- region 4 memo.go:28
        refine wl (ro_move rfl) ?_
        refine wl (ro_fieldAddr (k := 3) rfl fo_151_3) ?_
        refine wl (ro_loadB rfl sc_53 (hX) (rfl)) ?_
        refine wl (ro_fieldAddr (k := 4) rfl fo_151_4) ?_
        refine wl (ro_loadB rfl sc_3 (hX) (rfl)) ?_
        refine wl (ro_build rfl bld_114_0_1_3_4) ?_
        refine wl_new (ze_114) (fun yb w24 hbyb hY F24 => ?_)
        have hbsyb := Nat.le_trans hF.size hbyb
        have hneE.ebyb : E.eb < yb := Nat.lt_of_lt_of_le hB.lt hbyb
        have hnexbyb : xb < yb := Nat.lt_of_lt_of_le hX.lt hbyb
        replace hF := hF.thenDrew.thenN F24
        replace hB := F24.blkN hB
        replace hX := F24.blkN hX
        replace R := R.framN (d := World.drawn _) F24
        have hY0 := hY
        have hny : nb < yb := Nat.lt_of_lt_of_le hT.lt hbyb
        replace hT := F24.blkN hT
        refine wl_puta rfl rfl ((mec_cells ⟨true, pat, none, 0, 0, 0, 0⟩)) sz_114 (rfl) hY ((by simp)) ((show _ = mec ⟨true, pat, none, 0, 0, 0, 0⟩ from rfl)) (fun w25 hY F25 => ?_)
        replace hF := hF.thenDrew.thenO F25 (by first | exact .inr (by omega) | exact .inl rfl | exact .inl (by assumption))
        replace hB := F25.blkO hB (by omega)
        replace hX := F25.blkO hX (by omega)
        replace R := R.framB (d := World.drawn _) F25 hY0 (by decide) (fun h => by have := ho.sm h; omega)
        replace hT := F25.blkO hT (by omega)
        refine wl_nil (x_then (hK20 _ _ ?_))
        clear hK20 K20
        refine c_seq (fun K21 hK21 => ?_)
        refine c_seq (fun K22 hK22 => ?_)
        refine c_reg ?_ -- region 5 memo.go:29
        refine wl (ro_fieldAddr (k := 3) rfl fo_151_3) ?_
        refine wl (ro_loadB rfl sc_53 (hX) (rfl)) ?_
        refine wl (ro_cmp (r := true) rfl rfl rfl) ?_
        refine wl_nil (x_then (hK22 _ _ ?_))
        clear hK22 K22
        refine wc_condT rfl ?_
        refine c_reg ?_ -- region 6 memo.go:30
        refine wl (ro_loadAggB rfl ag_151 (hX) (rfl) (rfl)) ?_
        refine wl_call rfl en_58 (compile58 (g := gc) hT hAR hn31 (fun x hx ↦ by have := hwf.gs (gs_child hx); omega)) ?_
        rintro _ w6 ⟨qb, rfl, hqb, hG, F6⟩
        have hqy : yb < qb := by have := hY.lt; omega
        have hqe : E.eb < qb := by have := hB.lt; omega
        replace R := R.framN (d := World.drawn _) F6
        replace hF := hF.transG F6 (by intro k hk h; simp only [one, two, none', rset] at h ⊢ <;> omega)
        replace hB := F6.blkF hB (by intro h; simp only [one, two, none', rset] at h <;> omega)
        replace hX := F6.blkF hX (by intro h; simp only [one, two, none', rset] at h <;> omega)
        replace hY := F6.blkF hY (by intro h; simp only [one, two, none', rset] at h <;> omega)
        have hY1 := hY
        clear hT
        refine wl (ro_fieldAddr (k := 2) rfl fo_114_2) ?_
        refine wl_put rfl rfl rfl sz_109 hY ((by simp)) ((show _ = mec ⟨true, pat, some ⟨qb, 0, none⟩, (codeOf (child rc)).length, (codeOf (child rc)).length, 0, 0⟩ from rfl)) (fun w26 hY F26 => ?_)
        replace hF := hF.thenDrew.thenO F26 (by first | exact .inr (by omega) | exact .inl rfl | exact .inl (by assumption))
        replace hB := F26.blkO hB (by omega)
        replace hX := F26.blkO hX (by omega)
        replace hG := F26.blkO hG (by omega)
        replace R := R.framB (d := World.drawn _) F26 hY1 (by decide) (fun h => by have := ho.sm h; omega)
        refine wl_nil (x_then (hK21 _ _ ?_))
        clear hK21 K21
        refine forget [(0, _), (5, _)] ⟨rfl, rfl, trivial⟩ (fun e => ?_)
        refine c_seq (fun K23 hK23 => ?_)
        have hB7 := hB
        refine c_piL 9 [(0, false), (1, false), (2, false), (3, false), (4, false), (5, false), (6, false), (7, false), (8, false)] (SameH _) mixed (by kernel_rfl) rfl (by kernel_rfl) (po_then (po_bp)) (sameH_now _ _) ?_ -- region 7 memo.go:32
        refine ql_ro rfl (fun w hS => ro_move rfl) ?_
        refine ql_ro rfl (fun w hS => ro_move rfl) ?_
        refine ql_ro rfl (fun w hS => ro_nilCheck rfl) ?_
        refine ql_ro rfl (fun w hS => ro_fieldAddr (k := 3) rfl fo_117_3) ?_
        refine ql_ro rfl (fun w hS => ro_indexAddrA (et := 114) (k := 5) rfl rfl ar_115 ((show (0 : Int) = ((0 : Nat) : Int) from rfl)) ((by omega : 0 < 2))) ?_
        refine ql_ro rfl (fun w hS => ro_loadAggB rfl ag_114 (Blk.of_heap hB hS) (rfl) (rfl)) ?_
        refine ql_ro rfl (fun w hS => ro_nilCheck rfl) ?_
        refine ql_ro rfl (fun w hS => ro_fieldAddr (k := 3) rfl fo_117_3) ?_
        refine ql_ro rfl (fun w hS => ro_indexAddrA (et := 114) (k := 5) rfl rfl ar_115 ((show (1 : Int) = ((1 : Nat) : Int) from rfl)) ((by omega : 1 < 2))) ?_
        refine ql_puta rfl rfl rfl ((mec_cells ⟨_, p0, a0, l0, c0, e0, q0⟩)) sz_114 (rfl) hB ((by simp)) (rfl) (fun w27 hB F27 => ?_)
        replace hF := hF.thenDrew.thenO F27 (by first | exact .inr (by omega) | exact .inl rfl | exact .inl (by assumption))
        replace hX := F27.blkO hX (by omega)
        replace hY := F27.blkO hY (by omega)
        replace hG := F27.blkO hG (by omega)
        replace R := R.framB F27 hB7 (by decide) (fun h => by have := ho.sm h; omega)
        refine x_then (hK23 _ _ ?_)
        clear hK23 K23
        have hB8 := hB
        refine c_piL 5 [(0, false), (1, false), (2, false), (3, false), (4, false)] (SameH _) mixed (by kernel_rfl) rfl (by kernel_rfl) (po_bp) (sameH_now _ _) ?_ -- region 8 memo.go:33
        refine ql_ro rfl (fun w hS => ro_move rfl) ?_
        refine ql_ro rfl (fun w hS => ro_loadAggB rfl ag_114 (Blk.of_heap hY hS) (rfl) (rfl)) ?_
        refine ql_ro rfl (fun w hS => ro_nilCheck rfl) ?_
        refine ql_ro rfl (fun w hS => ro_fieldAddr (k := 3) rfl fo_117_3) ?_
        refine ql_ro rfl (fun w hS => ro_indexAddrA (et := 114) (k := 5) rfl rfl ar_115 ((show (0 : Int) = ((0 : Nat) : Int) from rfl)) ((by omega : 0 < 2))) ?_
        refine ql_puta rfl rfl rfl ((mec_cells ⟨true, pat, some ⟨qb, 0, none⟩, (codeOf (child rc)).length, (codeOf (child rc)).length, 0, 0⟩)) sz_114 (rfl) hB ((by simp)) (rfl) (fun w28 hB F28 => ?_)
        replace hF := hF.thenDrew.thenO F28 (by first | exact .inr (by omega) | exact .inl rfl | exact .inl (by assumption))
        replace hX := F28.blkO hX (by omega)
        replace hY := F28.blkO hY (by omega)
        replace hG := F28.blkO hG (by omega)
        replace R := R.framB F28 hB8 (by decide) (fun h => by have := ho.sm h; omega)
        refine ?_
        refine bp_end Tryz.results48 rfl ?_
        exact ⟨rfl, ⟨⟨true, pat, some ⟨qb, 0, none⟩, (codeOf (child rc)).length, (codeOf (child rc)).length, 0, 0⟩, ⟨_, p0, a0, l0, c0, e0, q0⟩, hB, ⟨rfl, rfl, by rw [hct]; exact ⟨rfl, rfl, qb, rfl, rfl, rfl, hG⟩⟩, R.a⟩, R.v, hF⟩
  · skip
    refine c_reg ?_ -- region 0 memo.go:20
    refine wl (ro_move rfl) ?_
    refine wl (ro_nilCheck rfl) ?_
    refine wl (ro_fieldAddr (k := 3) rfl fo_117_3) ?_
    refine wl (ro_indexAddrA (et := 114) (k := 5) rfl rfl ar_115 ((show (0 : Int) = ((0 : Nat) : Int) from rfl)) ((by omega : 0 < 2))) ?_
    refine wl (ro_fieldAddr (k := 0) rfl fo_114_0) ?_
    refine wl (ro_loadB rfl sc_4 (hB) (rfl)) ?_
    refine wl (ro_move rfl) ?_
    refine wlg_no rfl ?_
    refine wlg_no rfl ?_
    refine wlg_no rfl ?_
    refine wlg_no rfl ?_
    refine wlg_no rfl ?_
    refine wlg_no rfl ?_
    refine wlg_no rfl ?_
    refine wlg_no rfl ?_
    refine wl (ro_pick rfl rfl rfl) ?_
    refine wl_nil (x_then (hK2 _ _ ?_))
    clear hK2 K2
    refine wc_condF rfl ?_
    refine c_skip (x_then (hK1 _ _ ?_))
    clear hK1 K1
    refine c_seq (fun K24 hK24 => ?_)
    refine c_seq (fun K25 hK25 => ?_)
    have hq1 : (u1 = true ∧ p1 = pat) ∨ (u1 = true ∧ p1 ≠ pat) ∨ u1 = false := by
      cases u1 with
      | false => exact .inr (.inr rfl)
      | true => by_cases h : p1 = pat; exact .inl ⟨rfl, h⟩; exact .inr (.inl ⟨rfl, h⟩)
    rcases hq1 with ⟨rfl, hp1⟩ | ⟨rfl, hp1⟩ | rfl
    · skip
      have hB2 := hB
      refine c_reg ?_ -- region 1 memo.go:23
      refine wl (ro_move rfl) ?_
      refine wl (ro_nilCheck rfl) ?_
      refine wl (ro_fieldAddr (k := 3) rfl fo_117_3) ?_
      refine wl (ro_indexAddrA (et := 114) (k := 5) rfl rfl ar_115 ((show (1 : Int) = ((1 : Nat) : Int) from rfl)) ((by omega : 1 < 2))) ?_
      refine wl (ro_fieldAddr (k := 0) rfl fo_114_0) ?_
      refine wl (ro_loadB rfl sc_4 (hB) (rfl)) ?_
      refine wl (ro_move rfl) ?_
      refine wlg_yes rfl (ro_move rfl) ?_
      refine wlg_yes rfl (ro_nilCheck rfl) ?_
      refine wlg_yes rfl (ro_fieldAddr (k := 3) rfl fo_117_3) ?_
      refine wlg_yes rfl (ro_indexAddrA (et := 114) (k := 5) rfl rfl ar_115 ((show (1 : Int) = ((1 : Nat) : Int) from rfl)) ((by omega : 1 < 2))) ?_
      refine wlg_yes rfl (ro_fieldAddr (k := 1) rfl fo_114_1) ?_
      refine wlg_yes rfl (ro_loadB rfl sc_9 (hB) (rfl)) ?_
      refine wlg_yes rfl (ro_move rfl) ?_
      refine wlg_yes rfl (ro_eqS (l := p1) (m := pat) (r := true) rfl rfl (congrArg some (by simpa using hp1))) ?_
      refine wl (ro_pick rfl rfl rfl) ?_
      refine wl_nil (x_then (hK25 _ _ ?_))
      clear hK25 K25
      refine wc_condT rfl ?_
      refine c_seq (fun K26 hK26 => ?_)
      refine c_piB [15, 19] [(0, 1), (1, 1), (2, 1), (3, 1), (4, 1), (5, 1), (6, 0), (7, 1), (8, 1), (9, 1), (10, 1), (11, 0), (12, 1), (13, 1), (14, 1), (16, 1), (17, 1), (15, 2), (18, 1), (19, 2)] (SameH _) mixed (by kernel_rfl) rfl (by kernel_rfl) (po_then (po_then (po_bp))) (sameH_now _ _) ?_ -- region 2 memo.go:24
      refine pb_ro1 rfl (fun w => ro_move rfl) ?_
      refine pb_ro1 rfl (fun w => ro_move rfl) ?_
      refine pb_ro1 rfl (fun w => ro_move rfl) ?_
      refine pb_ro1 rfl (fun w => ro_nilCheck rfl) ?_
      refine pb_ro1 rfl (fun w => ro_fieldAddr (k := 3) rfl fo_117_3) ?_
      refine pb_ro1 rfl (fun w => ro_indexAddrA (et := 114) (k := 5) rfl rfl ar_115 ((show (1 : Int) = ((1 : Nat) : Int) from rfl)) ((by omega : 1 < 2))) ?_
      refine pb_ro0 rfl (fun w hS => ro_loadAggB rfl ag_114 (Blk.of_heap hB hS) (rfl) (rfl)) ?_
      refine pb_ro1 rfl (fun w => ro_move rfl) ?_
      refine pb_ro1 rfl (fun w => ro_nilCheck rfl) ?_
      refine pb_ro1 rfl (fun w => ro_fieldAddr (k := 3) rfl fo_117_3) ?_
      refine pb_ro1 rfl (fun w => ro_indexAddrA (et := 114) (k := 5) rfl rfl ar_115 ((show (0 : Int) = ((0 : Nat) : Int) from rfl)) ((by omega : 0 < 2))) ?_
      refine pb_ro0 rfl (fun w hS => ro_loadAggB rfl ag_114 (Blk.of_heap hB hS) (rfl) (rfl)) ?_
      refine pb_ro1 rfl (fun w => ro_nilCheck rfl) ?_
      refine pb_ro1 rfl (fun w => ro_fieldAddr (k := 3) rfl fo_117_3) ?_
      refine pb_ro1 rfl (fun w => ro_indexAddrA (et := 114) (k := 5) rfl rfl ar_115 ((show (0 : Int) = ((0 : Nat) : Int) from rfl)) ((by omega : 0 < 2))) ?_
      refine pb_ro1 rfl (fun w => ro_nilCheck rfl) ?_
      refine pb_ro1 rfl (fun w => ro_fieldAddr (k := 3) rfl fo_117_3) ?_
      refine pb_puta rfl rfl rfl ((mec_cells ⟨true, p1, a1, l1, c1, e1, q1⟩)) sz_114 (rfl) hB ((by simp)) (rfl) (fun w29 hB F29 => ?_)
      replace hF := hF.thenDrew.thenO F29 (by first | exact .inr (by omega) | exact .inl rfl | exact .inl (by assumption))
      have hB3 := hB
      replace h0 := h0.fram F29 (h175 w ⟨_, hB2⟩)
      replace h1 := h1.fram F29 (h175 w ⟨_, hB2⟩)
      replace V := V.fram F29 hse
      refine pb_ro1 rfl (fun w => ro_indexAddrA (et := 114) (k := 5) rfl rfl ar_115 ((show (1 : Int) = ((1 : Nat) : Int) from rfl)) ((by omega : 1 < 2))) ?_
      refine pb_puta rfl rfl rfl ((mec_cells ⟨_, p0, a0, l0, c0, e0, q0⟩)) sz_114 (rfl) hB ((by simp)) (rfl) (fun w30 hB F30 => ?_)
      replace hF := hF.thenDrew.thenO F30 (by first | exact .inr (by omega) | exact .inl rfl | exact .inl (by assumption))
      replace h0 := h0.fram (d := World.drawn _) F30 (h175 _ ⟨_, hB3⟩)
      replace h1 := h1.fram (d := World.drawn _) F30 (h175 _ ⟨_, hB3⟩)
      replace V := V.fram (d := World.drawn _) F30 hse
      refine pb_nil (x_then (hK26 _ _ ?_))
      clear hK26 K26
      refine c_ret (x_thenR ?_)
      refine bp_ret Tryz.results48 rfl ?_
      exact ⟨rfl, ⟨⟨true, p1, a1, l1, c1, e1, q1⟩, ⟨_, p0, a0, l0, c0, e0, q0⟩, hB, by subst hp1; exact h1 rfl, h0⟩, V, hF⟩
    · skip
      refine c_reg ?_ -- region 1 memo.go:23
      refine wl (ro_move rfl) ?_
      refine wl (ro_nilCheck rfl) ?_
      refine wl (ro_fieldAddr (k := 3) rfl fo_117_3) ?_
      refine wl (ro_indexAddrA (et := 114) (k := 5) rfl rfl ar_115 ((show (1 : Int) = ((1 : Nat) : Int) from rfl)) ((by omega : 1 < 2))) ?_
      refine wl (ro_fieldAddr (k := 0) rfl fo_114_0) ?_
      refine wl (ro_loadB rfl sc_4 (hB) (rfl)) ?_
      refine wl (ro_move rfl) ?_
      refine wlg_yes rfl (ro_move rfl) ?_
      refine wlg_yes rfl (ro_nilCheck rfl) ?_
      refine wlg_yes rfl (ro_fieldAddr (k := 3) rfl fo_117_3) ?_
      refine wlg_yes rfl (ro_indexAddrA (et := 114) (k := 5) rfl rfl ar_115 ((show (1 : Int) = ((1 : Nat) : Int) from rfl)) ((by omega : 1 < 2))) ?_
      refine wlg_yes rfl (ro_fieldAddr (k := 1) rfl fo_114_1) ?_
      refine wlg_yes rfl (ro_loadB rfl sc_9 (hB) (rfl)) ?_
      refine wlg_yes rfl (ro_move rfl) ?_
      refine wlg_yes rfl (ro_eqS (l := p1) (m := pat) (r := false) rfl rfl (congrArg some (by simpa using hp1))) ?_
      refine wl (ro_pick rfl rfl rfl) ?_
      refine wl_nil (x_then (hK25 _ _ ?_))
      clear hK25 K25
      refine wc_condF rfl ?_
      refine c_skip (x_then (hK24 _ _ ?_))
      clear hK24 K24
      refine forget [(0, _), (1, _)] ⟨rfl, rfl, trivial⟩ (fun e => ?_)
      refine c_seq (fun K27 hK27 => ?_)
      rcases hct : coreT pat with ec | ⟨rc, gc⟩
      · skip
        have hne := coreT_er hct
        refine c_reg ?_ -- region 3 memo.go:27
        refine wl (ro_move rfl) ?_
        refine wl (ro_nilCheck rfl) ?_
        refine wl (ro_fieldAddr (k := 0) rfl fo_117_0) ?_
        refine wl (ro_loadB rfl sc_44 (hB) (rfl)) ?_
        refine wl (ro_move rfl) ?_
        refine wl_call rfl en_57 (Core57 ho.d7 V (by omega)) ?_
        rintro v3 w3 ⟨hCV, V3, F3⟩
        replace h0 := h0.fram (d := World.drawn _) F3 V.no
        replace h1 := h1.fram (d := World.drawn _) F3 V.no
        have R : R3 w3 E.B _ _ := ⟨h0, h1, V3⟩
        clear h0 h1 V V3
        replace hB := F3.blkF hB (fun h => by have := ho.sm h; omega)
        replace hF := hF.trans' F3 (fun k _ h ↦ .inr h)
        rw [hct] at hCV
        first
          | (obtain rfl : v3 = .agg (erV ec).toArray := hCV)
          | (obtain ⟨nb, cc, hv3, hnb, hT, hAR⟩ := hCV
             rw [show icv ((nds (child rc) : Int) - 1) = i64c (nds (child rc) - 1 : Nat) from congrArg (Value.int .i64) (by have := nds_pos (child rc); omega)] at hv3
             subst hv3)
        refine wl_new (ze_151) (fun xb w31 hbxb hX F31 => ?_)
        have hbsxb := Nat.le_trans hF.size hbxb
        have hneE.ebxb : E.eb < xb := Nat.lt_of_lt_of_le hB.lt hbxb
        replace hF := hF.thenDrew.thenN F31
        replace hB := F31.blkN hB
        replace R := R.framN (d := World.drawn _) F31
        have hX0 := hX
        refine wl_puta rfl rfl (by simp [Value.oneCell', i64c, u64c, u8c, ptr]) sz_151 (rfl) hX ((by simp)) (rfl) (fun w32 hX F32 => ?_)
        replace hF := hF.thenDrew.thenO F32 (by first | exact .inr (by omega) | exact .inl rfl | exact .inl (by assumption))
        replace hB := F32.blkO hB (by omega)
        replace R := R.framB (d := World.drawn _) F32 hX0 (by decide) (fun h => by have := ho.sm h; omega)
        refine wl_nil (x_then (hK27 _ _ ?_))
        clear hK27 K27
        refine forget [(0, _), (1, _), (4, _)] ⟨rfl, rfl, rfl, trivial⟩ (fun e => ?_)
        refine c_seq (fun K28 hK28 => ?_)
        refine c_reg ?_ -- region 4 memo.go:28
        refine wl (ro_move rfl) ?_
        refine wl (ro_fieldAddr (k := 3) rfl fo_151_3) ?_
        refine wl (ro_loadB rfl sc_53 (hX) (rfl)) ?_
        refine wl (ro_fieldAddr (k := 4) rfl fo_151_4) ?_
        refine wl (ro_loadB rfl sc_3 (hX) (rfl)) ?_
        refine wl (ro_build rfl bld_114_0_1_3_4) ?_
        refine wl_new (ze_114) (fun yb w33 hbyb hY F33 => ?_)
        have hbsyb := Nat.le_trans hF.size hbyb
        have hneE.ebyb : E.eb < yb := Nat.lt_of_lt_of_le hB.lt hbyb
        have hnexbyb : xb < yb := Nat.lt_of_lt_of_le hX.lt hbyb
        replace hF := hF.thenDrew.thenN F33
        replace hB := F33.blkN hB
        replace hX := F33.blkN hX
        replace R := R.framN (d := World.drawn _) F33
        have hY0 := hY
        refine wl_puta rfl rfl ((mec_cells ⟨true, pat, none, 0, 0, ec.1, ec.2⟩)) sz_114 (rfl) hY ((by simp)) ((show _ = mec ⟨true, pat, none, 0, 0, ec.1, ec.2⟩ from rfl)) (fun w34 hY F34 => ?_)
        replace hF := hF.thenDrew.thenO F34 (by first | exact .inr (by omega) | exact .inl rfl | exact .inl (by assumption))
        replace hB := F34.blkO hB (by omega)
        replace hX := F34.blkO hX (by omega)
        replace R := R.framB (d := World.drawn _) F34 hY0 (by decide) (fun h => by have := ho.sm h; omega)
        refine wl_nil (x_then (hK28 _ _ ?_))
        clear hK28 K28
        refine c_seq (fun K29 hK29 => ?_)
        refine c_seq (fun K30 hK30 => ?_)
        refine c_reg ?_ -- region 5 memo.go:29
        refine wl (ro_fieldAddr (k := 3) rfl fo_151_3) ?_
        refine wl (ro_loadB rfl sc_53 (hX) (rfl)) ?_
        refine wl (ro_cmp (r := false) rfl rfl (congrArg some ((beqc ec.1 0).trans (decide_eq_false hne)))) ?_
        refine wl_nil (x_then (hK30 _ _ ?_))
        clear hK30 K30
        refine wc_condF rfl ?_
        refine c_skip (x_then (hK29 _ _ ?_))
        clear hK29 K29
        refine forget [(0, _), (5, _)] ⟨rfl, rfl, trivial⟩ (fun e => ?_)
        refine c_seq (fun K31 hK31 => ?_)
        have hB7 := hB
        refine c_piL 9 [(0, false), (1, false), (2, false), (3, false), (4, false), (5, false), (6, false), (7, false), (8, false)] (SameH _) mixed (by kernel_rfl) rfl (by kernel_rfl) (po_then (po_bp)) (sameH_now _ _) ?_ -- region 7 memo.go:32
        refine ql_ro rfl (fun w hS => ro_move rfl) ?_
        refine ql_ro rfl (fun w hS => ro_move rfl) ?_
        refine ql_ro rfl (fun w hS => ro_nilCheck rfl) ?_
        refine ql_ro rfl (fun w hS => ro_fieldAddr (k := 3) rfl fo_117_3) ?_
        refine ql_ro rfl (fun w hS => ro_indexAddrA (et := 114) (k := 5) rfl rfl ar_115 ((show (0 : Int) = ((0 : Nat) : Int) from rfl)) ((by omega : 0 < 2))) ?_
        refine ql_ro rfl (fun w hS => ro_loadAggB rfl ag_114 (Blk.of_heap hB hS) (rfl) (rfl)) ?_
        refine ql_ro rfl (fun w hS => ro_nilCheck rfl) ?_
        refine ql_ro rfl (fun w hS => ro_fieldAddr (k := 3) rfl fo_117_3) ?_
        refine ql_ro rfl (fun w hS => ro_indexAddrA (et := 114) (k := 5) rfl rfl ar_115 ((show (1 : Int) = ((1 : Nat) : Int) from rfl)) ((by omega : 1 < 2))) ?_
        refine ql_puta rfl rfl rfl ((mec_cells ⟨_, p0, a0, l0, c0, e0, q0⟩)) sz_114 (rfl) hB ((by simp)) (rfl) (fun w35 hB F35 => ?_)
        replace hF := hF.thenDrew.thenO F35 (by first | exact .inr (by omega) | exact .inl rfl | exact .inl (by assumption))
        replace hX := F35.blkO hX (by omega)
        replace hY := F35.blkO hY (by omega)
        replace R := R.framB F35 hB7 (by decide) (fun h => by have := ho.sm h; omega)
        refine x_then (hK31 _ _ ?_)
        clear hK31 K31
        have hB8 := hB
        refine c_piL 5 [(0, false), (1, false), (2, false), (3, false), (4, false)] (SameH _) mixed (by kernel_rfl) rfl (by kernel_rfl) (po_bp) (sameH_now _ _) ?_ -- region 8 memo.go:33
        refine ql_ro rfl (fun w hS => ro_move rfl) ?_
        refine ql_ro rfl (fun w hS => ro_loadAggB rfl ag_114 (Blk.of_heap hY hS) (rfl) (rfl)) ?_
        refine ql_ro rfl (fun w hS => ro_nilCheck rfl) ?_
        refine ql_ro rfl (fun w hS => ro_fieldAddr (k := 3) rfl fo_117_3) ?_
        refine ql_ro rfl (fun w hS => ro_indexAddrA (et := 114) (k := 5) rfl rfl ar_115 ((show (0 : Int) = ((0 : Nat) : Int) from rfl)) ((by omega : 0 < 2))) ?_
        refine ql_puta rfl rfl rfl ((mec_cells ⟨true, pat, none, 0, 0, ec.1, ec.2⟩)) sz_114 (rfl) hB ((by simp)) (rfl) (fun w36 hB F36 => ?_)
        replace hF := hF.thenDrew.thenO F36 (by first | exact .inr (by omega) | exact .inl rfl | exact .inl (by assumption))
        replace hX := F36.blkO hX (by omega)
        replace hY := F36.blkO hY (by omega)
        replace R := R.framB F36 hB8 (by decide) (fun h => by have := ho.sm h; omega)
        refine ?_
        refine bp_end Tryz.results48 rfl ?_
        exact ⟨rfl, ⟨⟨true, pat, none, 0, 0, ec.1, ec.2⟩, ⟨_, p0, a0, l0, c0, e0, q0⟩, hB, ⟨rfl, rfl, by rw [hct]; exact ⟨rfl, rfl⟩⟩, R.a⟩, R.v, hF⟩
      · skip
        obtain ⟨hpt, hwf, hn24, hn31⟩ := coreT_ok hct
        refine c_reg ?_ -- region 3 memo.go:27
        refine wl (ro_move rfl) ?_
        refine wl (ro_nilCheck rfl) ?_
        refine wl (ro_fieldAddr (k := 0) rfl fo_117_0) ?_
        refine wl (ro_loadB rfl sc_44 (hB) (rfl)) ?_
        refine wl (ro_move rfl) ?_
        refine wl_call rfl en_57 (Core57 ho.d7 V (by omega)) ?_
        rintro v3 w3 ⟨hCV, V3, F3⟩
        replace h0 := h0.fram (d := World.drawn _) F3 V.no
        replace h1 := h1.fram (d := World.drawn _) F3 V.no
        have R : R3 w3 E.B _ _ := ⟨h0, h1, V3⟩
        clear h0 h1 V V3
        replace hB := F3.blkF hB (fun h => by have := ho.sm h; omega)
        replace hF := hF.trans' F3 (fun k _ h ↦ .inr h)
        rw [hct] at hCV
        first
          | (obtain rfl : v3 = .agg (erV ec).toArray := hCV)
          | (obtain ⟨nb, cc, hv3, hnb, hT, hAR⟩ := hCV
             rw [show icv ((nds (child rc) : Int) - 1) = i64c (nds (child rc) - 1 : Nat) from congrArg (Value.int .i64) (by have := nds_pos (child rc); omega)] at hv3
             subst hv3)
        refine wl_new (ze_151) (fun xb w37 hbxb hX F37 => ?_)
        have hbsxb := Nat.le_trans hF.size hbxb
        have hneE.ebxb : E.eb < xb := Nat.lt_of_lt_of_le hB.lt hbxb
        replace hF := hF.thenDrew.thenN F37
        replace hB := F37.blkN hB
        replace R := R.framN (d := World.drawn _) F37
        have hX0 := hX
        have hnx : nb < xb := Nat.lt_of_lt_of_le hT.lt hbxb
        replace hT := F37.blkN hT
        refine wl_puta rfl rfl (by simp [Value.oneCell', i64c, u64c, u8c, ptr]) sz_151 (rfl) hX ((by simp)) (rfl) (fun w38 hX F38 => ?_)
        replace hF := hF.thenDrew.thenO F38 (by first | exact .inr (by omega) | exact .inl rfl | exact .inl (by assumption))
        replace hB := F38.blkO hB (by omega)
        replace R := R.framB (d := World.drawn _) F38 hX0 (by decide) (fun h => by have := ho.sm h; omega)
        replace hT := F38.blkO hT (by omega)
        refine wl_nil (x_then (hK27 _ _ ?_))
        clear hK27 K27
        refine forget [(0, _), (1, _), (4, _)] ⟨rfl, rfl, rfl, trivial⟩ (fun e => ?_)
        refine c_seq (fun K32 hK32 => ?_)
        refine c_reg ?_ -- region 4 memo.go:28
        refine wl (ro_move rfl) ?_
        refine wl (ro_fieldAddr (k := 3) rfl fo_151_3) ?_
        refine wl (ro_loadB rfl sc_53 (hX) (rfl)) ?_
        refine wl (ro_fieldAddr (k := 4) rfl fo_151_4) ?_
        refine wl (ro_loadB rfl sc_3 (hX) (rfl)) ?_
        refine wl (ro_build rfl bld_114_0_1_3_4) ?_
        refine wl_new (ze_114) (fun yb w39 hbyb hY F39 => ?_)
        have hbsyb := Nat.le_trans hF.size hbyb
        have hneE.ebyb : E.eb < yb := Nat.lt_of_lt_of_le hB.lt hbyb
        have hnexbyb : xb < yb := Nat.lt_of_lt_of_le hX.lt hbyb
        replace hF := hF.thenDrew.thenN F39
        replace hB := F39.blkN hB
        replace hX := F39.blkN hX
        replace R := R.framN (d := World.drawn _) F39
        have hY0 := hY
        have hny : nb < yb := Nat.lt_of_lt_of_le hT.lt hbyb
        replace hT := F39.blkN hT
        refine wl_puta rfl rfl ((mec_cells ⟨true, pat, none, 0, 0, 0, 0⟩)) sz_114 (rfl) hY ((by simp)) ((show _ = mec ⟨true, pat, none, 0, 0, 0, 0⟩ from rfl)) (fun w40 hY F40 => ?_)
        replace hF := hF.thenDrew.thenO F40 (by first | exact .inr (by omega) | exact .inl rfl | exact .inl (by assumption))
        replace hB := F40.blkO hB (by omega)
        replace hX := F40.blkO hX (by omega)
        replace R := R.framB (d := World.drawn _) F40 hY0 (by decide) (fun h => by have := ho.sm h; omega)
        replace hT := F40.blkO hT (by omega)
        refine wl_nil (x_then (hK32 _ _ ?_))
        clear hK32 K32
        refine c_seq (fun K33 hK33 => ?_)
        refine c_seq (fun K34 hK34 => ?_)
        refine c_reg ?_ -- region 5 memo.go:29
        refine wl (ro_fieldAddr (k := 3) rfl fo_151_3) ?_
        refine wl (ro_loadB rfl sc_53 (hX) (rfl)) ?_
        refine wl (ro_cmp (r := true) rfl rfl rfl) ?_
        refine wl_nil (x_then (hK34 _ _ ?_))
        clear hK34 K34
        refine wc_condT rfl ?_
        refine c_reg ?_ -- region 6 memo.go:30
        refine wl (ro_loadAggB rfl ag_151 (hX) (rfl) (rfl)) ?_
        refine wl_call rfl en_58 (compile58 (g := gc) hT hAR hn31 (fun x hx ↦ by have := hwf.gs (gs_child hx); omega)) ?_
        rintro _ w6 ⟨qb, rfl, hqb, hG, F6⟩
        have hqy : yb < qb := by have := hY.lt; omega
        have hqe : E.eb < qb := by have := hB.lt; omega
        replace R := R.framN (d := World.drawn _) F6
        replace hF := hF.transG F6 (by intro k hk h; simp only [one, two, none', rset] at h ⊢ <;> omega)
        replace hB := F6.blkF hB (by intro h; simp only [one, two, none', rset] at h <;> omega)
        replace hX := F6.blkF hX (by intro h; simp only [one, two, none', rset] at h <;> omega)
        replace hY := F6.blkF hY (by intro h; simp only [one, two, none', rset] at h <;> omega)
        have hY1 := hY
        clear hT
        refine wl (ro_fieldAddr (k := 2) rfl fo_114_2) ?_
        refine wl_put rfl rfl rfl sz_109 hY ((by simp)) ((show _ = mec ⟨true, pat, some ⟨qb, 0, none⟩, (codeOf (child rc)).length, (codeOf (child rc)).length, 0, 0⟩ from rfl)) (fun w41 hY F41 => ?_)
        replace hF := hF.thenDrew.thenO F41 (by first | exact .inr (by omega) | exact .inl rfl | exact .inl (by assumption))
        replace hB := F41.blkO hB (by omega)
        replace hX := F41.blkO hX (by omega)
        replace hG := F41.blkO hG (by omega)
        replace R := R.framB (d := World.drawn _) F41 hY1 (by decide) (fun h => by have := ho.sm h; omega)
        refine wl_nil (x_then (hK33 _ _ ?_))
        clear hK33 K33
        refine forget [(0, _), (5, _)] ⟨rfl, rfl, trivial⟩ (fun e => ?_)
        refine c_seq (fun K35 hK35 => ?_)
        have hB7 := hB
        refine c_piL 9 [(0, false), (1, false), (2, false), (3, false), (4, false), (5, false), (6, false), (7, false), (8, false)] (SameH _) mixed (by kernel_rfl) rfl (by kernel_rfl) (po_then (po_bp)) (sameH_now _ _) ?_ -- region 7 memo.go:32
        refine ql_ro rfl (fun w hS => ro_move rfl) ?_
        refine ql_ro rfl (fun w hS => ro_move rfl) ?_
        refine ql_ro rfl (fun w hS => ro_nilCheck rfl) ?_
        refine ql_ro rfl (fun w hS => ro_fieldAddr (k := 3) rfl fo_117_3) ?_
        refine ql_ro rfl (fun w hS => ro_indexAddrA (et := 114) (k := 5) rfl rfl ar_115 ((show (0 : Int) = ((0 : Nat) : Int) from rfl)) ((by omega : 0 < 2))) ?_
        refine ql_ro rfl (fun w hS => ro_loadAggB rfl ag_114 (Blk.of_heap hB hS) (rfl) (rfl)) ?_
        refine ql_ro rfl (fun w hS => ro_nilCheck rfl) ?_
        refine ql_ro rfl (fun w hS => ro_fieldAddr (k := 3) rfl fo_117_3) ?_
        refine ql_ro rfl (fun w hS => ro_indexAddrA (et := 114) (k := 5) rfl rfl ar_115 ((show (1 : Int) = ((1 : Nat) : Int) from rfl)) ((by omega : 1 < 2))) ?_
        refine ql_puta rfl rfl rfl ((mec_cells ⟨_, p0, a0, l0, c0, e0, q0⟩)) sz_114 (rfl) hB ((by simp)) (rfl) (fun w42 hB F42 => ?_)
        replace hF := hF.thenDrew.thenO F42 (by first | exact .inr (by omega) | exact .inl rfl | exact .inl (by assumption))
        replace hX := F42.blkO hX (by omega)
        replace hY := F42.blkO hY (by omega)
        replace hG := F42.blkO hG (by omega)
        replace R := R.framB F42 hB7 (by decide) (fun h => by have := ho.sm h; omega)
        refine x_then (hK35 _ _ ?_)
        clear hK35 K35
        have hB8 := hB
        refine c_piL 5 [(0, false), (1, false), (2, false), (3, false), (4, false)] (SameH _) mixed (by kernel_rfl) rfl (by kernel_rfl) (po_bp) (sameH_now _ _) ?_ -- region 8 memo.go:33
        refine ql_ro rfl (fun w hS => ro_move rfl) ?_
        refine ql_ro rfl (fun w hS => ro_loadAggB rfl ag_114 (Blk.of_heap hY hS) (rfl) (rfl)) ?_
        refine ql_ro rfl (fun w hS => ro_nilCheck rfl) ?_
        refine ql_ro rfl (fun w hS => ro_fieldAddr (k := 3) rfl fo_117_3) ?_
        refine ql_ro rfl (fun w hS => ro_indexAddrA (et := 114) (k := 5) rfl rfl ar_115 ((show (0 : Int) = ((0 : Nat) : Int) from rfl)) ((by omega : 0 < 2))) ?_
        refine ql_puta rfl rfl rfl ((mec_cells ⟨true, pat, some ⟨qb, 0, none⟩, (codeOf (child rc)).length, (codeOf (child rc)).length, 0, 0⟩)) sz_114 (rfl) hB ((by simp)) (rfl) (fun w43 hB F43 => ?_)
        replace hF := hF.thenDrew.thenO F43 (by first | exact .inr (by omega) | exact .inl rfl | exact .inl (by assumption))
        replace hX := F43.blkO hX (by omega)
        replace hY := F43.blkO hY (by omega)
        replace hG := F43.blkO hG (by omega)
        replace R := R.framB F43 hB8 (by decide) (fun h => by have := ho.sm h; omega)
        refine ?_
        refine bp_end Tryz.results48 rfl ?_
        exact ⟨rfl, ⟨⟨true, pat, some ⟨qb, 0, none⟩, (codeOf (child rc)).length, (codeOf (child rc)).length, 0, 0⟩, ⟨_, p0, a0, l0, c0, e0, q0⟩, hB, ⟨rfl, rfl, by rw [hct]; exact ⟨rfl, rfl, qb, rfl, rfl, rfl, hG⟩⟩, R.a⟩, R.v, hF⟩
    · skip
      refine c_reg ?_ -- region 1 memo.go:23
      refine wl (ro_move rfl) ?_
      refine wl (ro_nilCheck rfl) ?_
      refine wl (ro_fieldAddr (k := 3) rfl fo_117_3) ?_
      refine wl (ro_indexAddrA (et := 114) (k := 5) rfl rfl ar_115 ((show (1 : Int) = ((1 : Nat) : Int) from rfl)) ((by omega : 1 < 2))) ?_
      refine wl (ro_fieldAddr (k := 0) rfl fo_114_0) ?_
      refine wl (ro_loadB rfl sc_4 (hB) (rfl)) ?_
      refine wl (ro_move rfl) ?_
      refine wlg_no rfl ?_
      refine wlg_no rfl ?_
      refine wlg_no rfl ?_
      refine wlg_no rfl ?_
      refine wlg_no rfl ?_
      refine wlg_no rfl ?_
      refine wlg_no rfl ?_
      refine wlg_no rfl ?_
      refine wl (ro_pick rfl rfl rfl) ?_
      refine wl_nil (x_then (hK25 _ _ ?_))
      clear hK25 K25
      refine wc_condF rfl ?_
      refine c_skip (x_then (hK24 _ _ ?_))
      clear hK24 K24
      refine forget [(0, _), (1, _)] ⟨rfl, rfl, trivial⟩ (fun e => ?_)
      refine c_seq (fun K36 hK36 => ?_)
      rcases hct : coreT pat with ec | ⟨rc, gc⟩
      · skip
        have hne := coreT_er hct
        refine c_reg ?_ -- region 3 memo.go:27
        refine wl (ro_move rfl) ?_
        refine wl (ro_nilCheck rfl) ?_
        refine wl (ro_fieldAddr (k := 0) rfl fo_117_0) ?_
        refine wl (ro_loadB rfl sc_44 (hB) (rfl)) ?_
        refine wl (ro_move rfl) ?_
        refine wl_call rfl en_57 (Core57 ho.d7 V (by omega)) ?_
        rintro v3 w3 ⟨hCV, V3, F3⟩
        replace h0 := h0.fram (d := World.drawn _) F3 V.no
        replace h1 := h1.fram (d := World.drawn _) F3 V.no
        have R : R3 w3 E.B _ _ := ⟨h0, h1, V3⟩
        clear h0 h1 V V3
        replace hB := F3.blkF hB (fun h => by have := ho.sm h; omega)
        replace hF := hF.trans' F3 (fun k _ h ↦ .inr h)
        rw [hct] at hCV
        first
          | (obtain rfl : v3 = .agg (erV ec).toArray := hCV)
          | (obtain ⟨nb, cc, hv3, hnb, hT, hAR⟩ := hCV
             rw [show icv ((nds (child rc) : Int) - 1) = i64c (nds (child rc) - 1 : Nat) from congrArg (Value.int .i64) (by have := nds_pos (child rc); omega)] at hv3
             subst hv3)
        refine wl_new (ze_151) (fun xb w44 hbxb hX F44 => ?_)
        have hbsxb := Nat.le_trans hF.size hbxb
        have hneE.ebxb : E.eb < xb := Nat.lt_of_lt_of_le hB.lt hbxb
        replace hF := hF.thenDrew.thenN F44
        replace hB := F44.blkN hB
        replace R := R.framN (d := World.drawn _) F44
        have hX0 := hX
        refine wl_puta rfl rfl (by simp [Value.oneCell', i64c, u64c, u8c, ptr]) sz_151 (rfl) hX ((by simp)) (rfl) (fun w45 hX F45 => ?_)
        replace hF := hF.thenDrew.thenO F45 (by first | exact .inr (by omega) | exact .inl rfl | exact .inl (by assumption))
        replace hB := F45.blkO hB (by omega)
        replace R := R.framB (d := World.drawn _) F45 hX0 (by decide) (fun h => by have := ho.sm h; omega)
        refine wl_nil (x_then (hK36 _ _ ?_))
        clear hK36 K36
        refine forget [(0, _), (1, _), (4, _)] ⟨rfl, rfl, rfl, trivial⟩ (fun e => ?_)
        refine c_seq (fun K37 hK37 => ?_)
        refine c_reg ?_ -- region 4 memo.go:28
        refine wl (ro_move rfl) ?_
        refine wl (ro_fieldAddr (k := 3) rfl fo_151_3) ?_
        refine wl (ro_loadB rfl sc_53 (hX) (rfl)) ?_
        refine wl (ro_fieldAddr (k := 4) rfl fo_151_4) ?_
        refine wl (ro_loadB rfl sc_3 (hX) (rfl)) ?_
        refine wl (ro_build rfl bld_114_0_1_3_4) ?_
        refine wl_new (ze_114) (fun yb w46 hbyb hY F46 => ?_)
        have hbsyb := Nat.le_trans hF.size hbyb
        have hneE.ebyb : E.eb < yb := Nat.lt_of_lt_of_le hB.lt hbyb
        have hnexbyb : xb < yb := Nat.lt_of_lt_of_le hX.lt hbyb
        replace hF := hF.thenDrew.thenN F46
        replace hB := F46.blkN hB
        replace hX := F46.blkN hX
        replace R := R.framN (d := World.drawn _) F46
        have hY0 := hY
        refine wl_puta rfl rfl ((mec_cells ⟨true, pat, none, 0, 0, ec.1, ec.2⟩)) sz_114 (rfl) hY ((by simp)) ((show _ = mec ⟨true, pat, none, 0, 0, ec.1, ec.2⟩ from rfl)) (fun w47 hY F47 => ?_)
        replace hF := hF.thenDrew.thenO F47 (by first | exact .inr (by omega) | exact .inl rfl | exact .inl (by assumption))
        replace hB := F47.blkO hB (by omega)
        replace hX := F47.blkO hX (by omega)
        replace R := R.framB (d := World.drawn _) F47 hY0 (by decide) (fun h => by have := ho.sm h; omega)
        refine wl_nil (x_then (hK37 _ _ ?_))
        clear hK37 K37
        refine c_seq (fun K38 hK38 => ?_)
        refine c_seq (fun K39 hK39 => ?_)
        refine c_reg ?_ -- region 5 memo.go:29
        refine wl (ro_fieldAddr (k := 3) rfl fo_151_3) ?_
        refine wl (ro_loadB rfl sc_53 (hX) (rfl)) ?_
        refine wl (ro_cmp (r := false) rfl rfl (congrArg some ((beqc ec.1 0).trans (decide_eq_false hne)))) ?_
        refine wl_nil (x_then (hK39 _ _ ?_))
        clear hK39 K39
        refine wc_condF rfl ?_
        refine c_skip (x_then (hK38 _ _ ?_))
        clear hK38 K38
        refine forget [(0, _), (5, _)] ⟨rfl, rfl, trivial⟩ (fun e => ?_)
        refine c_seq (fun K40 hK40 => ?_)
        have hB7 := hB
        refine c_piL 9 [(0, false), (1, false), (2, false), (3, false), (4, false), (5, false), (6, false), (7, false), (8, false)] (SameH _) mixed (by kernel_rfl) rfl (by kernel_rfl) (po_then (po_bp)) (sameH_now _ _) ?_ -- region 7 memo.go:32
        refine ql_ro rfl (fun w hS => ro_move rfl) ?_
        refine ql_ro rfl (fun w hS => ro_move rfl) ?_
        refine ql_ro rfl (fun w hS => ro_nilCheck rfl) ?_
        refine ql_ro rfl (fun w hS => ro_fieldAddr (k := 3) rfl fo_117_3) ?_
        refine ql_ro rfl (fun w hS => ro_indexAddrA (et := 114) (k := 5) rfl rfl ar_115 ((show (0 : Int) = ((0 : Nat) : Int) from rfl)) ((by omega : 0 < 2))) ?_
        refine ql_ro rfl (fun w hS => ro_loadAggB rfl ag_114 (Blk.of_heap hB hS) (rfl) (rfl)) ?_
        refine ql_ro rfl (fun w hS => ro_nilCheck rfl) ?_
        refine ql_ro rfl (fun w hS => ro_fieldAddr (k := 3) rfl fo_117_3) ?_
        refine ql_ro rfl (fun w hS => ro_indexAddrA (et := 114) (k := 5) rfl rfl ar_115 ((show (1 : Int) = ((1 : Nat) : Int) from rfl)) ((by omega : 1 < 2))) ?_
        refine ql_puta rfl rfl rfl ((mec_cells ⟨_, p0, a0, l0, c0, e0, q0⟩)) sz_114 (rfl) hB ((by simp)) (rfl) (fun w48 hB F48 => ?_)
        replace hF := hF.thenDrew.thenO F48 (by first | exact .inr (by omega) | exact .inl rfl | exact .inl (by assumption))
        replace hX := F48.blkO hX (by omega)
        replace hY := F48.blkO hY (by omega)
        replace R := R.framB F48 hB7 (by decide) (fun h => by have := ho.sm h; omega)
        refine x_then (hK40 _ _ ?_)
        clear hK40 K40
        have hB8 := hB
        refine c_piL 5 [(0, false), (1, false), (2, false), (3, false), (4, false)] (SameH _) mixed (by kernel_rfl) rfl (by kernel_rfl) (po_bp) (sameH_now _ _) ?_ -- region 8 memo.go:33
        refine ql_ro rfl (fun w hS => ro_move rfl) ?_
        refine ql_ro rfl (fun w hS => ro_loadAggB rfl ag_114 (Blk.of_heap hY hS) (rfl) (rfl)) ?_
        refine ql_ro rfl (fun w hS => ro_nilCheck rfl) ?_
        refine ql_ro rfl (fun w hS => ro_fieldAddr (k := 3) rfl fo_117_3) ?_
        refine ql_ro rfl (fun w hS => ro_indexAddrA (et := 114) (k := 5) rfl rfl ar_115 ((show (0 : Int) = ((0 : Nat) : Int) from rfl)) ((by omega : 0 < 2))) ?_
        refine ql_puta rfl rfl rfl ((mec_cells ⟨true, pat, none, 0, 0, ec.1, ec.2⟩)) sz_114 (rfl) hB ((by simp)) (rfl) (fun w49 hB F49 => ?_)
        replace hF := hF.thenDrew.thenO F49 (by first | exact .inr (by omega) | exact .inl rfl | exact .inl (by assumption))
        replace hX := F49.blkO hX (by omega)
        replace hY := F49.blkO hY (by omega)
        replace R := R.framB F49 hB8 (by decide) (fun h => by have := ho.sm h; omega)
        refine ?_
        refine bp_end Tryz.results48 rfl ?_
        exact ⟨rfl, ⟨⟨true, pat, none, 0, 0, ec.1, ec.2⟩, ⟨_, p0, a0, l0, c0, e0, q0⟩, hB, ⟨rfl, rfl, by rw [hct]; exact ⟨rfl, rfl⟩⟩, R.a⟩, R.v, hF⟩
      · skip
        obtain ⟨hpt, hwf, hn24, hn31⟩ := coreT_ok hct
        refine c_reg ?_ -- region 3 memo.go:27
        refine wl (ro_move rfl) ?_
        refine wl (ro_nilCheck rfl) ?_
        refine wl (ro_fieldAddr (k := 0) rfl fo_117_0) ?_
        refine wl (ro_loadB rfl sc_44 (hB) (rfl)) ?_
        refine wl (ro_move rfl) ?_
        refine wl_call rfl en_57 (Core57 ho.d7 V (by omega)) ?_
        rintro v3 w3 ⟨hCV, V3, F3⟩
        replace h0 := h0.fram (d := World.drawn _) F3 V.no
        replace h1 := h1.fram (d := World.drawn _) F3 V.no
        have R : R3 w3 E.B _ _ := ⟨h0, h1, V3⟩
        clear h0 h1 V V3
        replace hB := F3.blkF hB (fun h => by have := ho.sm h; omega)
        replace hF := hF.trans' F3 (fun k _ h ↦ .inr h)
        rw [hct] at hCV
        first
          | (obtain rfl : v3 = .agg (erV ec).toArray := hCV)
          | (obtain ⟨nb, cc, hv3, hnb, hT, hAR⟩ := hCV
             rw [show icv ((nds (child rc) : Int) - 1) = i64c (nds (child rc) - 1 : Nat) from congrArg (Value.int .i64) (by have := nds_pos (child rc); omega)] at hv3
             subst hv3)
        refine wl_new (ze_151) (fun xb w50 hbxb hX F50 => ?_)
        have hbsxb := Nat.le_trans hF.size hbxb
        have hneE.ebxb : E.eb < xb := Nat.lt_of_lt_of_le hB.lt hbxb
        replace hF := hF.thenDrew.thenN F50
        replace hB := F50.blkN hB
        replace R := R.framN (d := World.drawn _) F50
        have hX0 := hX
        have hnx : nb < xb := Nat.lt_of_lt_of_le hT.lt hbxb
        replace hT := F50.blkN hT
        refine wl_puta rfl rfl (by simp [Value.oneCell', i64c, u64c, u8c, ptr]) sz_151 (rfl) hX ((by simp)) (rfl) (fun w51 hX F51 => ?_)
        replace hF := hF.thenDrew.thenO F51 (by first | exact .inr (by omega) | exact .inl rfl | exact .inl (by assumption))
        replace hB := F51.blkO hB (by omega)
        replace R := R.framB (d := World.drawn _) F51 hX0 (by decide) (fun h => by have := ho.sm h; omega)
        replace hT := F51.blkO hT (by omega)
        refine wl_nil (x_then (hK36 _ _ ?_))
        clear hK36 K36
        refine forget [(0, _), (1, _), (4, _)] ⟨rfl, rfl, rfl, trivial⟩ (fun e => ?_)
        refine c_seq (fun K41 hK41 => ?_)
        refine c_reg ?_ -- region 4 memo.go:28
        refine wl (ro_move rfl) ?_
        refine wl (ro_fieldAddr (k := 3) rfl fo_151_3) ?_
        refine wl (ro_loadB rfl sc_53 (hX) (rfl)) ?_
        refine wl (ro_fieldAddr (k := 4) rfl fo_151_4) ?_
        refine wl (ro_loadB rfl sc_3 (hX) (rfl)) ?_
        refine wl (ro_build rfl bld_114_0_1_3_4) ?_
        refine wl_new (ze_114) (fun yb w52 hbyb hY F52 => ?_)
        have hbsyb := Nat.le_trans hF.size hbyb
        have hneE.ebyb : E.eb < yb := Nat.lt_of_lt_of_le hB.lt hbyb
        have hnexbyb : xb < yb := Nat.lt_of_lt_of_le hX.lt hbyb
        replace hF := hF.thenDrew.thenN F52
        replace hB := F52.blkN hB
        replace hX := F52.blkN hX
        replace R := R.framN (d := World.drawn _) F52
        have hY0 := hY
        have hny : nb < yb := Nat.lt_of_lt_of_le hT.lt hbyb
        replace hT := F52.blkN hT
        refine wl_puta rfl rfl ((mec_cells ⟨true, pat, none, 0, 0, 0, 0⟩)) sz_114 (rfl) hY ((by simp)) ((show _ = mec ⟨true, pat, none, 0, 0, 0, 0⟩ from rfl)) (fun w53 hY F53 => ?_)
        replace hF := hF.thenDrew.thenO F53 (by first | exact .inr (by omega) | exact .inl rfl | exact .inl (by assumption))
        replace hB := F53.blkO hB (by omega)
        replace hX := F53.blkO hX (by omega)
        replace R := R.framB (d := World.drawn _) F53 hY0 (by decide) (fun h => by have := ho.sm h; omega)
        replace hT := F53.blkO hT (by omega)
        refine wl_nil (x_then (hK41 _ _ ?_))
        clear hK41 K41
        refine c_seq (fun K42 hK42 => ?_)
        refine c_seq (fun K43 hK43 => ?_)
        refine c_reg ?_ -- region 5 memo.go:29
        refine wl (ro_fieldAddr (k := 3) rfl fo_151_3) ?_
        refine wl (ro_loadB rfl sc_53 (hX) (rfl)) ?_
        refine wl (ro_cmp (r := true) rfl rfl rfl) ?_
        refine wl_nil (x_then (hK43 _ _ ?_))
        clear hK43 K43
        refine wc_condT rfl ?_
        refine c_reg ?_ -- region 6 memo.go:30
        refine wl (ro_loadAggB rfl ag_151 (hX) (rfl) (rfl)) ?_
        refine wl_call rfl en_58 (compile58 (g := gc) hT hAR hn31 (fun x hx ↦ by have := hwf.gs (gs_child hx); omega)) ?_
        rintro _ w6 ⟨qb, rfl, hqb, hG, F6⟩
        have hqy : yb < qb := by have := hY.lt; omega
        have hqe : E.eb < qb := by have := hB.lt; omega
        replace R := R.framN (d := World.drawn _) F6
        replace hF := hF.transG F6 (by intro k hk h; simp only [one, two, none', rset] at h ⊢ <;> omega)
        replace hB := F6.blkF hB (by intro h; simp only [one, two, none', rset] at h <;> omega)
        replace hX := F6.blkF hX (by intro h; simp only [one, two, none', rset] at h <;> omega)
        replace hY := F6.blkF hY (by intro h; simp only [one, two, none', rset] at h <;> omega)
        have hY1 := hY
        clear hT
        refine wl (ro_fieldAddr (k := 2) rfl fo_114_2) ?_
        refine wl_put rfl rfl rfl sz_109 hY ((by simp)) ((show _ = mec ⟨true, pat, some ⟨qb, 0, none⟩, (codeOf (child rc)).length, (codeOf (child rc)).length, 0, 0⟩ from rfl)) (fun w54 hY F54 => ?_)
        replace hF := hF.thenDrew.thenO F54 (by first | exact .inr (by omega) | exact .inl rfl | exact .inl (by assumption))
        replace hB := F54.blkO hB (by omega)
        replace hX := F54.blkO hX (by omega)
        replace hG := F54.blkO hG (by omega)
        replace R := R.framB (d := World.drawn _) F54 hY1 (by decide) (fun h => by have := ho.sm h; omega)
        refine wl_nil (x_then (hK42 _ _ ?_))
        clear hK42 K42
        refine forget [(0, _), (5, _)] ⟨rfl, rfl, trivial⟩ (fun e => ?_)
        refine c_seq (fun K44 hK44 => ?_)
        have hB7 := hB
        refine c_piL 9 [(0, false), (1, false), (2, false), (3, false), (4, false), (5, false), (6, false), (7, false), (8, false)] (SameH _) mixed (by kernel_rfl) rfl (by kernel_rfl) (po_then (po_bp)) (sameH_now _ _) ?_ -- region 7 memo.go:32
        refine ql_ro rfl (fun w hS => ro_move rfl) ?_
        refine ql_ro rfl (fun w hS => ro_move rfl) ?_
        refine ql_ro rfl (fun w hS => ro_nilCheck rfl) ?_
        refine ql_ro rfl (fun w hS => ro_fieldAddr (k := 3) rfl fo_117_3) ?_
        refine ql_ro rfl (fun w hS => ro_indexAddrA (et := 114) (k := 5) rfl rfl ar_115 ((show (0 : Int) = ((0 : Nat) : Int) from rfl)) ((by omega : 0 < 2))) ?_
        refine ql_ro rfl (fun w hS => ro_loadAggB rfl ag_114 (Blk.of_heap hB hS) (rfl) (rfl)) ?_
        refine ql_ro rfl (fun w hS => ro_nilCheck rfl) ?_
        refine ql_ro rfl (fun w hS => ro_fieldAddr (k := 3) rfl fo_117_3) ?_
        refine ql_ro rfl (fun w hS => ro_indexAddrA (et := 114) (k := 5) rfl rfl ar_115 ((show (1 : Int) = ((1 : Nat) : Int) from rfl)) ((by omega : 1 < 2))) ?_
        refine ql_puta rfl rfl rfl ((mec_cells ⟨_, p0, a0, l0, c0, e0, q0⟩)) sz_114 (rfl) hB ((by simp)) (rfl) (fun w55 hB F55 => ?_)
        replace hF := hF.thenDrew.thenO F55 (by first | exact .inr (by omega) | exact .inl rfl | exact .inl (by assumption))
        replace hX := F55.blkO hX (by omega)
        replace hY := F55.blkO hY (by omega)
        replace hG := F55.blkO hG (by omega)
        replace R := R.framB F55 hB7 (by decide) (fun h => by have := ho.sm h; omega)
        refine x_then (hK44 _ _ ?_)
        clear hK44 K44
        have hB8 := hB
        refine c_piL 5 [(0, false), (1, false), (2, false), (3, false), (4, false)] (SameH _) mixed (by kernel_rfl) rfl (by kernel_rfl) (po_bp) (sameH_now _ _) ?_ -- region 8 memo.go:33
        refine ql_ro rfl (fun w hS => ro_move rfl) ?_
        refine ql_ro rfl (fun w hS => ro_loadAggB rfl ag_114 (Blk.of_heap hY hS) (rfl) (rfl)) ?_
        refine ql_ro rfl (fun w hS => ro_nilCheck rfl) ?_
        refine ql_ro rfl (fun w hS => ro_fieldAddr (k := 3) rfl fo_117_3) ?_
        refine ql_ro rfl (fun w hS => ro_indexAddrA (et := 114) (k := 5) rfl rfl ar_115 ((show (0 : Int) = ((0 : Nat) : Int) from rfl)) ((by omega : 0 < 2))) ?_
        refine ql_puta rfl rfl rfl ((mec_cells ⟨true, pat, some ⟨qb, 0, none⟩, (codeOf (child rc)).length, (codeOf (child rc)).length, 0, 0⟩)) sz_114 (rfl) hB ((by simp)) (rfl) (fun w56 hB F56 => ?_)
        replace hF := hF.thenDrew.thenO F56 (by first | exact .inr (by omega) | exact .inl rfl | exact .inl (by assumption))
        replace hX := F56.blkO hX (by omega)
        replace hY := F56.blkO hY (by omega)
        replace hG := F56.blkO hG (by omega)
        replace R := R.framB F56 hB8 (by decide) (fun h => by have := ho.sm h; omega)
        refine ?_
        refine bp_end Tryz.results48 rfl ?_
        exact ⟨rfl, ⟨⟨true, pat, some ⟨qb, 0, none⟩, (codeOf (child rc)).length, (codeOf (child rc)).length, 0, 0⟩, ⟨_, p0, a0, l0, c0, e0, q0⟩, hB, ⟨rfl, rfl, by rw [hct]; exact ⟨rfl, rfl, qb, rfl, rfl, rfl, hG⟩⟩, R.a⟩, R.v, hF⟩

end Go.Proofs.Qxb6500567aGreat
