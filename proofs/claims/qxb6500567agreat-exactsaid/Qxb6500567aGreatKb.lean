import Derived.Test.Qxb6500567aGreatKa
/- The lock-step machine: follow. -/
namespace Go.Proofs.Qxb6500567aGreat
set_option linter.unusedVariables false
set_option linter.unusedSimpArgs false

section
variable {P : Program} {n : Nat} {e : Nat → Option Value} {w : World}
theorem ro_sliceN {t et k b o len cap l h : Nat} {q q' : IntKind} {lo hi : Int} {x y z : Operand} (hx : evO n e x = some (.slice (some ⟨b, o, none⟩) len cap)) (hy : evO n e y = some (.int q lo)) (hz : evO n e z = some (.int q' hi)) (ht : selB P t et k = true)
    (hl : lo = (l : Int)) (hh : hi = (h : Int)) (h1 : l ≤ h) (h2 : h ≤ cap) (h3 : l < cap) : RO P n e w (.slice t x (some y) (some z) none) (.slice (some ⟨b, o + l * k, none⟩) (h - l) (cap - l)) := by
  have := ro_sliceLH (w := w) hx hy hz ht hl hh h1 h2
  rw [if_neg (by omega)] at this
  exact this
end

/-- Captures in cells. -/
def rgv (c : List Int) : Nat → Value := fun j => icv (c.getD j 0)

theorem rgv_set {c : List Int} {k : Nat} {v : Int} (hk : k < c.length) : rgv (c.set k v) = pt (rgv c) k (icv v) := by
  funext j
  unfold rgv pt
  by_cases h : j = k
  · subst h
    simp [List.getD, hk]
  · rw [if_neg h]
    simp [List.getD, List.getElem?_set, Ne.symm h]

/-- The captures of the threads that wait. -/
def CP (p : List Ins) (h : Nat → Value) (l : List Ent) : Prop := ∀ (k : Nat) (e : Ent), l[k]? = some e → waits p e.1 = true → e.2.length = 8 ∧ ∀ j, j < 8 → h (k * 8 + j) = rgv e.2 j

theorem CP.app {p : List Ins} {h : Nat → Value} {l : List Ent} (H : CP p h l) {pc : Nat} {c : List Int} (hw : waits p pc = false) : CP p h (l ++ [(pc, c)]) := by
  intro k e hk he
  by_cases hkl : k < l.length
  · rw [List.getElem?_append_left hkl] at hk
    exact H k e hk he
  · rw [List.getElem?_append_right (by omega)] at hk
    have := List.mem_of_getElem? hk
    simp at this
    subst this
    rw [hw] at he
    cases he

theorem CP.cpy {p : List Ins} {h : Nat → Value} {l : List Ent} (H : CP p h l) {pc : Nat} {c : List Int} (hc : c.length = 8) : CP p (cpf h (0 + l.length * 8 * 1) (rgv c) 0 (8 * 1)) (l ++ [(pc, c)]) := by
  intro k e hk he
  by_cases hkl : k < l.length
  · rw [List.getElem?_append_left hkl] at hk
    obtain ⟨h1, h2⟩ := H k e hk he
    exact ⟨h1, fun j hj => by rw [cpf_out (by omega)]; exact h2 j hj⟩
  · rw [List.getElem?_append_right (by omega)] at hk
    have hk0 : k = l.length := by
      have := (List.getElem?_eq_some_iff.1 hk).1
      simp at this
      omega
    subst hk0
    simp at hk
    subst hk
    refine ⟨hc, fun j hj => ?_⟩
    rw [cpf_in (by omega) (by omega)]
    congr 1
    omega

theorem LV.out {f f' : Nat → Value} {i : Nat} {l : List Ent} (h : LV f i l) (hi : i < 2) (he : ∀ j, j < 260 → f' j = f j) : LV f' i l := by
  have hl := h.len
  refine ⟨?_, fun k e hk => ?_, h.nd, h.lt⟩
  · rw [he _ (by omega)]; exact h.n
  · obtain ⟨h1, h2⟩ := h.at' k e hk
    have hkl := (List.getElem?_eq_some_iff.1 hk).1
    have hel := h.lt e (List.mem_of_getElem? hk)
    rw [he _ (by omega), he _ (by omega)]
    exact ⟨h1, h2⟩

theorem LV.pt {f : Nat → Value} {i q : Nat} {v : Value} {l : List Ent} (h : LV f i l) (hi : i < 2) (hq : 260 ≤ q) : LV (pt f q v) i l := h.out hi (fun j hj => pt_ne (by omega))

theorem AF.sp' {P : PK} {f : Nat → Value} {sp z sp' : Nat} (h : AF P f sp z) : AF P (pt f 261 (i64c sp')) sp' z := by
  refine ⟨fun j hj => ?_, ?_, pt_same, ?_, ?_, ?_, ?_, fun j q hj hq => ?_⟩
  · rw [pt_ne (by omega)]; exact h.c j hj
  · rw [pt_ne (by omega)]; exact h.st
  · rw [pt_ne (by omega)]; exact h.rg
  · rw [pt_ne (by omega)]; exact h.bs
  · rw [pt_ne (by omega)]; exact h.nn
  · rw [pt_ne (by omega)]; exact h.z
  · rw [pt_ne (by omega)]; exact h.sv j q hj hq
theorem AF.z' {P : PK} {f : Nat → Value} {sp z z' : Nat} (h : AF P f sp z) : AF P (pt f 265 (i64c z')) sp z' := by
  refine ⟨fun j hj => ?_, ?_, ?_, ?_, ?_, ?_, pt_same, fun j q hj hq => ?_⟩
  · rw [pt_ne (by omega)]; exact h.c j hj
  · rw [pt_ne (by omega)]; exact h.st
  · rw [pt_ne (by omega)]; exact h.sp
  · rw [pt_ne (by omega)]; exact h.rg
  · rw [pt_ne (by omega)]; exact h.bs
  · rw [pt_ne (by omega)]; exact h.nn
  · rw [pt_ne (by omega)]; exact h.sv j q hj hq

/-- What follow and add touch. -/
def fset (P : PK) (i : Nat) : Nat → Prop := fun k => k = P.pb ∨ k = P.c i ∨ k = P.st ∨ k = P.rg

/-- The machine that follows, in memory. -/
structure AM (w : World) (P : PK) (i : Nat) (f h sf : Nat → Value) (p : List Ins) (l : List Ent) (S : List Frm) (reg : List Int) (z : Nat) : Prop where
  blk : FB w.heap P.pb 266 f 108
  cc : FB w.heap (P.c i) 512 h 3
  st : FB w.heap P.st 195 sf 182
  rg : FB w.heap P.rg 8 (rgv reg) 3
  af : AF P f S.length z
  lv : LV f i l
  cp : CP p h l
  sv : SV sf S
  r8 : reg.length = 8

set_option maxHeartbeats 8000000 in
theorem follow87 {w : World} {P : PK} {i n at0 pc gb z : Nat} {f h sf : Nat → Value} {p : List Ins} {l : List Ent} {S : List Frm} {reg : List Int} (ho : PKo P) (M : AM w P i f h sf p l S reg z) (hi : i < 2) (hG : PGB w.heap gb (insL p)) (hp : PrgOK p) (hpc : pc < p.length) (hn : pc ∉ pcs l) (hst : S.length ≤ l.length) (hat : at0 ≤ 300) (hnl : n ≤ 300) :
    Ret Tryz.prog 87 [ptr P.pb, pgs gb p.length, i64c n, i64c i, i64c pc, i64c at0] w (fun v w' => v = .tuple #[] ∧ (∃ f' h' sf' l' S' reg', follow p n at0 l S.reverse reg pc = ⟨l', S'.reverse, reg'⟩ ∧ l'.length = l.length + 1 ∧ S'.length ≤ S.length + 2 ∧ AM w' P i f' h' sf' p l' S' reg' z ∧ (∀ j l2, j < 2 → j ≠ i → LV f j l2 → LV f' j l2)) ∧ PGB w'.heap gb (insL p) ∧ Fram (fset P i) w w') := by
  have hF : Fram (fset P i) w w := Fram.refl _ _
  obtain ⟨hB, hC, hK, hR, hA, hL, hcp, hsv, hr8⟩ := M
  have o1 := (ho.mid hi).1
  have o2 := (ho.mid hi).2
  have o3 := ho.d
  have hple := hp.le
  have hroom := hL.room (show pc < 64 by omega) hn
  have hgb : gb ≠ P.pb := fun e => by rw [e] at hG; exact absurd (hG.uniq hB).2 (by decide)
  have hgc : gb ≠ P.c i := fun e => by rw [e] at hG; exact absurd (hG.uniq hC).2 (by decide)
  have hgs : gb ≠ P.st := fun e => by rw [e] at hG; exact absurd (hG.uniq hK).2 (by decide)
  have hgr : gb ≠ P.rg := fun e => by rw [e] at hG; exact absurd (hG.uniq hR).2 (by decide)
  obtain ⟨x, hx⟩ : ∃ x, p[pc]? = some x := ⟨_, List.getElem?_eq_getElem hpc⟩
  have hok := hp.ok pc x hx
  have hld := pg_load hx
  have hm1 : fset P i P.pb := .inl rfl
  have hm2 : fset P i P.rg := .inr (.inr (.inr rfl))
  refine ret_of Tryz.func87 rfl Tryz.ntmps87 rfl ?_
  refine c_seq (fun K1 hK1 => ?_)
  refine c_reg ?_ -- region 0 machine.go:102
  refine wl (ro_move rfl) ?_
  refine wl (ro_move rfl) ?_
  refine wl (ro_move rfl) ?_
  refine wl_call rfl en_113 (put113 hB hi hL (show pc < 64 by omega) hn) ?_
  rintro _ w2 ⟨rfl, hB, F2⟩
  replace hF := hF.transG F2 (by intro k hk h; simp only [one, two, none', fset] at h ⊢ <;> omega)
  replace hC := F2.blkF hC (by intro h; simp only [one, two, none', fset] at h <;> omega)
  replace hK := F2.blkF hK (by intro h; simp only [one, two, none', fset] at h <;> omega)
  replace hR := F2.blkF hR (by intro h; simp only [one, two, none', fset] at h <;> omega)
  replace hG := F2.blkF hG (by intro h; simp only [one, two, none', fset] at h <;> omega)
  have hA2 := hA.ins (n := l.length) hi hroom (show pc < 64 by omega)
  have hL2 := fun c => hL.ins hi (show pc < 64 by omega) hn c
  have hO2 : ∀ j l2, j < 2 → j ≠ i → LV f j l2 → LV (insf f i l.length pc) j l2 := fun j l2 h1 h2 h3 => h3.insO hi h1 h2 hroom (show pc < 64 by omega)
  clear hA hL hn
  refine wl (ro_assign rfl) ?_
  refine wl_nil (x_then (hK1 _ _ ?_))
  clear hK1 K1
  refine forget [(0, _), (1, _), (2, _), (3, _), (4, _), (5, _), (12, _)] ⟨rfl, rfl, rfl, rfl, rfl, rfl, rfl, trivial⟩ (fun e => ?_)
  refine c_seq (fun K2 hK2 => ?_)
  rcases x with S' | ⟨a, b⟩ | a | a | ⟨⟩ | ⟨⟩ | ⟨⟩
  · skip
    refine c_reg ?_ -- region 1 machine.go:103
    refine wl (ro_move rfl) ?_
    refine wl (ro_move rfl) ?_
    refine wl (ro_indexAddr (et := 175) (k := 7) rfl rfl se_109 (rfl) (hpc)) ?_
    refine wl (ro_loadAggB rfl ag_175 (hG) (rfl) (hld)) ?_
    refine wl_new (ze_175) (fun xb w1 hbxb hX F1 => ?_)
    have hbsxb := Nat.le_trans hF.size hbxb
    have hneP.pbxb : P.pb < xb := Nat.lt_of_lt_of_le hB.lt hbxb
    have hneP.cixb : P.c i < xb := Nat.lt_of_lt_of_le hC.lt hbxb
    have hneP.stxb : P.st < xb := Nat.lt_of_lt_of_le hK.lt hbxb
    have hneP.rgxb : P.rg < xb := Nat.lt_of_lt_of_le hR.lt hbxb
    have hnegbxb : gb < xb := Nat.lt_of_lt_of_le hG.lt hbxb
    replace hF := hF.thenDrew.thenN F1
    replace hB := F1.blkN hB
    replace hC := F1.blkN hC
    replace hK := F1.blkN hK
    replace hR := F1.blkN hR
    replace hG := F1.blkN hG
    refine wl_puta rfl rfl ((ric_cells _)) sz_175 (rfl) hX ((by simp)) (rfl) (fun w2 hX F2 => ?_)
    replace hF := hF.thenDrew.thenO F2 (by first | exact .inr (by omega) | exact .inl rfl | exact .inl (by assumption))
    replace hB := F2.blkO hB (by omega)
    replace hC := F2.blkO hC (by omega)
    replace hK := F2.blkO hK (by omega)
    replace hR := F2.blkO hR (by omega)
    replace hG := F2.blkO hG (by omega)
    refine wl_nil (x_then (hK2 _ _ ?_))
    clear hK2 K2
    refine forget [(0, _), (2, _), (3, _), (4, _), (5, _), (12, _), (13, _)] ⟨rfl, rfl, rfl, rfl, rfl, rfl, rfl, trivial⟩ (fun e => ?_)
    refine c_seq (fun K3 hK3 => ?_)
    refine c_reg ?_ -- region 2 machine.go:104
    refine wl (ro_fieldAddr (k := 0) rfl fo_175_0) ?_
    refine wl (ro_loadB rfl sc_3 (hX) (rfl)) ?_
    refine wl_nil (x_then (hK3 _ _ ?_))
    clear hK3 K3
    refine c_block ?_
    refine forget [(0, _), (2, _), (3, _), (4, _), (5, _), (12, _), (13, _), (23, _)] ⟨rfl, rfl, rfl, rfl, rfl, rfl, rfl, rfl, trivial⟩ (fun e => ?_)
    refine c_seq (fun K4 hK4 => ?_)
    refine c_reg ?_ -- region 4 machine.go:105
    refine wl (ro_cmp rfl rfl rfl) ?_
    refine wl (ro_assign rfl) ?_
    refine wl_nil (x_then (hK4 _ _ ?_))
    clear hK4 K4
    refine wc_condF rfl ?_
    refine c_seq (fun K5 hK5 => ?_)
    refine c_reg ?_ -- region 6 machine.go:107
    refine wl (ro_cmp rfl rfl rfl) ?_
    refine wl (ro_assign rfl) ?_
    refine wl_nil (x_then (hK5 _ _ ?_))
    clear hK5 K5
    refine wc_condF rfl ?_
    refine c_seq (fun K6 hK6 => ?_)
    refine c_reg ?_ -- region 9 machine.go:110
    refine wl (ro_cmp rfl rfl rfl) ?_
    refine wl (ro_assign rfl) ?_
    refine wl_nil (x_then (hK6 _ _ ?_))
    clear hK6 K6
    refine wc_condF rfl ?_
    refine c_seq (fun K7 hK7 => ?_)
    refine c_reg ?_ -- region 13 machine.go:114
    refine wl (ro_cmp rfl rfl rfl) ?_
    refine wl (ro_assign rfl) ?_
    refine wl_nil (x_then (hK7 _ _ ?_))
    clear hK7 K7
    refine wc_condF rfl ?_
    refine c_seq (fun K8 hK8 => ?_)
    refine c_reg ?_ -- region 16 machine.go:118
    refine wl (ro_cmp rfl rfl rfl) ?_
    refine wl (ro_assign rfl) ?_
    refine wl_nil (x_then (hK8 _ _ ?_))
    clear hK8 K8
    refine wc_condF rfl ?_
    refine c_piL9 17 [(0, false), (1, false), (2, false), (3, false), (4, false), (5, false), (6, false), (7, false), (8, false), (9, false), (10, false), (11, false), (12, false), (13, false), (14, false), (15, false), (16, false)] (SameH _) mixed (by kernel_rfl) rfl (by kernel_rfl) (po_blk (po_bp)) (sameH_now _ _) ?_ -- region 3 machine.go:123
    refine ql_ro rfl (fun w hS => ro_move rfl) ?_
    refine ql_ro rfl (fun w hS => ro_move rfl) ?_
    refine ql_ro rfl (fun w hS => ro_nilCheck rfl) ?_
    refine ql_ro rfl (fun w hS => ro_fieldAddr (k := 0) rfl fo_108_0) ?_
    refine ql_ro rfl (fun w hS => ro_indexAddrA (et := 104) (k := 130) rfl rfl ar_105 (rfl) (hi)) ?_
    refine ql_ro rfl (fun w hS => ro_fieldAddr (k := 129) rfl fo_104_3) ?_
    refine ql_ro rfl (fun w hS => ro_loadB rfl sc_97 (Blk.of_heap hB hS) (cel_at (by omega) (by omega) (hA2.c i hi))) ?_
    refine ql_ro rfl (fun w hS => ro_move rfl) ?_
    refine ql_ro rfl (fun w hS => ro_arith (r := ((l.length * 8 : Nat) : Int)) rfl rfl (congrArg some (by simp)) (Go.IntWalk.i64_in _ (by omega))) ?_
    refine ql_ro rfl (fun w hS => ro_move rfl) ?_
    refine ql_ro rfl (fun w hS => ro_arith (r := ((l.length + 1 : Nat) : Int)) rfl rfl rfl (Go.IntWalk.i64_in _ (by omega))) ?_
    refine ql_ro rfl (fun w hS => ro_arith (r := (((l.length + 1) * 8 : Nat) : Int)) rfl rfl (congrArg some (by simp)) (Go.IntWalk.i64_in _ (by omega))) ?_
    refine ql_ro rfl (fun w hS => ro_sliceN (l := l.length * 8) (h := (l.length + 1) * 8) rfl rfl rfl se_97 rfl rfl (by omega) (by omega) (by omega)) ?_
    refine ql_ro rfl (fun w hS => ro_move rfl) ?_
    refine ql_ro rfl (fun w hS => ro_nilCheck rfl) ?_
    refine ql_ro rfl (fun w hS => ro_fieldAddr (k := 262) rfl fo_108_3) ?_
    refine ql_ro rfl (fun w hS => ro_loadB rfl sc_97 (Blk.of_heap hB hS) (cel_at (by omega) (by omega) hA2.rg)) ?_
    refine ql_copy (m := 8) (k := 1) rfl rfl rfl se_97 hC hR (by show min _ _ = _; omega) (fun j hj ↦ rfl) (by omega) (by omega) ?_
    intro w3 hC F3
    replace hF := hF.transG F3 (by intro k hk h; simp only [one, two, none', fset] at h ⊢ <;> omega)
    replace hB := F3.blkF hB (by intro h; simp only [one, two, none', fset] at h <;> omega)
    replace hK := F3.blkF hK (by intro h; simp only [one, two, none', fset] at h <;> omega)
    replace hR := F3.blkF hR (by intro h; simp only [one, two, none', fset] at h <;> omega)
    replace hG := F3.blkF hG (by intro h; simp only [one, two, none', fset] at h <;> omega)
    replace hX := F3.blkF hX (by intro h; simp only [one, two, none', fset] at h <;> omega)
    refine x_blk ?_
    refine bp_end Tryz.results87 rfl ?_
    exact ⟨rfl, ⟨_, _, _, l ++ [(pc, reg)], S, reg, by simp [follow, hx], by simp, by omega, ⟨hB, hC, hK, hR, hA2, hL2 reg, hcp.cpy hr8, hsv, hr8⟩, hO2⟩, hG, hF⟩
  · skip
    refine c_reg ?_ -- region 1 machine.go:103
    refine wl (ro_move rfl) ?_
    refine wl (ro_move rfl) ?_
    refine wl (ro_indexAddr (et := 175) (k := 7) rfl rfl se_109 (rfl) (hpc)) ?_
    refine wl (ro_loadAggB rfl ag_175 (hG) (rfl) (hld)) ?_
    refine wl_new (ze_175) (fun xb w3 hbxb hX F3 => ?_)
    have hbsxb := Nat.le_trans hF.size hbxb
    have hneP.pbxb : P.pb < xb := Nat.lt_of_lt_of_le hB.lt hbxb
    have hneP.cixb : P.c i < xb := Nat.lt_of_lt_of_le hC.lt hbxb
    have hneP.stxb : P.st < xb := Nat.lt_of_lt_of_le hK.lt hbxb
    have hneP.rgxb : P.rg < xb := Nat.lt_of_lt_of_le hR.lt hbxb
    have hnegbxb : gb < xb := Nat.lt_of_lt_of_le hG.lt hbxb
    replace hF := hF.thenDrew.thenN F3
    replace hB := F3.blkN hB
    replace hC := F3.blkN hC
    replace hK := F3.blkN hK
    replace hR := F3.blkN hR
    replace hG := F3.blkN hG
    refine wl_puta rfl rfl ((ric_cells _)) sz_175 (rfl) hX ((by simp)) (rfl) (fun w4 hX F4 => ?_)
    replace hF := hF.thenDrew.thenO F4 (by first | exact .inr (by omega) | exact .inl rfl | exact .inl (by assumption))
    replace hB := F4.blkO hB (by omega)
    replace hC := F4.blkO hC (by omega)
    replace hK := F4.blkO hK (by omega)
    replace hR := F4.blkO hR (by omega)
    replace hG := F4.blkO hG (by omega)
    refine wl_nil (x_then (hK2 _ _ ?_))
    clear hK2 K2
    refine forget [(0, _), (2, _), (3, _), (4, _), (5, _), (12, _), (13, _)] ⟨rfl, rfl, rfl, rfl, rfl, rfl, rfl, trivial⟩ (fun e => ?_)
    refine c_seq (fun K9 hK9 => ?_)
    refine c_reg ?_ -- region 2 machine.go:104
    refine wl (ro_fieldAddr (k := 0) rfl fo_175_0) ?_
    refine wl (ro_loadB rfl sc_3 (hX) (rfl)) ?_
    refine wl_nil (x_then (hK9 _ _ ?_))
    clear hK9 K9
    refine c_block ?_
    refine forget [(0, _), (2, _), (3, _), (4, _), (5, _), (12, _), (13, _), (23, _)] ⟨rfl, rfl, rfl, rfl, rfl, rfl, rfl, rfl, trivial⟩ (fun e => ?_)
    refine c_seq (fun K10 hK10 => ?_)
    refine c_reg ?_ -- region 4 machine.go:105
    refine wl (ro_cmp rfl rfl rfl) ?_
    refine wl (ro_assign rfl) ?_
    refine wl_nil (x_then (hK10 _ _ ?_))
    clear hK10 K10
    refine wc_condF rfl ?_
    refine c_seq (fun K11 hK11 => ?_)
    refine c_reg ?_ -- region 6 machine.go:107
    refine wl (ro_cmp rfl rfl rfl) ?_
    refine wl (ro_assign rfl) ?_
    refine wl_nil (x_then (hK11 _ _ ?_))
    clear hK11 K11
    refine wc_condT rfl ?_
    refine c_seq (fun K12 hK12 => ?_)
    refine c_reg ?_ -- region 7 machine.go:108
    refine wl (ro_move rfl) ?_
    refine wl (ro_fieldAddr (k := 2) rfl fo_175_2) ?_
    refine wl (ro_loadB rfl sc_3 (hX) ((show _ = some (i64c b) from rfl))) ?_
    refine wl_call rfl en_85 (push85 (sp := S.length) hB hK hA2.st hA2.sp (by omega) (by omega)) ?_
    rintro _ w3 ⟨rfl, hB, hK, F3⟩
    replace hF := hF.transG F3 (by intro k hk h; simp only [one, two, none', fset] at h ⊢ <;> omega)
    replace hC := F3.blkF hC (by intro h; simp only [one, two, none', fset] at h <;> omega)
    replace hR := F3.blkF hR (by intro h; simp only [one, two, none', fset] at h <;> omega)
    replace hG := F3.blkF hG (by intro h; simp only [one, two, none', fset] at h <;> omega)
    replace hX := F3.blkF hX (by intro h; simp only [one, two, none', fset] at h <;> omega)
    have hA3 := hA2.sp' (sp' := S.length + 1)
    refine wl_nil (x_then (hK12 _ _ ?_))
    clear hK12 K12
    refine c_reg ?_ -- region 8 machine.go:109
    refine wl (ro_move rfl) ?_
    refine wl (ro_fieldAddr (k := 1) rfl fo_175_1) ?_
    refine wl (ro_loadB rfl sc_3 (hX) ((show _ = some (i64c a) from rfl))) ?_
    refine wl_call rfl en_85 (push85 (sp := S.length + 1) hB hK hA3.st hA3.sp (by omega) (by omega)) ?_
    rintro _ w4 ⟨rfl, hB, hK, F4⟩
    replace hF := hF.transG F4 (by intro k hk h; simp only [one, two, none', fset] at h ⊢ <;> omega)
    replace hC := F4.blkF hC (by intro h; simp only [one, two, none', fset] at h <;> omega)
    replace hR := F4.blkF hR (by intro h; simp only [one, two, none', fset] at h <;> omega)
    replace hG := F4.blkF hG (by intro h; simp only [one, two, none', fset] at h <;> omega)
    replace hX := F4.blkF hX (by intro h; simp only [one, two, none', fset] at h <;> omega)
    refine wl_nil (x_blk ?_)
    refine bp_end Tryz.results87 rfl ?_
    exact ⟨rfl, ⟨_, _, _, l ++ [(pc, [])], S ++ [(Sum.inl b : Frm)] ++ [(Sum.inl a : Frm)], reg, by simp [follow, hx], by simp, by simp, ⟨hB, hC, hK, hR, by rw [List.length_append, List.length_append]; exact hA3.sp', ((hL2 []).pt hi (by omega)).pt hi (by omega), hcp.app (by simp [waits, hx]), by have := (hsv.push (.inl b)).push (.inl a); rw [List.length_append] at this; exact this, hr8⟩, fun j l2 h1 h2 h3 => ((hO2 j l2 h1 h2 h3).pt h1 (by omega)).pt h1 (by omega)⟩, hG, hF⟩
  · skip
    refine c_reg ?_ -- region 1 machine.go:103
    refine wl (ro_move rfl) ?_
    refine wl (ro_move rfl) ?_
    refine wl (ro_indexAddr (et := 175) (k := 7) rfl rfl se_109 (rfl) (hpc)) ?_
    refine wl (ro_loadAggB rfl ag_175 (hG) (rfl) (hld)) ?_
    refine wl_new (ze_175) (fun xb w5 hbxb hX F5 => ?_)
    have hbsxb := Nat.le_trans hF.size hbxb
    have hneP.pbxb : P.pb < xb := Nat.lt_of_lt_of_le hB.lt hbxb
    have hneP.cixb : P.c i < xb := Nat.lt_of_lt_of_le hC.lt hbxb
    have hneP.stxb : P.st < xb := Nat.lt_of_lt_of_le hK.lt hbxb
    have hneP.rgxb : P.rg < xb := Nat.lt_of_lt_of_le hR.lt hbxb
    have hnegbxb : gb < xb := Nat.lt_of_lt_of_le hG.lt hbxb
    replace hF := hF.thenDrew.thenN F5
    replace hB := F5.blkN hB
    replace hC := F5.blkN hC
    replace hK := F5.blkN hK
    replace hR := F5.blkN hR
    replace hG := F5.blkN hG
    refine wl_puta rfl rfl ((ric_cells _)) sz_175 (rfl) hX ((by simp)) (rfl) (fun w6 hX F6 => ?_)
    replace hF := hF.thenDrew.thenO F6 (by first | exact .inr (by omega) | exact .inl rfl | exact .inl (by assumption))
    replace hB := F6.blkO hB (by omega)
    replace hC := F6.blkO hC (by omega)
    replace hK := F6.blkO hK (by omega)
    replace hR := F6.blkO hR (by omega)
    replace hG := F6.blkO hG (by omega)
    refine wl_nil (x_then (hK2 _ _ ?_))
    clear hK2 K2
    refine forget [(0, _), (2, _), (3, _), (4, _), (5, _), (12, _), (13, _)] ⟨rfl, rfl, rfl, rfl, rfl, rfl, rfl, trivial⟩ (fun e => ?_)
    refine c_seq (fun K13 hK13 => ?_)
    refine c_reg ?_ -- region 2 machine.go:104
    refine wl (ro_fieldAddr (k := 0) rfl fo_175_0) ?_
    refine wl (ro_loadB rfl sc_3 (hX) (rfl)) ?_
    refine wl_nil (x_then (hK13 _ _ ?_))
    clear hK13 K13
    refine c_block ?_
    refine forget [(0, _), (2, _), (3, _), (4, _), (5, _), (12, _), (13, _), (23, _)] ⟨rfl, rfl, rfl, rfl, rfl, rfl, rfl, rfl, trivial⟩ (fun e => ?_)
    refine c_seq (fun K14 hK14 => ?_)
    refine c_reg ?_ -- region 4 machine.go:105
    refine wl (ro_cmp rfl rfl rfl) ?_
    refine wl (ro_assign rfl) ?_
    refine wl_nil (x_then (hK14 _ _ ?_))
    clear hK14 K14
    refine wc_condT rfl ?_
    refine c_reg ?_ -- region 5 machine.go:106
    refine wl (ro_move rfl) ?_
    refine wl (ro_fieldAddr (k := 1) rfl fo_175_1) ?_
    refine wl (ro_loadB rfl sc_3 (hX) ((show _ = some (i64c a) from rfl))) ?_
    refine wl_call rfl en_85 (push85 (sp := S.length) hB hK hA2.st hA2.sp (by omega) (by omega)) ?_
    rintro _ w3 ⟨rfl, hB, hK, F3⟩
    replace hF := hF.transG F3 (by intro k hk h; simp only [one, two, none', fset] at h ⊢ <;> omega)
    replace hC := F3.blkF hC (by intro h; simp only [one, two, none', fset] at h <;> omega)
    replace hR := F3.blkF hR (by intro h; simp only [one, two, none', fset] at h <;> omega)
    replace hG := F3.blkF hG (by intro h; simp only [one, two, none', fset] at h <;> omega)
    replace hX := F3.blkF hX (by intro h; simp only [one, two, none', fset] at h <;> omega)
    refine wl_nil (x_blk ?_)
    refine bp_end Tryz.results87 rfl ?_
    exact ⟨rfl, ⟨_, _, _, l ++ [(pc, [])], S ++ [(Sum.inl a : Frm)], reg, by simp [follow, hx], by simp, by simp, ⟨hB, hC, hK, hR, by rw [List.length_append]; exact hA2.sp', (hL2 []).pt hi (by omega), hcp.app (by simp [waits, hx]), hsv.push (.inl a), hr8⟩, fun j l2 h1 h2 h3 => (hO2 j l2 h1 h2 h3).pt h1 (by omega)⟩, hG, hF⟩
  · skip
    refine c_reg ?_ -- region 1 machine.go:103
    refine wl (ro_move rfl) ?_
    refine wl (ro_move rfl) ?_
    refine wl (ro_indexAddr (et := 175) (k := 7) rfl rfl se_109 (rfl) (hpc)) ?_
    refine wl (ro_loadAggB rfl ag_175 (hG) (rfl) (hld)) ?_
    refine wl_new (ze_175) (fun xb w7 hbxb hX F7 => ?_)
    have hbsxb := Nat.le_trans hF.size hbxb
    have hneP.pbxb : P.pb < xb := Nat.lt_of_lt_of_le hB.lt hbxb
    have hneP.cixb : P.c i < xb := Nat.lt_of_lt_of_le hC.lt hbxb
    have hneP.stxb : P.st < xb := Nat.lt_of_lt_of_le hK.lt hbxb
    have hneP.rgxb : P.rg < xb := Nat.lt_of_lt_of_le hR.lt hbxb
    have hnegbxb : gb < xb := Nat.lt_of_lt_of_le hG.lt hbxb
    replace hF := hF.thenDrew.thenN F7
    replace hB := F7.blkN hB
    replace hC := F7.blkN hC
    replace hK := F7.blkN hK
    replace hR := F7.blkN hR
    replace hG := F7.blkN hG
    refine wl_puta rfl rfl ((ric_cells _)) sz_175 (rfl) hX ((by simp)) (rfl) (fun w8 hX F8 => ?_)
    replace hF := hF.thenDrew.thenO F8 (by first | exact .inr (by omega) | exact .inl rfl | exact .inl (by assumption))
    replace hB := F8.blkO hB (by omega)
    replace hC := F8.blkO hC (by omega)
    replace hK := F8.blkO hK (by omega)
    replace hR := F8.blkO hR (by omega)
    replace hG := F8.blkO hG (by omega)
    refine wl_nil (x_then (hK2 _ _ ?_))
    clear hK2 K2
    refine forget [(0, _), (2, _), (3, _), (4, _), (5, _), (12, _), (13, _)] ⟨rfl, rfl, rfl, rfl, rfl, rfl, rfl, trivial⟩ (fun e => ?_)
    refine c_seq (fun K15 hK15 => ?_)
    refine c_reg ?_ -- region 2 machine.go:104
    refine wl (ro_fieldAddr (k := 0) rfl fo_175_0) ?_
    refine wl (ro_loadB rfl sc_3 (hX) (rfl)) ?_
    refine wl_nil (x_then (hK15 _ _ ?_))
    clear hK15 K15
    refine c_block ?_
    refine forget [(0, _), (2, _), (3, _), (4, _), (5, _), (12, _), (13, _), (23, _)] ⟨rfl, rfl, rfl, rfl, rfl, rfl, rfl, rfl, trivial⟩ (fun e => ?_)
    refine c_seq (fun K16 hK16 => ?_)
    refine c_reg ?_ -- region 4 machine.go:105
    refine wl (ro_cmp rfl rfl rfl) ?_
    refine wl (ro_assign rfl) ?_
    refine wl_nil (x_then (hK16 _ _ ?_))
    clear hK16 K16
    refine wc_condF rfl ?_
    refine c_seq (fun K17 hK17 => ?_)
    refine c_reg ?_ -- region 6 machine.go:107
    refine wl (ro_cmp rfl rfl rfl) ?_
    refine wl (ro_assign rfl) ?_
    refine wl_nil (x_then (hK17 _ _ ?_))
    clear hK17 K17
    refine wc_condF rfl ?_
    refine c_seq (fun K18 hK18 => ?_)
    refine c_reg ?_ -- region 9 machine.go:110
    refine wl (ro_cmp rfl rfl rfl) ?_
    refine wl (ro_assign rfl) ?_
    refine wl_nil (x_then (hK18 _ _ ?_))
    clear hK18 K18
    refine wc_condT rfl ?_
    refine c_seq (fun K19 hK19 => ?_)
    refine c_piL9 11 [(0, false), (1, false), (2, false), (3, false), (4, false), (5, false), (6, false), (7, false), (8, false), (9, false), (10, false)] (SameH _) mixed (by kernel_rfl) rfl (by kernel_rfl) (po_then (po_blk (po_bp))) (sameH_now _ _) ?_ -- region 10 machine.go:111
    refine ql_ro rfl (fun w hS => ro_move rfl) ?_
    refine ql_ro rfl (fun w hS => ro_fieldAddr (k := 1) rfl fo_175_1) ?_
    refine ql_ro rfl (fun w hS => ro_loadB rfl sc_3 (Blk.of_heap hX hS) ((show _ = some (i64c a) from rfl))) ?_
    refine ql_ro rfl (fun w hS => ro_move rfl) ?_
    refine ql_ro rfl (fun w hS => ro_nilCheck rfl) ?_
    refine ql_ro rfl (fun w hS => ro_fieldAddr (k := 262) rfl fo_108_3) ?_
    refine ql_ro rfl (fun w hS => ro_loadB rfl sc_97 (Blk.of_heap hB hS) (cel_at (by omega) (by omega) hA2.rg)) ?_
    refine ql_ro rfl (fun w hS => ro_fieldAddr (k := 1) rfl fo_175_1) ?_
    refine ql_ro rfl (fun w hS => ro_loadB rfl sc_3 (Blk.of_heap hX hS) ((show _ = some (i64c a) from rfl))) ?_
    refine ql_ro rfl (fun w hS => ro_indexAddr (et := 3) (k := 1) rfl rfl se_97 (rfl) ((by have := hok.2; omega : a < 8))) ?_
    refine ql_ro rfl (fun w hS => ro_loadB rfl sc_3 (Blk.of_heap hR hS) (cel_at (by have := hok.2; omega) (by omega) (show rgv reg a = icv (reg.getD a 0) from rfl))) ?_
    refine ql_lastC rfl rfl en_85 (push85 (sp := S.length) hB hK hA2.st hA2.sp (by omega) (by omega)) ?_
    rintro _ w3 ⟨rfl, hB, hK, F3⟩
    replace hF := hF.transG F3 (by intro k hk h; simp only [one, two, none', fset] at h ⊢ <;> omega)
    replace hC := F3.blkF hC (by intro h; simp only [one, two, none', fset] at h <;> omega)
    replace hR := F3.blkF hR (by intro h; simp only [one, two, none', fset] at h <;> omega)
    replace hG := F3.blkF hG (by intro h; simp only [one, two, none', fset] at h <;> omega)
    replace hX := F3.blkF hX (by intro h; simp only [one, two, none', fset] at h <;> omega)
    have hA3 := hA2.sp' (sp' := S.length + 1)
    refine x_then (hK19 _ _ ?_)
    clear hK19 K19
    refine forget [(0, _), (4, _), (5, _), (13, _)] ⟨rfl, rfl, rfl, rfl, trivial⟩ (fun e => ?_)
    refine c_seq (fun K20 hK20 => ?_)
    refine c_piL 8 [(0, false), (1, false), (2, false), (3, false), (4, false), (5, false), (6, false), (7, false)] (SameH _) mixed (by kernel_rfl) rfl (by kernel_rfl) (po_then (po_blk (po_bp))) (sameH_now _ _) ?_ -- region 11 machine.go:112
    refine ql_ro rfl (fun w hS => ro_move rfl) ?_
    refine ql_ro rfl (fun w hS => ro_nilCheck rfl) ?_
    refine ql_ro rfl (fun w hS => ro_fieldAddr (k := 262) rfl fo_108_3) ?_
    refine ql_ro rfl (fun w hS => ro_loadB rfl sc_97 (Blk.of_heap hB hS) (cel_at (by omega) (by omega) hA3.rg)) ?_
    refine ql_ro rfl (fun w hS => ro_fieldAddr (k := 1) rfl fo_175_1) ?_
    refine ql_ro rfl (fun w hS => ro_loadB rfl sc_3 (Blk.of_heap hX hS) ((show _ = some (i64c a) from rfl))) ?_
    refine ql_ro rfl (fun w hS => ro_move rfl) ?_
    refine ql_ro rfl (fun w hS => ro_indexAddr (et := 3) (k := 1) rfl rfl se_97 (rfl) ((by have := hok.2; omega : a < 8))) ?_
    refine ql_put rfl rfl rfl rfl sz_3 hR ((cel_lt (by have := hok.2; omega))) ((cel_put a (by omega))) (fun w9 hR F9 => ?_)
    replace hF := hF.thenDrew.thenO F9 (by first | exact .inr (by omega) | exact .inl rfl | exact .inl (by assumption))
    replace hB := F9.blkO hB (by omega)
    replace hC := F9.blkO hC (by omega)
    replace hK := F9.blkO hK (by omega)
    replace hG := F9.blkO hG (by omega)
    replace hX := F9.blkO hX (by omega)
    refine x_then (hK20 _ _ ?_)
    clear hK20 K20
    refine c_reg ?_ -- region 12 machine.go:113
    refine wl (ro_move rfl) ?_
    refine wl (ro_move rfl) ?_
    refine wl (ro_arith (r := ((pc + 1 : Nat) : Int)) rfl rfl rfl (Go.IntWalk.i64_in _ (by omega))) ?_
    refine wl_call rfl en_85 (push85 (sp := S.length + 1) hB hK hA3.st hA3.sp (by omega) (by omega)) ?_
    rintro _ w4 ⟨rfl, hB, hK, F4⟩
    replace hF := hF.transG F4 (by intro k hk h; simp only [one, two, none', fset] at h ⊢ <;> omega)
    replace hC := F4.blkF hC (by intro h; simp only [one, two, none', fset] at h <;> omega)
    replace hR := F4.blkF hR (by intro h; simp only [one, two, none', fset] at h <;> omega)
    replace hG := F4.blkF hG (by intro h; simp only [one, two, none', fset] at h <;> omega)
    replace hX := F4.blkF hX (by intro h; simp only [one, two, none', fset] at h <;> omega)
    refine wl_nil (x_blk ?_)
    refine bp_end Tryz.results87 rfl ?_
    exact ⟨rfl, ⟨_, _, _, l ++ [(pc, [])], S ++ [(Sum.inr (a, reg.getD a 0) : Frm)] ++ [(Sum.inl (pc + 1) : Frm)], reg.set a at0, by simp [follow, hx], by simp, by simp, ⟨hB, hC, hK, by rw [rgv_set (by have := hok.2; omega)]; exact hR, by rw [List.length_append, List.length_append]; exact hA3.sp', ((hL2 []).pt hi (by omega)).pt hi (by omega), hcp.app (by simp [waits, hx]), by have := (hsv.push (.inr (a, reg.getD a 0))).push (.inl (pc + 1)); rw [List.length_append] at this; exact this, by rw [List.length_set]; exact hr8⟩, fun j l2 h1 h2 h3 => ((hO2 j l2 h1 h2 h3).pt h1 (by omega)).pt h1 (by omega)⟩, hG, hF⟩
  · skip
    refine c_reg ?_ -- region 1 machine.go:103
    refine wl (ro_move rfl) ?_
    refine wl (ro_move rfl) ?_
    refine wl (ro_indexAddr (et := 175) (k := 7) rfl rfl se_109 (rfl) (hpc)) ?_
    refine wl (ro_loadAggB rfl ag_175 (hG) (rfl) (hld)) ?_
    refine wl_new (ze_175) (fun xb w10 hbxb hX F10 => ?_)
    have hbsxb := Nat.le_trans hF.size hbxb
    have hneP.pbxb : P.pb < xb := Nat.lt_of_lt_of_le hB.lt hbxb
    have hneP.cixb : P.c i < xb := Nat.lt_of_lt_of_le hC.lt hbxb
    have hneP.stxb : P.st < xb := Nat.lt_of_lt_of_le hK.lt hbxb
    have hneP.rgxb : P.rg < xb := Nat.lt_of_lt_of_le hR.lt hbxb
    have hnegbxb : gb < xb := Nat.lt_of_lt_of_le hG.lt hbxb
    replace hF := hF.thenDrew.thenN F10
    replace hB := F10.blkN hB
    replace hC := F10.blkN hC
    replace hK := F10.blkN hK
    replace hR := F10.blkN hR
    replace hG := F10.blkN hG
    refine wl_puta rfl rfl ((ric_cells _)) sz_175 (rfl) hX ((by simp)) (rfl) (fun w11 hX F11 => ?_)
    replace hF := hF.thenDrew.thenO F11 (by first | exact .inr (by omega) | exact .inl rfl | exact .inl (by assumption))
    replace hB := F11.blkO hB (by omega)
    replace hC := F11.blkO hC (by omega)
    replace hK := F11.blkO hK (by omega)
    replace hR := F11.blkO hR (by omega)
    replace hG := F11.blkO hG (by omega)
    refine wl_nil (x_then (hK2 _ _ ?_))
    clear hK2 K2
    refine forget [(0, _), (2, _), (3, _), (4, _), (5, _), (12, _), (13, _)] ⟨rfl, rfl, rfl, rfl, rfl, rfl, rfl, trivial⟩ (fun e => ?_)
    refine c_seq (fun K21 hK21 => ?_)
    refine c_reg ?_ -- region 2 machine.go:104
    refine wl (ro_fieldAddr (k := 0) rfl fo_175_0) ?_
    refine wl (ro_loadB rfl sc_3 (hX) (rfl)) ?_
    refine wl_nil (x_then (hK21 _ _ ?_))
    clear hK21 K21
    refine c_block ?_
    refine forget [(0, _), (2, _), (3, _), (4, _), (5, _), (12, _), (13, _), (23, _)] ⟨rfl, rfl, rfl, rfl, rfl, rfl, rfl, rfl, trivial⟩ (fun e => ?_)
    refine c_seq (fun K22 hK22 => ?_)
    refine c_reg ?_ -- region 4 machine.go:105
    refine wl (ro_cmp rfl rfl rfl) ?_
    refine wl (ro_assign rfl) ?_
    refine wl_nil (x_then (hK22 _ _ ?_))
    clear hK22 K22
    refine wc_condF rfl ?_
    refine c_seq (fun K23 hK23 => ?_)
    refine c_reg ?_ -- region 6 machine.go:107
    refine wl (ro_cmp rfl rfl rfl) ?_
    refine wl (ro_assign rfl) ?_
    refine wl_nil (x_then (hK23 _ _ ?_))
    clear hK23 K23
    refine wc_condF rfl ?_
    refine c_seq (fun K24 hK24 => ?_)
    refine c_reg ?_ -- region 9 machine.go:110
    refine wl (ro_cmp rfl rfl rfl) ?_
    refine wl (ro_assign rfl) ?_
    refine wl_nil (x_then (hK24 _ _ ?_))
    clear hK24 K24
    refine wc_condF rfl ?_
    refine c_seq (fun K25 hK25 => ?_)
    refine c_reg ?_ -- region 13 machine.go:114
    refine wl (ro_cmp rfl rfl rfl) ?_
    refine wl (ro_assign rfl) ?_
    refine wl_nil (x_then (hK25 _ _ ?_))
    clear hK25 K25
    refine wc_condT rfl ?_
    refine c_seq (fun K26 hK26 => ?_)
    refine c_reg ?_ -- region 14 machine.go:115
    refine wl (ro_move rfl) ?_
    refine wl (ro_cmp (r := decide (at0 = 0)) rfl rfl (congrArg some (beqc at0 0))) ?_
    refine wl_nil (x_then (hK26 _ _ ?_))
    clear hK26 K26
    refine wc_cond rfl (fun hc87 => ?_) (fun hc87 => ?_)
    · try simp only [decide_eq_true_eq, decide_eq_false_iff_not, Bool.not_eq_true', Bool.not_eq_false', Bool.not_eq_eq_eq_not, Bool.not_true, Bool.not_false, beq_iff_eq, bne_iff_ne, ne_eq, beq_eq_false_iff_ne, bne_eq_false_iff_eq, gt_iff_lt, ge_iff_le, Int.not_lt, Int.not_le] at hc87
      refine c_reg ?_ -- region 15 machine.go:116
      refine wl (ro_move rfl) ?_
      refine wl (ro_move rfl) ?_
      refine wl (ro_arith (r := ((pc + 1 : Nat) : Int)) rfl rfl rfl (Go.IntWalk.i64_in _ (by omega))) ?_
      refine wl_call rfl en_85 (push85 (sp := S.length) hB hK hA2.st hA2.sp (by omega) (by omega)) ?_
      rintro _ w3 ⟨rfl, hB, hK, F3⟩
      replace hF := hF.transG F3 (by intro k hk h; simp only [one, two, none', fset] at h ⊢ <;> omega)
      replace hC := F3.blkF hC (by intro h; simp only [one, two, none', fset] at h <;> omega)
      replace hR := F3.blkF hR (by intro h; simp only [one, two, none', fset] at h <;> omega)
      replace hG := F3.blkF hG (by intro h; simp only [one, two, none', fset] at h <;> omega)
      replace hX := F3.blkF hX (by intro h; simp only [one, two, none', fset] at h <;> omega)
      refine wl_nil (x_blk ?_)
      refine bp_end Tryz.results87 rfl ?_
      exact ⟨rfl, ⟨_, _, _, l ++ [(pc, [])], S ++ [(Sum.inl (pc + 1) : Frm)], reg, by simp [follow, hx, hc87], by simp, by simp, ⟨hB, hC, hK, hR, by rw [List.length_append]; exact hA2.sp', (hL2 []).pt hi (by omega), hcp.app (by simp [waits, hx]), hsv.push (.inl (pc + 1)), hr8⟩, fun j l2 h1 h2 h3 => (hO2 j l2 h1 h2 h3).pt h1 (by omega)⟩, hG, hF⟩
    · try simp only [decide_eq_true_eq, decide_eq_false_iff_not, Bool.not_eq_true', Bool.not_eq_false', Bool.not_eq_eq_eq_not, Bool.not_true, Bool.not_false, beq_iff_eq, bne_iff_ne, ne_eq, beq_eq_false_iff_ne, bne_eq_false_iff_eq, gt_iff_lt, ge_iff_le, Int.not_lt, Int.not_le] at hc87
      refine c_skip (x_blk ?_)
      refine bp_end Tryz.results87 rfl ?_
      exact ⟨rfl, ⟨_, _, _, l ++ [(pc, [])], S, reg, by simp [follow, hx, hc87], by simp, by omega, ⟨hB, hC, hK, hR, hA2, hL2 [], hcp.app (by simp [waits, hx]), hsv, hr8⟩, hO2⟩, hG, hF⟩
  · skip
    refine c_reg ?_ -- region 1 machine.go:103
    refine wl (ro_move rfl) ?_
    refine wl (ro_move rfl) ?_
    refine wl (ro_indexAddr (et := 175) (k := 7) rfl rfl se_109 (rfl) (hpc)) ?_
    refine wl (ro_loadAggB rfl ag_175 (hG) (rfl) (hld)) ?_
    refine wl_new (ze_175) (fun xb w12 hbxb hX F12 => ?_)
    have hbsxb := Nat.le_trans hF.size hbxb
    have hneP.pbxb : P.pb < xb := Nat.lt_of_lt_of_le hB.lt hbxb
    have hneP.cixb : P.c i < xb := Nat.lt_of_lt_of_le hC.lt hbxb
    have hneP.stxb : P.st < xb := Nat.lt_of_lt_of_le hK.lt hbxb
    have hneP.rgxb : P.rg < xb := Nat.lt_of_lt_of_le hR.lt hbxb
    have hnegbxb : gb < xb := Nat.lt_of_lt_of_le hG.lt hbxb
    replace hF := hF.thenDrew.thenN F12
    replace hB := F12.blkN hB
    replace hC := F12.blkN hC
    replace hK := F12.blkN hK
    replace hR := F12.blkN hR
    replace hG := F12.blkN hG
    refine wl_puta rfl rfl ((ric_cells _)) sz_175 (rfl) hX ((by simp)) (rfl) (fun w13 hX F13 => ?_)
    replace hF := hF.thenDrew.thenO F13 (by first | exact .inr (by omega) | exact .inl rfl | exact .inl (by assumption))
    replace hB := F13.blkO hB (by omega)
    replace hC := F13.blkO hC (by omega)
    replace hK := F13.blkO hK (by omega)
    replace hR := F13.blkO hR (by omega)
    replace hG := F13.blkO hG (by omega)
    refine wl_nil (x_then (hK2 _ _ ?_))
    clear hK2 K2
    refine forget [(0, _), (2, _), (3, _), (4, _), (5, _), (12, _), (13, _)] ⟨rfl, rfl, rfl, rfl, rfl, rfl, rfl, trivial⟩ (fun e => ?_)
    refine c_seq (fun K27 hK27 => ?_)
    refine c_reg ?_ -- region 2 machine.go:104
    refine wl (ro_fieldAddr (k := 0) rfl fo_175_0) ?_
    refine wl (ro_loadB rfl sc_3 (hX) (rfl)) ?_
    refine wl_nil (x_then (hK27 _ _ ?_))
    clear hK27 K27
    refine c_block ?_
    refine forget [(0, _), (2, _), (3, _), (4, _), (5, _), (12, _), (13, _), (23, _)] ⟨rfl, rfl, rfl, rfl, rfl, rfl, rfl, rfl, trivial⟩ (fun e => ?_)
    refine c_seq (fun K28 hK28 => ?_)
    refine c_reg ?_ -- region 4 machine.go:105
    refine wl (ro_cmp rfl rfl rfl) ?_
    refine wl (ro_assign rfl) ?_
    refine wl_nil (x_then (hK28 _ _ ?_))
    clear hK28 K28
    refine wc_condF rfl ?_
    refine c_seq (fun K29 hK29 => ?_)
    refine c_reg ?_ -- region 6 machine.go:107
    refine wl (ro_cmp rfl rfl rfl) ?_
    refine wl (ro_assign rfl) ?_
    refine wl_nil (x_then (hK29 _ _ ?_))
    clear hK29 K29
    refine wc_condF rfl ?_
    refine c_seq (fun K30 hK30 => ?_)
    refine c_reg ?_ -- region 9 machine.go:110
    refine wl (ro_cmp rfl rfl rfl) ?_
    refine wl (ro_assign rfl) ?_
    refine wl_nil (x_then (hK30 _ _ ?_))
    clear hK30 K30
    refine wc_condF rfl ?_
    refine c_seq (fun K31 hK31 => ?_)
    refine c_reg ?_ -- region 13 machine.go:114
    refine wl (ro_cmp rfl rfl rfl) ?_
    refine wl (ro_assign rfl) ?_
    refine wl_nil (x_then (hK31 _ _ ?_))
    clear hK31 K31
    refine wc_condF rfl ?_
    refine c_seq (fun K32 hK32 => ?_)
    refine c_reg ?_ -- region 16 machine.go:118
    refine wl (ro_cmp rfl rfl rfl) ?_
    refine wl (ro_assign rfl) ?_
    refine wl_nil (x_then (hK32 _ _ ?_))
    clear hK32 K32
    refine wc_condT rfl ?_
    refine c_seq (fun K33 hK33 => ?_)
    refine c_reg ?_ -- region 17 machine.go:119
    refine wl (ro_move rfl) ?_
    refine wl (ro_move rfl) ?_
    refine wl (ro_cmp (r := decide (at0 = n)) rfl rfl (congrArg some (beqc at0 n))) ?_
    refine wl_nil (x_then (hK33 _ _ ?_))
    clear hK33 K33
    refine wc_cond rfl (fun hc96 => ?_) (fun hc96 => ?_)
    · try simp only [decide_eq_true_eq, decide_eq_false_iff_not, Bool.not_eq_true', Bool.not_eq_false', Bool.not_eq_eq_eq_not, Bool.not_true, Bool.not_false, beq_iff_eq, bne_iff_ne, ne_eq, beq_eq_false_iff_ne, bne_eq_false_iff_eq, gt_iff_lt, ge_iff_le, Int.not_lt, Int.not_le] at hc96
      refine c_reg ?_ -- region 18 machine.go:120
      refine wl (ro_move rfl) ?_
      refine wl (ro_move rfl) ?_
      refine wl (ro_arith (r := ((pc + 1 : Nat) : Int)) rfl rfl rfl (Go.IntWalk.i64_in _ (by omega))) ?_
      refine wl_call rfl en_85 (push85 (sp := S.length) hB hK hA2.st hA2.sp (by omega) (by omega)) ?_
      rintro _ w3 ⟨rfl, hB, hK, F3⟩
      replace hF := hF.transG F3 (by intro k hk h; simp only [one, two, none', fset] at h ⊢ <;> omega)
      replace hC := F3.blkF hC (by intro h; simp only [one, two, none', fset] at h <;> omega)
      replace hR := F3.blkF hR (by intro h; simp only [one, two, none', fset] at h <;> omega)
      replace hG := F3.blkF hG (by intro h; simp only [one, two, none', fset] at h <;> omega)
      replace hX := F3.blkF hX (by intro h; simp only [one, two, none', fset] at h <;> omega)
      refine wl_nil (x_blk ?_)
      refine bp_end Tryz.results87 rfl ?_
      exact ⟨rfl, ⟨_, _, _, l ++ [(pc, [])], S ++ [(Sum.inl (pc + 1) : Frm)], reg, by simp [follow, hx, hc96], by simp, by simp, ⟨hB, hC, hK, hR, by rw [List.length_append]; exact hA2.sp', (hL2 []).pt hi (by omega), hcp.app (by simp [waits, hx]), hsv.push (.inl (pc + 1)), hr8⟩, fun j l2 h1 h2 h3 => (hO2 j l2 h1 h2 h3).pt h1 (by omega)⟩, hG, hF⟩
    · try simp only [decide_eq_true_eq, decide_eq_false_iff_not, Bool.not_eq_true', Bool.not_eq_false', Bool.not_eq_eq_eq_not, Bool.not_true, Bool.not_false, beq_iff_eq, bne_iff_ne, ne_eq, beq_eq_false_iff_ne, bne_eq_false_iff_eq, gt_iff_lt, ge_iff_le, Int.not_lt, Int.not_le] at hc96
      refine c_skip (x_blk ?_)
      refine bp_end Tryz.results87 rfl ?_
      exact ⟨rfl, ⟨_, _, _, l ++ [(pc, [])], S, reg, by simp [follow, hx, hc96], by simp, by omega, ⟨hB, hC, hK, hR, hA2, hL2 [], hcp.app (by simp [waits, hx]), hsv, hr8⟩, hO2⟩, hG, hF⟩
  · skip
    refine c_reg ?_ -- region 1 machine.go:103
    refine wl (ro_move rfl) ?_
    refine wl (ro_move rfl) ?_
    refine wl (ro_indexAddr (et := 175) (k := 7) rfl rfl se_109 (rfl) (hpc)) ?_
    refine wl (ro_loadAggB rfl ag_175 (hG) (rfl) (hld)) ?_
    refine wl_new (ze_175) (fun xb w14 hbxb hX F14 => ?_)
    have hbsxb := Nat.le_trans hF.size hbxb
    have hneP.pbxb : P.pb < xb := Nat.lt_of_lt_of_le hB.lt hbxb
    have hneP.cixb : P.c i < xb := Nat.lt_of_lt_of_le hC.lt hbxb
    have hneP.stxb : P.st < xb := Nat.lt_of_lt_of_le hK.lt hbxb
    have hneP.rgxb : P.rg < xb := Nat.lt_of_lt_of_le hR.lt hbxb
    have hnegbxb : gb < xb := Nat.lt_of_lt_of_le hG.lt hbxb
    replace hF := hF.thenDrew.thenN F14
    replace hB := F14.blkN hB
    replace hC := F14.blkN hC
    replace hK := F14.blkN hK
    replace hR := F14.blkN hR
    replace hG := F14.blkN hG
    refine wl_puta rfl rfl ((ric_cells _)) sz_175 (rfl) hX ((by simp)) (rfl) (fun w15 hX F15 => ?_)
    replace hF := hF.thenDrew.thenO F15 (by first | exact .inr (by omega) | exact .inl rfl | exact .inl (by assumption))
    replace hB := F15.blkO hB (by omega)
    replace hC := F15.blkO hC (by omega)
    replace hK := F15.blkO hK (by omega)
    replace hR := F15.blkO hR (by omega)
    replace hG := F15.blkO hG (by omega)
    refine wl_nil (x_then (hK2 _ _ ?_))
    clear hK2 K2
    refine forget [(0, _), (2, _), (3, _), (4, _), (5, _), (12, _), (13, _)] ⟨rfl, rfl, rfl, rfl, rfl, rfl, rfl, trivial⟩ (fun e => ?_)
    refine c_seq (fun K34 hK34 => ?_)
    refine c_reg ?_ -- region 2 machine.go:104
    refine wl (ro_fieldAddr (k := 0) rfl fo_175_0) ?_
    refine wl (ro_loadB rfl sc_3 (hX) (rfl)) ?_
    refine wl_nil (x_then (hK34 _ _ ?_))
    clear hK34 K34
    refine c_block ?_
    refine forget [(0, _), (2, _), (3, _), (4, _), (5, _), (12, _), (13, _), (23, _)] ⟨rfl, rfl, rfl, rfl, rfl, rfl, rfl, rfl, trivial⟩ (fun e => ?_)
    refine c_seq (fun K35 hK35 => ?_)
    refine c_reg ?_ -- region 4 machine.go:105
    refine wl (ro_cmp rfl rfl rfl) ?_
    refine wl (ro_assign rfl) ?_
    refine wl_nil (x_then (hK35 _ _ ?_))
    clear hK35 K35
    refine wc_condF rfl ?_
    refine c_seq (fun K36 hK36 => ?_)
    refine c_reg ?_ -- region 6 machine.go:107
    refine wl (ro_cmp rfl rfl rfl) ?_
    refine wl (ro_assign rfl) ?_
    refine wl_nil (x_then (hK36 _ _ ?_))
    clear hK36 K36
    refine wc_condF rfl ?_
    refine c_seq (fun K37 hK37 => ?_)
    refine c_reg ?_ -- region 9 machine.go:110
    refine wl (ro_cmp rfl rfl rfl) ?_
    refine wl (ro_assign rfl) ?_
    refine wl_nil (x_then (hK37 _ _ ?_))
    clear hK37 K37
    refine wc_condF rfl ?_
    refine c_seq (fun K38 hK38 => ?_)
    refine c_reg ?_ -- region 13 machine.go:114
    refine wl (ro_cmp rfl rfl rfl) ?_
    refine wl (ro_assign rfl) ?_
    refine wl_nil (x_then (hK38 _ _ ?_))
    clear hK38 K38
    refine wc_condF rfl ?_
    refine c_seq (fun K39 hK39 => ?_)
    refine c_reg ?_ -- region 16 machine.go:118
    refine wl (ro_cmp rfl rfl rfl) ?_
    refine wl (ro_assign rfl) ?_
    refine wl_nil (x_then (hK39 _ _ ?_))
    clear hK39 K39
    refine wc_condF rfl ?_
    refine c_piL9 17 [(0, false), (1, false), (2, false), (3, false), (4, false), (5, false), (6, false), (7, false), (8, false), (9, false), (10, false), (11, false), (12, false), (13, false), (14, false), (15, false), (16, false)] (SameH _) mixed (by kernel_rfl) rfl (by kernel_rfl) (po_blk (po_bp)) (sameH_now _ _) ?_ -- region 3 machine.go:123
    refine ql_ro rfl (fun w hS => ro_move rfl) ?_
    refine ql_ro rfl (fun w hS => ro_move rfl) ?_
    refine ql_ro rfl (fun w hS => ro_nilCheck rfl) ?_
    refine ql_ro rfl (fun w hS => ro_fieldAddr (k := 0) rfl fo_108_0) ?_
    refine ql_ro rfl (fun w hS => ro_indexAddrA (et := 104) (k := 130) rfl rfl ar_105 (rfl) (hi)) ?_
    refine ql_ro rfl (fun w hS => ro_fieldAddr (k := 129) rfl fo_104_3) ?_
    refine ql_ro rfl (fun w hS => ro_loadB rfl sc_97 (Blk.of_heap hB hS) (cel_at (by omega) (by omega) (hA2.c i hi))) ?_
    refine ql_ro rfl (fun w hS => ro_move rfl) ?_
    refine ql_ro rfl (fun w hS => ro_arith (r := ((l.length * 8 : Nat) : Int)) rfl rfl (congrArg some (by simp)) (Go.IntWalk.i64_in _ (by omega))) ?_
    refine ql_ro rfl (fun w hS => ro_move rfl) ?_
    refine ql_ro rfl (fun w hS => ro_arith (r := ((l.length + 1 : Nat) : Int)) rfl rfl rfl (Go.IntWalk.i64_in _ (by omega))) ?_
    refine ql_ro rfl (fun w hS => ro_arith (r := (((l.length + 1) * 8 : Nat) : Int)) rfl rfl (congrArg some (by simp)) (Go.IntWalk.i64_in _ (by omega))) ?_
    refine ql_ro rfl (fun w hS => ro_sliceN (l := l.length * 8) (h := (l.length + 1) * 8) rfl rfl rfl se_97 rfl rfl (by omega) (by omega) (by omega)) ?_
    refine ql_ro rfl (fun w hS => ro_move rfl) ?_
    refine ql_ro rfl (fun w hS => ro_nilCheck rfl) ?_
    refine ql_ro rfl (fun w hS => ro_fieldAddr (k := 262) rfl fo_108_3) ?_
    refine ql_ro rfl (fun w hS => ro_loadB rfl sc_97 (Blk.of_heap hB hS) (cel_at (by omega) (by omega) hA2.rg)) ?_
    refine ql_copy (m := 8) (k := 1) rfl rfl rfl se_97 hC hR (by show min _ _ = _; omega) (fun j hj ↦ rfl) (by omega) (by omega) ?_
    intro w3 hC F3
    replace hF := hF.transG F3 (by intro k hk h; simp only [one, two, none', fset] at h ⊢ <;> omega)
    replace hB := F3.blkF hB (by intro h; simp only [one, two, none', fset] at h <;> omega)
    replace hK := F3.blkF hK (by intro h; simp only [one, two, none', fset] at h <;> omega)
    replace hR := F3.blkF hR (by intro h; simp only [one, two, none', fset] at h <;> omega)
    replace hG := F3.blkF hG (by intro h; simp only [one, two, none', fset] at h <;> omega)
    replace hX := F3.blkF hX (by intro h; simp only [one, two, none', fset] at h <;> omega)
    refine x_blk ?_
    refine bp_end Tryz.results87 rfl ?_
    exact ⟨rfl, ⟨_, _, _, l ++ [(pc, reg)], S, reg, by simp [follow, hx], by simp, by omega, ⟨hB, hC, hK, hR, hA2, hL2 reg, hcp.cpy hr8, hsv, hr8⟩, hO2⟩, hG, hF⟩

end Go.Proofs.Qxb6500567aGreat
