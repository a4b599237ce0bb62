import Derived.Test.Qxb6500570aGreatDf
/- The real evaluator: the program laid. -/
namespace Go.Proofs.Qxb6500570aGreat
set_option linter.unusedVariables false
set_option linter.unusedSimpArgs false

def ec (B : EB) : Nat → Prop := fun b => b = B.e ∨ b = B.c
def eco (B : EB) : Nat → Prop := fun b => b = B.e ∨ b = B.c ∨ b = B.o
theorem emit183 {w : World} {B : EB} {s cl top dp dd a m : Nat} {CL : List In} {v : Vl} (ho : EBo B) (hB : Blk w.heap B.e (evs B (s + 1) cl top dp) 89) (hC : Blk w.heap B.c (rws inc CL) 213) (hl : CL.length = 48) (hs : s < 48) (hcl : cl < 2 ^ 32) (hm : m < 2 ^ 32) :
    Ret Tryz.prog 183 [ptr B.e, i64c dd, i64c a, vlA v, u32c m] w (fun _ w' => Blk w'.heap B.e (evs B s (cl ||| m) top dp) 89 ∧ Blk w'.heap B.c (rws inc (CL.set s ⟨dd, a, v, m⟩)) 213 ∧ Fram (ec B) w w') := by
  have hF : Fram (ec B) w w := Fram.refl _ _
  have hm1 : ec B B.e := .inl rfl
  have hm2 : ec B B.c := .inr rfl
  unfold EBo at ho
  refine ret_of Tryz.func183 rfl Tryz.ntmps183 rfl ?_
  refine c_seq (fun K1 hK1 => ?_)
  refine c_reg ?_ -- region 0 code.go:30
  refine wl_box rfl rfl (fun b8 w1 hbb8 h8 F1 => ?_)
  have hbsb8 := Nat.le_trans hF.size hbb8
  have hneB.eb8 : B.e < b8 := Nat.lt_of_lt_of_le hB.lt hbb8
  have hneB.cb8 : B.c < b8 := Nat.lt_of_lt_of_le hC.lt hbb8
  replace hF := hF.thenDrew.thenN F1
  replace hB := F1.blkN hB
  replace hC := F1.blkN hC
  refine wl_nil (x_then (hK1 _ _ ?_))
  clear hK1 K1
  refine forget [(0, _), (1, _), (2, _), (4, _), (8, _)] ⟨rfl, rfl, rfl, rfl, rfl, trivial⟩ (fun e => ?_)
  refine c_seq (fun K2 hK2 => ?_)
  refine c_reg ?_ -- region 1 code.go:31
  refine wl (ro_move rfl) ?_
  refine wl (ro_nilCheck rfl) ?_
  refine wl (ro_fieldAddr (k := 2) rfl fo_89_2) ?_
  refine wl (ro_loadB rfl sc_3 (by assumption) rfl) ?_
  refine wl (ro_arith (r := (s : Int)) rfl rfl (congrArg some (by omega)) (Go.IntWalk.i64_in _ (by omega))) ?_
  refine wl (ro_nilCheck rfl) ?_
  refine wl (ro_fieldAddr (k := 2) rfl fo_89_2) ?_
  refine wl_put rfl rfl rfl sz_3 hB ((by simp)) ((show _ = evs B s cl top dp from rfl)) (fun w2 hB F2 => ?_)
  replace hF := hF.thenDrew.thenO F2 (by first | exact .inr (by omega) | exact .inl rfl | exact .inl (by assumption))
  replace hC := F2.blkO hC (by omega)
  replace h8 := F2.blkO h8 (by omega)
  refine wl_nil (x_then (hK2 _ _ ?_))
  clear hK2 K2
  refine forget [(0, _), (1, _), (2, _), (4, _), (8, _)] ⟨rfl, rfl, rfl, rfl, rfl, trivial⟩ (fun e => ?_)
  refine c_seq (fun K3 hK3 => ?_)
  refine c_piL 14 [(0, false), (1, false), (2, false), (3, false), (4, false), (5, false), (6, false), (7, false), (8, false), (9, false), (10, false), (11, false), (12, false), (13, false)] (SameH _) mixed (by kernel_rfl) rfl (by kernel_rfl) (po_then (po_bp)) (sameH_now _ _) ?_ -- region 2 code.go:32
  refine ql_ro rfl (fun w hS => ro_move rfl) ?_
  refine ql_ro rfl (fun w hS => ro_nilCheck rfl) ?_
  refine ql_ro rfl (fun w hS => ro_fieldAddr (k := 1) rfl fo_89_1) ?_
  refine ql_ro rfl (fun w hS => ro_loadB rfl sc_84 (Blk.of_heap (by assumption) hS) rfl) ?_
  refine ql_ro rfl (fun w hS => ro_move rfl) ?_
  refine ql_ro rfl (fun w hS => ro_nilCheck rfl) ?_
  refine ql_ro rfl (fun w hS => ro_fieldAddr (k := 2) rfl fo_89_2) ?_
  refine ql_ro rfl (fun w hS => ro_loadB rfl sc_3 (Blk.of_heap (by assumption) hS) rfl) ?_
  refine ql_ro rfl (fun w hS => ro_move rfl) ?_
  refine ql_ro rfl (fun w hS => ro_move rfl) ?_
  refine ql_ro rfl (fun w hS => ro_loadAggB rfl ag_104 (Blk.of_heap (by assumption) hS) rfl rfl) ?_
  refine ql_ro rfl (fun w hS => ro_move rfl) ?_
  refine ql_ro rfl (fun w hS => ro_build rfl bld_213_0_1_2_3) ?_
  refine ql_ro rfl (fun w hS => ro_indexAddr (et := 213) (k := 6) rfl rfl se_84 rfl (by omega)) ?_
  refine ql_puta rfl rfl rfl ((inc_cells ⟨dd, a, v, m⟩)) sz_213 (rfl) hC ((rw_fit inc_len (i := s) (j := 0) (by omega) (by omega) (by omega))) ((rw_puta inc_len (i := s) (x' := ⟨dd, a, v, m⟩) (by omega) (by omega))) (fun w3 hC F3 => ?_)
  replace hF := hF.thenDrew.thenO F3 (by first | exact .inr (by omega) | exact .inl rfl | exact .inl (by assumption))
  replace hB := F3.blkO hB (by omega)
  replace h8 := F3.blkO h8 (by omega)
  refine x_then (hK3 _ _ ?_)
  clear hK3 K3
  refine c_reg ?_ -- region 3 code.go:33
  refine wl (ro_move rfl) ?_
  refine wl (ro_move rfl) ?_
  refine wl (ro_nilCheck rfl) ?_
  refine wl (ro_fieldAddr (k := 3) rfl fo_89_3) ?_
  refine wl (ro_loadB rfl sc_85 (by assumption) rfl) ?_
  refine wl (ro_move rfl) ?_
  refine wl (ro_or32 rfl rfl hcl hm) ?_
  refine wl (ro_nilCheck rfl) ?_
  refine wl (ro_fieldAddr (k := 3) rfl fo_89_3) ?_
  refine wl_put rfl rfl rfl sz_85 hB ((by simp)) ((show _ = evs B s (cl ||| m) top dp from rfl)) (fun w4 hB F4 => ?_)
  replace hF := hF.thenDrew.thenO F4 (by first | exact .inr (by omega) | exact .inl rfl | exact .inl (by assumption))
  replace hC := F4.blkO hC (by omega)
  replace h8 := F4.blkO h8 (by omega)
  refine wl_nil ?_
  refine bp_end Tryz.results183 rfl ?_
  exact ⟨hB, hC, hF⟩

/-- The program laid so far. -/
def PV (w : World) (B : EB) (C : List In) : Prop := ∃ st CL, st + C.length = 48 ∧ CL.length = 48 ∧ CL.drop st = C ∧ setC C < 2 ^ 24 ∧ Blk w.heap B.e (evs B st (setC C) 0 0) 89 ∧ Blk w.heap B.c (rws inc CL) 213
theorem PV.far {w w' : World} {B : EB} {C : List In} {G : Nat → Prop} (h : PV w B C) (F : Fram G w w') (h1 : ¬ G B.e) (h2 : ¬ G B.c) : PV w' B C := by
  obtain ⟨st, CL, a, b, c, d, e, f⟩ := h
  exact ⟨st, CL, a, b, c, d, F.blkF e h1, F.blkF f h2⟩
theorem emitP {w : World} {B : EB} {C : List In} {x : In} (ho : EBo B) (h : PV w B C) (hl : C.length < 48) (hm : x.m < 2 ^ 24) :
    Ret Tryz.prog 183 [ptr B.e, i64c x.d, i64c x.a, vlA x.v, u32c x.m] w (fun _ w' => PV w' B (x :: C) ∧ Fram (ec B) w w') := by
  obtain ⟨st, CL, h1, h2, h3, h4, hB, hC⟩ := h
  obtain ⟨s, rfl⟩ : ∃ s, st = s + 1 := ⟨st - 1, by omega⟩
  refine (emit183 (dd := x.d) (a := x.a) (v := x.v) (m := x.m) ho hB hC h2 (by omega) (by omega) (by omega)).mono ?_
  rintro v w' ⟨hB', hC', G⟩
  refine ⟨⟨s, _, by rw [List.length_cons]; omega, by rw [List.length_set]; exact h2, ?_, ?_, ?_, hC'⟩, G⟩
  · rw [List.drop_eq_getElem_cons (by rw [List.length_set]; omega), List.getElem_set_self, List.drop_set_of_lt (by omega), h3]
  · exact or_lt hm h4
  · show Blk w'.heap B.e (evs B s (x.m ||| setC C) 0 0) 89
    rw [Nat.or_comm]
    exact hB'

theorem refer184 {w : World} {B : EB} {C : List In} {r : Rf} (ho : EBo B) (h : PV w B C) (hl : C.length < 48) :
    Ret Tryz.prog 184 [ptr B.e, rfA r] w (fun _ w' => PV w' B ((if gridR r = true then ⟨2, cellR r, vZ, 2 ^ cellR r⟩ else ⟨1, 0, vE 2, 0⟩) :: C) ∧ Fram (ec B) w w') := by
  have hF : Fram (ec B) w w := Fram.refl _ _
  have hbl : B.e < w.heap.size ∧ B.c < w.heap.size := by obtain ⟨st, CL, a, b, c, d, e, f⟩ := h; exact ⟨e.lt, f.lt⟩
  have ho' := ho
  unfold EBo at ho
  refine ret_of Tryz.func184 rfl Tryz.ntmps184 rfl ?_
  refine c_seq (fun K1 hK1 => ?_)
  refine c_reg ?_ -- region 0 code.go:68
  refine wl_box rfl rfl (fun b3 w1 hbb3 h3 F1 => ?_)
  have hbsb3 := Nat.le_trans hF.size hbb3
  replace hF := hF.thenDrew.thenN F1
  replace h := h.far F1 (fun h ↦ h) (fun h ↦ h)
  refine wl_nil (x_then (hK1 _ _ ?_))
  clear hK1 K1
  refine c_seq (fun K2 hK2 => ?_)
  refine c_seq (fun K3 hK3 => ?_)
  refine c_reg ?_ -- region 1 code.go:69
  refine wl (ro_loadAggB rfl ag_141 (by assumption) rfl rfl) ?_
  refine wl_call rfl en_98 (InGrid98) ?_
  rintro _ u1 ⟨rfl, G1⟩
  replace h := h.far G1 (fun h => h) (fun h => h)
  replace hF := hF.transG G1 (by intro k hk h; simp only [one, none', ec] at h ⊢ <;> omega)
  replace h3 := G1.blkF h3 (by intro h; simp only [one, none', ec] at h <;> omega)
  refine wl (ro_not rfl) ?_
  refine wl_nil (x_then (hK3 _ _ ?_))
  clear hK3 K3
  refine wc_cond rfl (fun hc8 => ?_) (fun hc8 => ?_)
  · try simp only [decide_eq_true_eq, decide_eq_false_iff_not, Bool.not_eq_true', Bool.not_eq_false', Bool.not_eq_eq_eq_not, Bool.not_true, Bool.not_false, beq_iff_eq, bne_iff_ne, ne_eq, beq_eq_false_iff_ne, bne_eq_false_iff_eq, gt_iff_lt, ge_iff_le, Int.not_lt, Int.not_le] at hc8
    refine c_seq (fun K4 hK4 => ?_)
    refine c_reg ?_ -- region 2 code.go:70
    refine wl (ro_move rfl) ?_
    refine wl (ro_build rfl bld_104_0_1) ?_
    refine wl_call rfl en_183 (emitP (x := ⟨1, 0, vE 2, 0⟩) ho' h hl (by show 0 < 2 ^ 24; decide)) ?_
    rintro _ u2 ⟨h, G2⟩
    replace hF := hF.transG G2 (by intro k hk h; simp only [one, none', ec] at h ⊢ <;> omega)
    replace h3 := G2.blkF h3 (by intro h; simp only [one, none', ec] at h <;> omega)
    refine wl_nil (x_then (hK4 _ _ ?_))
    clear hK4 K4
    refine c_ret (x_thenR ?_)
    refine bp_ret Tryz.results184 rfl ?_
    rw [if_neg (by rw [hc8]; decide)]
    exact ⟨h, hF⟩
  · try simp only [decide_eq_true_eq, decide_eq_false_iff_not, Bool.not_eq_true', Bool.not_eq_false', Bool.not_eq_eq_eq_not, Bool.not_true, Bool.not_false, beq_iff_eq, bne_iff_ne, ne_eq, beq_eq_false_iff_ne, bne_eq_false_iff_eq, gt_iff_lt, ge_iff_le, Int.not_lt, Int.not_le] at hc8
    refine c_skip (x_then (hK2 _ _ ?_))
    clear hK2 K2
    refine forget [(0, _), (3, _)] ⟨rfl, rfl, trivial⟩ (fun e => ?_)
    refine c_seq (fun K5 hK5 => ?_)
    refine c_reg ?_ -- region 3 code.go:73
    refine wl (ro_loadAggB rfl ag_141 (by assumption) rfl rfl) ?_
    refine wl_call rfl en_204 (CellOf204 hc8) ?_
    rintro _ u1 ⟨rfl, G1⟩
    replace h := h.far G1 (fun h => h) (fun h => h)
    replace hF := hF.transG G1 (by intro k hk h; simp only [one, none', ec] at h ⊢ <;> omega)
    replace h3 := G1.blkF h3 (by intro h; simp only [one, none', ec] at h <;> omega)
    have hcl := cell_lt hc8
    refine wl (ro_assign rfl) ?_
    refine wl_nil (x_then (hK5 _ _ ?_))
    clear hK5 K5
    refine forget [(0, _), (4, _)] ⟨rfl, rfl, trivial⟩ (fun e => ?_)
    refine c_seq (fun K6 hK6 => ?_)
    refine c_reg ?_ -- region 4 code.go:74
    refine wl (ro_move rfl) ?_
    refine wl_call rfl en_66 (Bit66 hcl) ?_
    rintro _ _ ⟨rfl, rfl⟩
    refine wl (ro_assign rfl) ?_
    refine wl_nil (x_then (hK6 _ _ ?_))
    clear hK6 K6
    refine c_reg ?_ -- region 5 code.go:75
    refine wl (ro_move rfl) ?_
    refine wl (ro_move rfl) ?_
    refine wl (ro_build rfl bld_104) ?_
    refine wl (ro_move rfl) ?_
    refine wl_call rfl en_183 (emitP (x := ⟨2, cellR r, vZ, 2 ^ cellR r⟩) ho' h hl (bit_lt hcl)) ?_
    rintro _ u2 ⟨h, G2⟩
    replace hF := hF.transG G2 (by intro k hk h; simp only [one, none', ec] at h ⊢ <;> omega)
    replace h3 := G2.blkF h3 (by intro h; simp only [one, none', ec] at h <;> omega)
    refine wl_nil ?_
    refine bp_end Tryz.results184 rfl ?_
    rw [if_pos hc8]
    exact ⟨h, hF⟩
theorem call185 {w : World} {B : EB} {C : List In} {f : Nat} (ho : EBo B) (h : PV w B C) (hl : C.length < 48) :
    Ret Tryz.prog 185 [ptr B.e, i64c f] w (fun _ w' => PV w' B (⟨if (f : Int) = 5 then 5 else if tallF f = true then 10 else 3, f, vZ, 0⟩ :: C) ∧ Fram (ec B) w w') := by
  have hF : Fram (ec B) w w := Fram.refl _ _
  have ho' := ho
  refine ret_of Tryz.func185 rfl Tryz.ntmps185 rfl ?_
  refine c_seq (fun K1 hK1 => ?_)
  refine c_reg ?_ -- region 0 code.go:80
  refine wl (ro_assign rfl) ?_
  refine wl_nil (x_then (hK1 _ _ ?_))
  clear hK1 K1
  refine c_seq (fun K2 hK2 => ?_)
  refine c_seq (fun K3 hK3 => ?_)
  refine c_reg ?_ -- region 1 code.go:81
  refine wl (ro_move rfl) ?_
  refine wl (ro_cmp rfl rfl rfl) ?_
  refine wl_nil (x_then (hK3 _ _ ?_))
  clear hK3 K3
  refine wc_cond rfl (fun hc6 => ?_) (fun hc6 => ?_)
  · try simp only [decide_eq_true_eq, decide_eq_false_iff_not, Bool.not_eq_true', Bool.not_eq_false', Bool.not_eq_eq_eq_not, Bool.not_true, Bool.not_false, beq_iff_eq, bne_iff_ne, ne_eq, beq_eq_false_iff_ne, bne_eq_false_iff_eq, gt_iff_lt, ge_iff_le, Int.not_lt, Int.not_le] at hc6
    refine c_reg ?_ -- region 2 code.go:82
    refine wl (ro_assign rfl) ?_
    refine wl_nil (x_then (hK2 _ _ ?_))
    clear hK2 K2
    refine c_reg ?_ -- region 5 code.go:86
    refine wl (ro_move rfl) ?_
    refine wl (ro_move rfl) ?_
    refine wl (ro_move rfl) ?_
    refine wl (ro_build rfl bld_104) ?_
    refine wl_call rfl en_183 (emitP (x := ⟨5, f, vZ, 0⟩) ho' h hl (by show 0 < 2 ^ 24; decide)) ?_
    rintro _ u2 ⟨h, G2⟩
    replace hF := hF.transG G2 (by intro k hk h; simp only [one, none', ec] at h ⊢ <;> omega)
    refine wl_nil ?_
    refine bp_end Tryz.results185 rfl ?_
    rw [if_pos hc6]
    exact ⟨h, hF⟩
  · try simp only [decide_eq_true_eq, decide_eq_false_iff_not, Bool.not_eq_true', Bool.not_eq_false', Bool.not_eq_eq_eq_not, Bool.not_true, Bool.not_false, beq_iff_eq, bne_iff_ne, ne_eq, beq_eq_false_iff_ne, bne_eq_false_iff_eq, gt_iff_lt, ge_iff_le, Int.not_lt, Int.not_le] at hc6
    refine c_seq (fun K4 hK4 => ?_)
    refine c_reg ?_ -- region 3 code.go:83
    refine wl (ro_move rfl) ?_
    refine wl_call rfl en_205 (tallies205) ?_
    rintro _ _ ⟨rfl, rfl⟩
    refine wl_nil (x_then (hK4 _ _ ?_))
    clear hK4 K4
    refine wc_cond rfl (fun hc8 => ?_) (fun hc8 => ?_)
    · try simp only [decide_eq_true_eq, decide_eq_false_iff_not, Bool.not_eq_true', Bool.not_eq_false', Bool.not_eq_eq_eq_not, Bool.not_true, Bool.not_false, beq_iff_eq, bne_iff_ne, ne_eq, beq_eq_false_iff_ne, bne_eq_false_iff_eq, gt_iff_lt, ge_iff_le, Int.not_lt, Int.not_le] at hc8
      refine c_reg ?_ -- region 4 code.go:84
      refine wl (ro_assign rfl) ?_
      refine wl_nil (x_then (hK2 _ _ ?_))
      clear hK2 K2
      refine c_reg ?_ -- region 5 code.go:86
      refine wl (ro_move rfl) ?_
      refine wl (ro_move rfl) ?_
      refine wl (ro_move rfl) ?_
      refine wl (ro_build rfl bld_104) ?_
      refine wl_call rfl en_183 (emitP (x := ⟨10, f, vZ, 0⟩) ho' h hl (by show 0 < 2 ^ 24; decide)) ?_
      rintro _ u2 ⟨h, G2⟩
      replace hF := hF.transG G2 (by intro k hk h; simp only [one, none', ec] at h ⊢ <;> omega)
      refine wl_nil ?_
      refine bp_end Tryz.results185 rfl ?_
      rw [if_neg hc6, if_pos hc8]
      exact ⟨h, hF⟩
    · try simp only [decide_eq_true_eq, decide_eq_false_iff_not, Bool.not_eq_true', Bool.not_eq_false', Bool.not_eq_eq_eq_not, Bool.not_true, Bool.not_false, beq_iff_eq, bne_iff_ne, ne_eq, beq_eq_false_iff_ne, bne_eq_false_iff_eq, gt_iff_lt, ge_iff_le, Int.not_lt, Int.not_le] at hc8
      refine c_skip (x_then (hK2 _ _ ?_))
      clear hK2 K2
      refine c_reg ?_ -- region 5 code.go:86
      refine wl (ro_move rfl) ?_
      refine wl (ro_move rfl) ?_
      refine wl (ro_move rfl) ?_
      refine wl (ro_build rfl bld_104) ?_
      refine wl_call rfl en_183 (emitP (x := ⟨3, f, vZ, 0⟩) ho' h hl (by show 0 < 2 ^ 24; decide)) ?_
      rintro _ u2 ⟨h, G2⟩
      replace hF := hF.transG G2 (by intro k hk h; simp only [one, none', ec] at h ⊢ <;> omega)
      refine wl_nil ?_
      refine bp_end Tryz.results185 rfl ?_
      rw [if_neg hc6, if_neg (by rw [hc8]; decide)]
      exact ⟨h, hF⟩

/-- Who owns the links. -/
def ownL (OL : List Nat) : Nat → Nat := fun j => OL.getD j 0
theorem ownL_get {OL : List Nat} {i : Nat} (h : i < OL.length) : OL[i]? = some (ownL OL i) := by
  unfold ownL
  rw [List.getD_eq_getElem?_getD, List.getElem?_eq_getElem h]
  rfl
theorem ownL_set {OL : List Nat} {i v j : Nat} (h : i < OL.length) : ownL (OL.set i v) j = if j = i then v else ownL OL j := by
  unfold ownL
  rw [List.getD_eq_getElem?_getD, List.getD_eq_getElem?_getD]
  by_cases e : j = i
  · subst e
    rw [List.getElem?_set_self h, if_pos rfl]
    rfl
  · rw [List.getElem?_set_ne (fun h => e h.symm), if_neg e]

set_option maxHeartbeats 4000000 in
theorem link186 {w : World} {B : EB} {C : List In} {n : List Nd} {OL : List Nat} {nb i : Nat} {x : Nd} (ho : EBo B) (hnb : B.t < nb) (h : PV w B C) (hO : Blk w.heap B.o (rws onc OL) 3) (hN : Blk w.heap nb (rws ndc n) 143) (hl : C.length + 2 ≤ 48) (hol : OL.length = 24) (hx : n[i]? = some x) (hn : n.length ≤ 24)
    (hk : x.k = 9) (ha : 0 ≤ x.a ∧ x.a < n.length) (hb : x.b < n.length) (hf : ownL OL i ≤ 10) :
    Ret Tryz.prog 186 [ptr B.e, sl nb n.length, i64c i] w (fun _ w' => PV w' B (cI n (ownL OL i) x ++ C) ∧ Blk w'.heap B.o (rws onc (if 0 ≤ x.b then OL.set x.b.toNat (ownL OL i) else OL)) 3 ∧ Blk w'.heap nb (rws ndc n) 143 ∧ Fram (eco B) w w') := by
  have hF : Fram (eco B) w w := Fram.refl _ _
  have hm1 : eco B B.o := .inr (.inr rfl)
  have ho' := ho
  unfold EBo at ho
  have hi : i < n.length := (List.getElem?_eq_some_iff.1 hx).1
  have hOi := ownL_get (OL := OL) (i := i) (by omega)
  generalize hfo : ownL OL i = f at *
  obtain ⟨y, hy⟩ : ∃ y, n[x.a.toNat]? = some y := ⟨_, List.getElem?_eq_getElem (by omega)⟩
  have hya : ndA n x.a = y := by rw [show x.a = ((x.a.toNat : Nat) : Int) by omega]; exact ndA_get hy
  generalize hOL : (if 0 ≤ x.b then OL.set x.b.toNat f else OL) = OL'
  obtain ⟨st, CL, g1, g2, g3, g4, hB, hC⟩ := h
  refine ret_of Tryz.func186 rfl Tryz.ntmps186 rfl ?_
  refine c_seq (fun K1 hK1 => ?_)
  refine c_reg ?_ -- region 0 code.go:92
  refine wl (ro_move rfl) ?_
  refine wl (ro_move rfl) ?_
  refine wl (ro_indexAddr (et := 143) (k := 13) rfl rfl se_78 rfl (by omega)) ?_
  refine wl (ro_loadAggB rfl ag_143 (hN) ((ndc_len _)) ((rw_agg ndc_len hx (by omega)))) ?_
  refine wl_new (ze_143) (fun b6 w1 hbb6 h6 F1 => ?_)
  have hbsb6 := Nat.le_trans hF.size hbb6
  have hneB.eb6 : B.e < b6 := Nat.lt_of_lt_of_le hB.lt hbb6
  have hneB.cb6 : B.c < b6 := Nat.lt_of_lt_of_le hC.lt hbb6
  have hneB.ob6 : B.o < b6 := Nat.lt_of_lt_of_le hO.lt hbb6
  have hnenbb6 : nb < b6 := Nat.lt_of_lt_of_le hN.lt hbb6
  replace hF := hF.thenDrew.thenN F1
  replace hB := F1.blkN hB
  replace hC := F1.blkN hC
  replace hO := F1.blkN hO
  replace hN := F1.blkN hN
  refine wl_puta rfl rfl ((ndc_cells _)) sz_143 (rfl) h6 ((by simp)) ((show _ = ndc x from rfl)) (fun w2 h6 F2 => ?_)
  replace hF := hF.thenDrew.thenO F2 (by first | exact .inr (by omega) | exact .inl rfl | exact .inl (by assumption))
  replace hB := F2.blkO hB (by omega)
  replace hC := F2.blkO hC (by omega)
  replace hO := F2.blkO hO (by omega)
  replace hN := F2.blkO hN (by omega)
  refine wl_nil (x_then (hK1 _ _ ?_))
  clear hK1 K1
  refine forget [(0, _), (1, _), (2, _), (6, _)] ⟨rfl, rfl, rfl, rfl, trivial⟩ (fun e => ?_)
  refine c_seq (fun K2 hK2 => ?_)
  refine c_reg ?_ -- region 1 code.go:93
  refine wl (ro_move rfl) ?_
  refine wl (ro_nilCheck rfl) ?_
  refine wl (ro_fieldAddr (k := 4) rfl fo_89_4) ?_
  refine wl (ro_loadB rfl sc_79 (by assumption) rfl) ?_
  refine wl (ro_move rfl) ?_
  refine wl (ro_indexAddr (et := 3) (k := 1) rfl rfl se_79 rfl (by omega)) ?_
  refine wl (ro_loadB rfl sc_3 (hO) ((rw_get onc_len hOi (j := 0) (by omega) rfl))) ?_
  refine wl (ro_assign rfl) ?_
  refine wl_nil (x_then (hK2 _ _ ?_))
  clear hK2 K2
  refine c_mid (fun a' w' => Blk w'.heap B.o (rws onc OL') 3 ∧ Blk w'.heap B.e (evs B st (setC C) 0 0) 89 ∧ Blk w'.heap B.c (rws inc CL) 213 ∧ Blk w'.heap nb (rws ndc n) 143 ∧ Blk w'.heap b6 (ndc x) 143 ∧ Fram (eco B) w w' ∧ ∃ e, a' = Fr 69 (upds e [(0, ptr B.e), (1, sl nb n.length), (6, ptr b6), (7, i64c f)]) []) ?_ ?_
  · skip
    refine c_seq (fun K3 hK3 => ?_)
    refine c_reg ?_ -- region 2 code.go:94
    refine wl (ro_fieldAddr (k := 3) rfl fo_143_3) ?_
    refine wl (ro_loadB rfl sc_3 (by assumption) rfl) ?_
    refine wl (ro_cmp rfl rfl rfl) ?_
    refine wl_nil (x_then (hK3 _ _ ?_))
    clear hK3 K3
    refine wc_cond rfl (fun hc26 => ?_) (fun hc26 => ?_)
    · try simp only [decide_eq_true_eq, decide_eq_false_iff_not, Bool.not_eq_true', Bool.not_eq_false', Bool.not_eq_eq_eq_not, Bool.not_true, Bool.not_false, beq_iff_eq, bne_iff_ne, ne_eq, beq_eq_false_iff_ne, bne_eq_false_iff_eq, gt_iff_lt, ge_iff_le, Int.not_lt, Int.not_le] at hc26
      refine c_piL 8 [(0, false), (1, false), (2, false), (3, false), (4, false), (5, false), (6, false), (7, false)] (SameH _) mixed (by kernel_rfl) rfl (by kernel_rfl) (po_then (po_bp)) (sameH_now _ _) ?_ -- region 3 code.go:95
      refine ql_ro rfl (fun w hS => ro_move rfl) ?_
      refine ql_ro rfl (fun w hS => ro_nilCheck rfl) ?_
      refine ql_ro rfl (fun w hS => ro_fieldAddr (k := 4) rfl fo_89_4) ?_
      refine ql_ro rfl (fun w hS => ro_loadB rfl sc_79 (Blk.of_heap (by assumption) hS) rfl) ?_
      refine ql_ro rfl (fun w hS => ro_fieldAddr (k := 3) rfl fo_143_3) ?_
      refine ql_ro rfl (fun w hS => ro_loadB rfl sc_3 (Blk.of_heap (by assumption) hS) rfl) ?_
      refine ql_ro rfl (fun w hS => ro_move rfl) ?_
      refine ql_ro rfl (fun w hS => ro_indexAddr (et := 3) (k := 1) rfl rfl se_79 ((Int.toNat_of_nonneg hc26).symm) ((by omega))) ?_
      refine ql_put rfl rfl rfl rfl sz_3 hO ((rw_fit onc_len (i := x.b.toNat) (j := 0) (m := 1) (by omega) (by omega) (by omega))) ((rw_put onc_len (i := x.b.toNat) (j := 0) (x := ownL OL x.b.toNat) (x' := f) (ownL_get (by omega)) (by omega) (by omega) rfl)) (fun w3 hO F3 => ?_)
      replace hF := hF.thenDrew.thenO F3 (by first | exact .inr (by omega) | exact .inl rfl | exact .inl (by assumption))
      replace hB := F3.blkO hB (by omega)
      replace hC := F3.blkO hC (by omega)
      replace hN := F3.blkO hN (by omega)
      replace h6 := F3.blkO h6 (by omega)
      refine x_then ?_
      first
        | (rw [← hOL, if_pos hc26]; exact ⟨hO, hB, hC, hN, h6, hF, kp _ ⟨rfl, rfl, rfl, rfl, trivial⟩⟩)
        | (rw [← hOL, if_neg (by omega)]; exact ⟨hO, hB, hC, hN, h6, hF, kp _ ⟨rfl, rfl, rfl, rfl, trivial⟩⟩)
    · try simp only [decide_eq_true_eq, decide_eq_false_iff_not, Bool.not_eq_true', Bool.not_eq_false', Bool.not_eq_eq_eq_not, Bool.not_true, Bool.not_false, beq_iff_eq, bne_iff_ne, ne_eq, beq_eq_false_iff_ne, bne_eq_false_iff_eq, gt_iff_lt, ge_iff_le, Int.not_lt, Int.not_le] at hc26
      refine c_skip (x_then ?_)
      first
        | (rw [← hOL, if_pos hc26]; exact ⟨hO, hB, hC, hN, h6, hF, kp _ ⟨rfl, rfl, rfl, rfl, trivial⟩⟩)
        | (rw [← hOL, if_neg (by omega)]; exact ⟨hO, hB, hC, hN, h6, hF, kp _ ⟨rfl, rfl, rfl, rfl, trivial⟩⟩)
  clear hF hB hC hO hN h6
  rintro a' u2 ⟨hO, hB, hC, hN, h6, hF, e, rfl⟩
  have h : PV u2 B C := ⟨st, CL, g1, g2, g3, g4, hB, hC⟩
  refine c_seq (fun K4 hK4 => ?_)
  refine c_seq (fun K5 hK5 => ?_)
  refine c_reg ?_ -- region 4 code.go:97
  refine wl (ro_move rfl) ?_
  refine wl_call rfl en_205 (tallies205) ?_
  rintro _ _ ⟨rfl, rfl⟩
  refine wl (ro_not rfl) ?_
  refine wl_nil (x_then (hK5 _ _ ?_))
  clear hK5 K5
  refine wc_cond rfl (fun hc37 => ?_) (fun hc37 => ?_)
  · try simp only [decide_eq_true_eq, decide_eq_false_iff_not, Bool.not_eq_true', Bool.not_eq_false', Bool.not_eq_eq_eq_not, Bool.not_true, Bool.not_false, beq_iff_eq, bne_iff_ne, ne_eq, beq_eq_false_iff_ne, bne_eq_false_iff_eq, gt_iff_lt, ge_iff_le, Int.not_lt, Int.not_le] at hc37
    refine c_ret (x_thenR ?_)
    refine bp_ret Tryz.results186 rfl ?_
    refine ⟨?_, hO, hN, hF⟩
    rw [show cI n f x = [] by unfold cI; simp [hk, hc37]]
    exact h
  · try simp only [decide_eq_true_eq, decide_eq_false_iff_not, Bool.not_eq_true', Bool.not_eq_false', Bool.not_eq_eq_eq_not, Bool.not_true, Bool.not_false, beq_iff_eq, bne_iff_ne, ne_eq, beq_eq_false_iff_ne, bne_eq_false_iff_eq, gt_iff_lt, ge_iff_le, Int.not_lt, Int.not_le] at hc37
    refine c_skip (x_then (hK4 _ _ ?_))
    clear hK4 K4
    refine forget [(0, _), (1, _), (6, _), (7, _)] ⟨rfl, rfl, rfl, rfl, trivial⟩ (fun e => ?_)
    refine c_seq (fun K6 hK6 => ?_)
    refine c_reg ?_ -- region 5 code.go:100
    refine wl (ro_move rfl) ?_
    refine wl (ro_fieldAddr (k := 2) rfl fo_143_2) ?_
    refine wl (ro_loadB rfl sc_3 (by assumption) rfl) ?_
    refine wl (ro_indexAddr (et := 143) (k := 13) rfl rfl se_78 ((show x.a = ((x.a.toNat : Nat) : Int) by omega)) ((by omega))) ?_
    refine wl (ro_loadAggB rfl ag_143 (hN) ((ndc_len _)) ((rw_agg ndc_len hy (by omega)))) ?_
    refine wl_new (ze_143) (fun b8 w4 hbb8 h8 F4 => ?_)
    have hbsb8 := Nat.le_trans hF.size hbb8
    have hneB.ob8 : B.o < b8 := Nat.lt_of_lt_of_le hO.lt hbb8
    have hnenbb8 : nb < b8 := Nat.lt_of_lt_of_le hN.lt hbb8
    have hneb6b8 : b6 < b8 := Nat.lt_of_lt_of_le h6.lt hbb8
    replace hF := hF.thenDrew.thenN F4
    replace hO := F4.blkN hO
    replace hN := F4.blkN hN
    replace h6 := F4.blkN h6
    replace h := h.far F4 (fun h ↦ h) (fun h ↦ h)
    refine wl_puta rfl rfl ((ndc_cells _)) sz_143 (rfl) h8 ((by simp)) ((show _ = ndc y from rfl)) (fun w5 h8 F5 => ?_)
    replace hF := hF.thenDrew.thenO F5 (by first | exact .inr (by omega) | exact .inl rfl | exact .inl (by assumption))
    replace hO := F5.blkO hO (by omega)
    replace hN := F5.blkO hN (by omega)
    replace h6 := F5.blkO h6 (by omega)
    replace h := h.far F5 (fun h ↦ absurd (show B.e = b8 from h) (by omega)) (fun h ↦ absurd (show B.c = b8 from h) (by omega))
    refine wl_nil (x_then (hK6 _ _ ?_))
    clear hK6 K6
    refine forget [(0, _), (6, _), (7, _), (8, _)] ⟨rfl, rfl, rfl, rfl, trivial⟩ (fun e => ?_)
    refine c_seq (fun K7 hK7 => ?_)
    refine c_reg ?_ -- region 6 code.go:101
    refine wl (ro_assign rfl) ?_
    refine wl_nil (x_then (hK7 _ _ ?_))
    clear hK7 K7
    refine forget [(0, _), (6, _), (7, _), (8, _), (9, _)] ⟨rfl, rfl, rfl, rfl, rfl, trivial⟩ (fun e => ?_)
    refine c_seq (fun K8 hK8 => ?_)
    refine c_reg ?_ -- region 7 code.go:102
    refine wl (ro_assign rfl) ?_
    refine wl_nil (x_then (hK8 _ _ ?_))
    clear hK8 K8
    refine c_mid (fun a' w' => PV w' B C ∧ Blk w'.heap B.o (rws onc OL') 3 ∧ Blk w'.heap nb (rws ndc n) 143 ∧ Blk w'.heap b6 (ndc x) 143 ∧ Fram (eco B) w w' ∧ ∃ e, a' = Fr 69 (upds e [(0, ptr B.e), (6, ptr b6), (7, i64c f), (9, i64c (lkI n f x).d), (10, u32c (lkI n f x).m)]) []) ?_ ?_
    · skip
      refine c_seq (fun K9 hK9 => ?_)
      refine c_reg ?_ -- region 8 code.go:103
      refine wl (ro_fieldAddr (k := 0) rfl fo_143_0) ?_
      refine wl (ro_loadB rfl sc_3 (by assumption) rfl) ?_
      refine wl (ro_cmp rfl rfl rfl) ?_
      refine wl_nil (x_then (hK9 _ _ ?_))
      clear hK9 K9
      refine wc_cond rfl (fun hc45 => ?_) (fun hc45 => ?_)
      · try simp only [decide_eq_true_eq, decide_eq_false_iff_not, Bool.not_eq_true', Bool.not_eq_false', Bool.not_eq_eq_eq_not, Bool.not_true, Bool.not_false, beq_iff_eq, bne_iff_ne, ne_eq, beq_eq_false_iff_ne, bne_eq_false_iff_eq, gt_iff_lt, ge_iff_le, Int.not_lt, Int.not_le] at hc45
        refine c_seq (fun K10 hK10 => ?_)
        refine c_reg ?_ -- region 9 code.go:104
        refine wl (ro_fieldAddr (k := 5) rfl fo_143_5) ?_
        refine wl (ro_loadAggB rfl ag_141 (by assumption) rfl rfl) ?_
        refine wl (ro_fieldAddr (k := 9) rfl fo_143_6) ?_
        refine wl (ro_loadAggB rfl ag_141 (by assumption) rfl rfl) ?_
        refine wl_call rfl en_136 (Block136) ?_
        rintro _ u9 ⟨rfl, G9⟩
        replace h := h.far G9 (fun h => h) (fun h => h)
        replace hF := hF.transG G9 (by intro k hk h; simp only [one, none', ec, eco] at h ⊢ <;> omega)
        replace hO := G9.blkF hO (by intro h; simp only [one, none', ec, eco] at h <;> omega)
        replace hN := G9.blkF hN (by intro h; simp only [one, none', ec, eco] at h <;> omega)
        replace h6 := G9.blkF h6 (by intro h; simp only [one, none', ec, eco] at h <;> omega)
        replace h8 := G9.blkF h8 (by intro h; simp only [one, none', ec, eco] at h <;> omega)
        refine wl (ro_move rfl) ?_
        refine wl (ro_extract rfl rfl) ?_
        refine wl (ro_extract rfl rfl) ?_
        refine wl (ro_assign rfl) ?_
        refine wl (ro_assign rfl) ?_
        refine wl_nil (x_then (hK10 _ _ ?_))
        clear hK10 K10
        refine forget [(0, _), (6, _), (7, _), (10, _), (11, _), (12, _)] ⟨rfl, rfl, rfl, rfl, rfl, rfl, trivial⟩ (fun e => ?_)
        refine c_seq (fun K11 hK11 => ?_)
        refine c_reg ?_ -- region 10 code.go:105
        refine wl (ro_assign rfl) ?_
        refine wl_nil (x_then (hK11 _ _ ?_))
        clear hK11 K11
        refine forget [(0, _), (6, _), (7, _), (9, _), (10, _), (11, _), (12, _)] ⟨rfl, rfl, rfl, rfl, rfl, rfl, rfl, trivial⟩ (fun e => ?_)
        refine c_seq (fun K12 hK12 => ?_)
        refine c_reg ?_ -- region 11 code.go:106
        refine wl (ro_move rfl) ?_
        refine wl_nil (x_then (hK12 _ _ ?_))
        clear hK12 K12
        refine wc_cond rfl (fun hc54 => ?_) (fun hc54 => ?_)
        · try simp only [decide_eq_true_eq, decide_eq_false_iff_not, Bool.not_eq_true', Bool.not_eq_false', Bool.not_eq_eq_eq_not, Bool.not_true, Bool.not_false, beq_iff_eq, bne_iff_ne, ne_eq, beq_eq_false_iff_ne, bne_eq_false_iff_eq, gt_iff_lt, ge_iff_le, Int.not_lt, Int.not_le] at hc54
          obtain ⟨mm, hmm⟩ : ∃ mm, blkR y.p y.q = some mm := by
            cases hq : blkR y.p y.q with
            | none => rw [hq] at hc54; cases hc54
            | some mm => exact ⟨mm, rfl⟩
          have hlk : lkI n f x = ⟨8, f, vZ, mm⟩ := by unfold lkI; rw [hya, if_pos (by omega), hmm]
          rw [hmm]
          refine c_seq (fun K13 hK13 => ?_)
          refine c_reg ?_ -- region 12 code.go:107
          refine wl (ro_assign rfl) ?_
          refine wl_nil (x_then (hK13 _ _ ?_))
          clear hK13 K13
          refine c_reg ?_ -- region 13 code.go:108
          refine wl (ro_move rfl) ?_
          refine wl (ro_assign rfl) ?_
          refine wl_nil (x_then ?_)
          rw [hlk]
          exact ⟨h, hO, hN, h6, hF, kp _ ⟨rfl, rfl, rfl, rfl, rfl, trivial⟩⟩
        · try simp only [decide_eq_true_eq, decide_eq_false_iff_not, Bool.not_eq_true', Bool.not_eq_false', Bool.not_eq_eq_eq_not, Bool.not_true, Bool.not_false, beq_iff_eq, bne_iff_ne, ne_eq, beq_eq_false_iff_ne, bne_eq_false_iff_eq, gt_iff_lt, ge_iff_le, Int.not_lt, Int.not_le] at hc54
          have hmm : blkR y.p y.q = none := by
            cases hq : blkR y.p y.q with
            | none => rfl
            | some mm => rw [hq] at hc54; cases hc54
          have hlk : lkI n f x = ⟨9, f, vZ, 0⟩ := by unfold lkI; rw [hya, if_pos (by omega), hmm]
          refine c_skip (x_then ?_)
          rw [hlk]
          exact ⟨h, hO, hN, h6, hF, kp _ ⟨rfl, rfl, rfl, rfl, rfl, trivial⟩⟩
      · try simp only [decide_eq_true_eq, decide_eq_false_iff_not, Bool.not_eq_true', Bool.not_eq_false', Bool.not_eq_eq_eq_not, Bool.not_true, Bool.not_false, beq_iff_eq, bne_iff_ne, ne_eq, beq_eq_false_iff_ne, bne_eq_false_iff_eq, gt_iff_lt, ge_iff_le, Int.not_lt, Int.not_le] at hc45
        have hlk : lkI n f x = ⟨7, f, vZ, 0⟩ := by unfold lkI; rw [hya, if_neg (by omega)]
        refine c_skip (x_then ?_)
        rw [hlk]
        exact ⟨h, hO, hN, h6, hF, kp _ ⟨rfl, rfl, rfl, rfl, rfl, trivial⟩⟩
    clear hF hO hN h6 h
    rintro a' u8 ⟨h, hO, hN, h6, hF, e, rfl⟩
    have hla : (lkI n f x).a = f ∧ (lkI n f x).v = vZ ∧ (lkI n f x).m < 2 ^ 24 := by
      unfold lkI
      split
      · cases hbk : blkR (ndA n x.a).p (ndA n x.a).q with
        | none => exact ⟨rfl, rfl, by show 0 < 2 ^ 24; decide⟩
        | some mm => exact ⟨rfl, rfl, blk_lt hbk⟩
      · exact ⟨rfl, rfl, by show 0 < 2 ^ 24; decide⟩
    have hcI : cI n f x = (if x.b < 0 then [⟨6, f, vZ, 0⟩] else []) ++ [lkI n f x] := by unfold cI; simp [hk, hc37]
    refine c_seq (fun K14 hK14 => ?_)
    refine c_reg ?_ -- region 14 code.go:111
    refine wl (ro_move rfl) ?_
    refine wl (ro_move rfl) ?_
    refine wl (ro_move rfl) ?_
    refine wl (ro_build rfl bld_104) ?_
    refine wl (ro_move rfl) ?_
    refine wl_call rfl en_183 ((by have := emitP (x := lkI n f x) ho' h (by omega) hla.2.2; rw [hla.1, hla.2.1] at this; exact this)) ?_
    rintro _ u10 ⟨h, G10⟩
    replace hF := hF.transG G10 (by intro k hk h; simp only [one, none', ec, eco] at h ⊢ <;> omega)
    replace hO := G10.blkF hO (by intro h; simp only [one, none', ec, eco] at h <;> omega)
    replace hN := G10.blkF hN (by intro h; simp only [one, none', ec, eco] at h <;> omega)
    replace h6 := G10.blkF h6 (by intro h; simp only [one, none', ec, eco] at h <;> omega)
    refine wl_nil (x_then (hK14 _ _ ?_))
    clear hK14 K14
    refine forget [(0, _), (6, _), (7, _)] ⟨rfl, rfl, rfl, trivial⟩ (fun e => ?_)
    refine c_seq (fun K15 hK15 => ?_)
    refine c_reg ?_ -- region 15 code.go:112
    refine wl (ro_fieldAddr (k := 3) rfl fo_143_3) ?_
    refine wl (ro_loadB rfl sc_3 (by assumption) rfl) ?_
    refine wl (ro_cmp rfl rfl rfl) ?_
    refine wl_nil (x_then (hK15 _ _ ?_))
    clear hK15 K15
    refine wc_cond rfl (fun hc64 => ?_) (fun hc64 => ?_)
    · try simp only [decide_eq_true_eq, decide_eq_false_iff_not, Bool.not_eq_true', Bool.not_eq_false', Bool.not_eq_eq_eq_not, Bool.not_true, Bool.not_false, beq_iff_eq, bne_iff_ne, ne_eq, beq_eq_false_iff_ne, bne_eq_false_iff_eq, gt_iff_lt, ge_iff_le, Int.not_lt, Int.not_le] at hc64
      refine c_reg ?_ -- region 16 code.go:113
      refine wl (ro_move rfl) ?_
      refine wl (ro_move rfl) ?_
      refine wl (ro_build rfl bld_104) ?_
      refine wl_call rfl en_183 (emitP (x := ⟨6, f, vZ, 0⟩) ho' h (by rw [List.length_cons]; omega) (by show 0 < 2 ^ 24; decide)) ?_
      rintro _ u11 ⟨h, G11⟩
      replace hF := hF.transG G11 (by intro k hk h; simp only [one, none', ec, eco] at h ⊢ <;> omega)
      replace hO := G11.blkF hO (by intro h; simp only [one, none', ec, eco] at h <;> omega)
      replace hN := G11.blkF hN (by intro h; simp only [one, none', ec, eco] at h <;> omega)
      replace h6 := G11.blkF h6 (by intro h; simp only [one, none', ec, eco] at h <;> omega)
      refine wl_nil ?_
      refine bp_end Tryz.results186 rfl ?_
      refine ⟨?_, hO, hN, hF⟩
      rw [hcI, if_pos (by omega)]
      exact h
    · try simp only [decide_eq_true_eq, decide_eq_false_iff_not, Bool.not_eq_true', Bool.not_eq_false', Bool.not_eq_eq_eq_not, Bool.not_true, Bool.not_false, beq_iff_eq, bne_iff_ne, ne_eq, beq_eq_false_iff_ne, bne_eq_false_iff_eq, gt_iff_lt, ge_iff_le, Int.not_lt, Int.not_le] at hc64
      refine c_skip ?_
      refine bp_end Tryz.results186 rfl ?_
      refine ⟨?_, hO, hN, hF⟩
      rw [hcI, if_neg (by omega)]
      exact h

end Go.Proofs.Qxb6500570aGreat
