import Derived.Test.Qxb6500570aGreatBe
/- The real former: nodes, marks, joins. -/
namespace Go.Proofs.Qxb6500570aGreat
set_option linter.unusedVariables false
set_option linter.unusedSimpArgs false

/-- The former's own block, whatever its arena's height and its fault. -/
def SF (w : World) (B : FB7) (nt k : Nat) (pos : Int) (nv no : Nat) (hv dn : Bool) (wi : Int) : Prop := ∃ (nn : Nat) (er bd : Int), Blk w.heap B.f (fml B nt k pos nn nv no hv dn er bd wi) 83
theorem SF.ld {w : World} {B : FB7} {nt k nv no i : Nat} {pos wi : Int} {hv dn : Bool} {v : Value} (h : SF w B nt k pos nv no hv dn wi) (hi : i ≠ 5 ∧ i ≠ 12 ∧ i ≠ 13) (hg : (fml B nt k pos 0 nv no hv dn 0 0 wi)[i]? = some v) : ∃ l t, Blk w.heap B.f l t ∧ l[i]? = some v := by
  obtain ⟨nn, er, bd, hB⟩ := h
  refine ⟨_, _, hB, ?_⟩
  match i, hi, hg with
  | 0, _, h => exact h
  | 1, _, h => exact h
  | 2, _, h => exact h
  | 3, _, h => exact h
  | 4, _, h => exact h
  | 5, h, _ => exact absurd rfl h.1
  | 6, _, h => exact h
  | 7, _, h => exact h
  | 8, _, h => exact h
  | 9, _, h => exact h
  | 10, _, h => exact h
  | 11, _, h => exact h
  | 12, h, _ => exact absurd rfl h.2.1
  | 13, h, _ => exact absurd rfl h.2.2
  | 14, _, h => exact h
  | 15, _, h => exact h
  | 16, _, h => exact h
  | n + 17, _, h => simp at h
theorem ro_loadX {P : Program} {n : Nat} {e : Nat → Option Value} {w : World} {t : TypeId} {x : Operand} {b o : Nat} {v : Value} (hx : evO n e x = some (.pointer (some ⟨b, o, none⟩))) (ht : scalB P t = true) (h : ∃ l t', Blk w.heap b l t' ∧ l[o]? = some v) : RO P n e w (.load t x) v := by
  obtain ⟨l, t', hB, hl⟩ := h
  exact ro_loadB hx ht hB hl

/-- What add leaves. -/
def AddP (B : FB7) (nt k : Nat) (pos : Int) (nv no : Nat) (hv dn : Bool) (wi : Int) (R : Bool × List Nd × Int) (w' : World) : Prop :=
  (∃ er' bd', decide (er' ≠ 0) = R.1 ∧ Blk w'.heap B.f (fml B nt k pos R.2.1.length nv no hv dn er' bd' wi) 83) ∧ (∃ fa', FB w'.heap B.a 312 fa' 143 ∧ NdV fa' R.2.1)
def fo2 (B : FB7) : Nat → Prop := fun b => b = B.f ∨ b = B.o
def fa2 (B : FB7) : Nat → Prop := fun b => b = B.f ∨ b = B.a

set_option maxHeartbeats 1000000 in
theorem add193 {w : World} {B : FB7} {nt k nv no : Nat} {pos er bd wi : Int} {hv dn : Bool} {ar : List Nd} {fa : Nat → Value} {x : Nd} (ho : FBo B) (hl : ar.length ≤ 24) (hB : Blk w.heap B.f (fml B nt k pos ar.length nv no hv dn er bd wi) 83) (hA : FB w.heap B.a 312 fa 143) (hN : NdV fa ar) :
    Ret Tryz.prog 193 [ptr B.f, .agg (ndc x).toArray] w (fun v w' => v = icv (addX (decide (er ≠ 0)) ar x).2.2 ∧ AddP B nt k pos nv no hv dn wi (addX (decide (er ≠ 0)) ar x) w' ∧ Fram (fa2 B) w w') := by
  have hF : Fram (fa2 B) w w := Fram.refl _ _
  have hm1 : fa2 B B.f := .inl rfl
  have hm2 : fa2 B B.a := .inr rfl
  refine ret_of Tryz.func193 rfl Tryz.ntmps193 rfl ?_
  refine c_seq (fun K1 hK1 => ?_)
  refine c_reg ?_ -- region 0 parse.go:39
  refine wl_box (cs := (ndc x)) rfl rfl (fun xb w1 hbxb hX F1 => ?_)
  have hbsxb := Nat.le_trans hF.size hbxb
  have hneB.fxb : B.f < xb := Nat.lt_of_lt_of_le hB.lt hbxb
  have hneB.axb : B.a < xb := Nat.lt_of_lt_of_le hA.lt hbxb
  replace hF := hF.thenDrew.thenN F1
  replace hB := F1.blkN hB
  replace hA := F1.blkN hA
  refine wl (ro_assign rfl) ?_
  refine wl_nil (x_then (hK1 _ _ ?_))
  clear hK1 K1
  refine c_seq (fun K2 hK2 => ?_)
  refine c_seq (fun K3 hK3 => ?_)
  have hcs : er ≠ 0 ∨ (er = 0 ∧ ¬ ar.length < 24) ∨ (er = 0 ∧ ar.length < 24) := by
    by_cases h : er = 0
    · by_cases h2 : ar.length < 24
      · exact .inr (.inr ⟨h, h2⟩)
      · exact .inr (.inl ⟨h, h2⟩)
    · exact .inl h
  rcases hcs with h0 | ⟨rfl, h24⟩ | ⟨rfl, h24⟩
  · skip
    have hb : decide (er ≠ 0) = true := by simpa using h0
    refine c_reg ?_ -- region 1 parse.go:40
    refine wl (ro_move rfl) ?_
    refine wl (ro_nilCheck rfl) ?_
    refine wl (ro_fieldAddr (k := 12) rfl fo_83_12) ?_
    refine wl (ro_loadB rfl sc_26 (hB) (rfl)) ?_
    refine wl (ro_cmp (r := true) rfl rfl (congrArg some (by simpa using h0))) ?_
    refine wl_nil (x_then (hK3 _ _ ?_))
    clear hK3 K3
    refine wc_condT rfl ?_
    refine c_seq (fun K4 hK4 => ?_)
    refine c_reg ?_ -- region 2 parse.go:41
    refine wl (ro_assign rfl) ?_
    refine wl_nil (x_then (hK4 _ _ ?_))
    clear hK4 K4
    refine c_ret (x_thenR ?_)
    refine bp_ret Tryz.results193 rfl ?_
    rw [hb]; exact ⟨rfl, ⟨⟨er, bd, hb, hB⟩, ⟨fa, hA, hN⟩⟩, hF⟩
  · skip
    refine c_reg ?_ -- region 1 parse.go:40
    refine wl (ro_move rfl) ?_
    refine wl (ro_nilCheck rfl) ?_
    refine wl (ro_fieldAddr (k := 12) rfl fo_83_12) ?_
    refine wl (ro_loadB rfl sc_26 (hB) (rfl)) ?_
    refine wl (ro_cmp (r := false) rfl rfl rfl) ?_
    refine wl_nil (x_then (hK3 _ _ ?_))
    clear hK3 K3
    refine wc_condF rfl ?_
    refine c_skip (x_then (hK2 _ _ ?_))
    clear hK2 K2
    refine c_seq (fun K5 hK5 => ?_)
    refine c_seq (fun K6 hK6 => ?_)
    refine c_reg ?_ -- region 3 parse.go:43
    refine wl (ro_move rfl) ?_
    refine wl (ro_nilCheck rfl) ?_
    refine wl (ro_fieldAddr (k := 5) rfl fo_83_5) ?_
    refine wl (ro_loadB rfl sc_3 (hB) (rfl)) ?_
    refine wl (ro_cmp (r := true) rfl rfl (congrArg some (decide_eq_true (by omega)))) ?_
    refine wl_nil (x_then (hK6 _ _ ?_))
    clear hK6 K6
    refine wc_condT rfl ?_
    refine c_seq (fun K7 hK7 => ?_)
    refine c_reg ?_ -- region 4 parse.go:44
    refine wl (ro_move rfl) ?_
    refine wl (ro_move rfl) ?_
    refine wl (ro_nilCheck rfl) ?_
    refine wl (ro_fieldAddr (k := 3) rfl fo_83_3) ?_
    refine wl (ro_loadB rfl sc_3 (hB) (rfl)) ?_
    refine wl_call rfl en_160 (fail160 (by decide) hB) ?_
    rintro _ w9 ⟨rfl, ⟨er', bd', hne, hB⟩, F9⟩
    replace hF := hF.transG F9 (by intro k hk h; simp only [one, none', fa2] at h ⊢ <;> omega)
    replace hA := F9.blkF hA (by intro h; simp only [one, none', fa2, ho.all, or_self, false_or, or_false] at h <;> omega)
    replace hX := F9.blkF hX (by intro h; simp only [one, none', fa2, ho.all, or_self, false_or, or_false] at h <;> omega)
    refine wl_nil (x_then (hK7 _ _ ?_))
    clear hK7 K7
    refine forget [] trivial (fun e => ?_)
    refine c_seq (fun K8 hK8 => ?_)
    refine c_reg ?_ -- region 5 parse.go:45
    refine wl (ro_assign rfl) ?_
    refine wl_nil (x_then (hK8 _ _ ?_))
    clear hK8 K8
    refine c_ret (x_thenR ?_)
    refine bp_ret Tryz.results193 rfl ?_
    rw [show decide ((0 : Int) ≠ 0) = false from rfl, addX_ge h24]; exact ⟨rfl, ⟨⟨er', bd', by simpa using hne, hB⟩, ⟨fa, hA, hN⟩⟩, hF⟩
  · skip
    refine c_reg ?_ -- region 1 parse.go:40
    refine wl (ro_move rfl) ?_
    refine wl (ro_nilCheck rfl) ?_
    refine wl (ro_fieldAddr (k := 12) rfl fo_83_12) ?_
    refine wl (ro_loadB rfl sc_26 (hB) (rfl)) ?_
    refine wl (ro_cmp (r := false) rfl rfl rfl) ?_
    refine wl_nil (x_then (hK3 _ _ ?_))
    clear hK3 K3
    refine wc_condF rfl ?_
    refine c_skip (x_then (hK2 _ _ ?_))
    clear hK2 K2
    refine c_seq (fun K9 hK9 => ?_)
    refine c_seq (fun K10 hK10 => ?_)
    refine c_reg ?_ -- region 3 parse.go:43
    refine wl (ro_move rfl) ?_
    refine wl (ro_nilCheck rfl) ?_
    refine wl (ro_fieldAddr (k := 5) rfl fo_83_5) ?_
    refine wl (ro_loadB rfl sc_3 (hB) (rfl)) ?_
    refine wl (ro_cmp (r := false) rfl rfl (congrArg some (decide_eq_false (by omega)))) ?_
    refine wl_nil (x_then (hK10 _ _ ?_))
    clear hK10 K10
    refine wc_condF rfl ?_
    refine c_skip (x_then (hK9 _ _ ?_))
    clear hK9 K9
    refine forget [(0, _), (3, _)] ⟨rfl, rfl, trivial⟩ (fun e => ?_)
    refine c_seq (fun K11 hK11 => ?_)
    refine c_piL 10 [(0, false), (1, false), (2, false), (3, false), (4, false), (5, false), (6, false), (7, false), (8, false), (9, false)] (SameH _) mixed (by kernel_rfl) rfl (by kernel_rfl) (po_then (po_bp)) (sameH_now _ _) ?_ -- region 6 parse.go:47
    refine ql_ro rfl (fun w hS => ro_move rfl) ?_
    refine ql_ro rfl (fun w hS => ro_nilCheck rfl) ?_
    refine ql_ro rfl (fun w hS => ro_fieldAddr (k := 4) rfl fo_83_4) ?_
    refine ql_ro rfl (fun w hS => ro_loadB rfl sc_78 (Blk.of_heap hB hS) (rfl)) ?_
    refine ql_ro rfl (fun w hS => ro_move rfl) ?_
    refine ql_ro rfl (fun w hS => ro_nilCheck rfl) ?_
    refine ql_ro rfl (fun w hS => ro_fieldAddr (k := 5) rfl fo_83_5) ?_
    refine ql_ro rfl (fun w hS => ro_loadB rfl sc_3 (Blk.of_heap hB hS) (rfl)) ?_
    refine ql_ro rfl (fun w hS => ro_loadAggB rfl ag_143 (Blk.of_heap hX hS) (rfl) (rfl)) ?_
    refine ql_ro rfl (fun w hS => ro_indexAddr (et := 143) (k := 13) rfl rfl se_78 (rfl) (h24)) ?_
    refine ql_puta rfl rfl rfl ((ndc_cells x)) sz_143 (rfl) hA ((by rw [cel_len]; show _ + 13 ≤ _; omega)) ((cel_puts (ar.length * 13) (by omega) rfl (by show _ + 13 ≤ _; omega))) (fun w2 hA F2 => ?_)
    replace hF := hF.thenDrew.thenO F2 (by first | exact .inr (by omega) | exact .inl rfl | exact .inl (by assumption))
    replace hB := F2.blkO hB (by first | (simp only [ne_eq, ho.all, not_false_eq_true]; done) | omega)
    replace hX := F2.blkO hX (by first | (simp only [ne_eq, ho.all, not_false_eq_true]; done) | omega)
    refine x_then (hK11 _ _ ?_)
    clear hK11 K11
    refine forget [(0, _)] ⟨rfl, trivial⟩ (fun e => ?_)
    refine c_seq (fun K12 hK12 => ?_)
    refine c_reg ?_ -- region 7 parse.go:48
    refine wl (ro_move rfl) ?_
    refine wl (ro_nilCheck rfl) ?_
    refine wl (ro_fieldAddr (k := 5) rfl fo_83_5) ?_
    refine wl (ro_loadB rfl sc_3 (hB) (rfl)) ?_
    refine wl (ro_arith (r := ((ar.length + 1 : Nat) : Int)) rfl rfl rfl (Go.IntWalk.i64_in _ (by omega))) ?_
    refine wl (ro_nilCheck rfl) ?_
    refine wl (ro_fieldAddr (k := 5) rfl fo_83_5) ?_
    refine wl_put rfl rfl rfl sz_3 hB ((by simp)) ((show _ = fml B nt k pos (ar.length + 1) nv no hv dn 0 bd wi from rfl)) (fun w3 hB F3 => ?_)
    replace hF := hF.thenDrew.thenO F3 (by first | exact .inr (by omega) | exact .inl rfl | exact .inl (by assumption))
    replace hA := F3.blkO hA (by first | (simp only [ne_eq, ho.all, not_false_eq_true]; done) | omega)
    replace hX := F3.blkO hX (by first | (simp only [ne_eq, ho.all, not_false_eq_true]; done) | omega)
    refine wl_nil (x_then (hK12 _ _ ?_))
    clear hK12 K12
    refine forget [(0, _)] ⟨rfl, trivial⟩ (fun e => ?_)
    refine c_seq (fun K13 hK13 => ?_)
    refine c_reg ?_ -- region 8 parse.go:49
    refine wl (ro_move rfl) ?_
    refine wl (ro_nilCheck rfl) ?_
    refine wl (ro_fieldAddr (k := 5) rfl fo_83_5) ?_
    refine wl (ro_loadB rfl sc_3 (hB) (rfl)) ?_
    refine wl (ro_arith (r := (ar.length : Int)) rfl rfl (congrArg some (by show ((ar.length + 1 : Nat) : Int) - 1 = _; omega)) (Go.IntWalk.i64_in _ (by omega))) ?_
    refine wl (ro_assign rfl) ?_
    refine wl_nil (x_then (hK13 _ _ ?_))
    clear hK13 K13
    refine c_ret ?_
    refine bp_ret Tryz.results193 rfl ?_
    rw [show decide ((0 : Int) ≠ 0) = false from rfl, addX_lt h24]; exact ⟨rfl, ⟨⟨0, bd, rfl, by rw [List.length_append]; exact hB⟩, ⟨_, hA, hN.app x⟩⟩, hF⟩

theorem push162 {w : World} {B : FB7} {nt k nn nv : Nat} {pos er bd wi a : Int} {hv dn : Bool} {os : List Mk} {fo : Nat → Value} {m : Mk} (ho : FBo B) (hl : os.length < 41) (hB : Blk w.heap B.f (fml B nt k pos nn nv os.length hv dn er bd wi) 83) (hO : FB w.heap B.o 205 fo 197) (hM : MkV fo os) :
    Ret Tryz.prog 162 [ptr B.f, .agg (mkc a m).toArray] w (fun v w' => v = .tuple #[] ∧ Blk w'.heap B.f (fml B nt k pos nn nv (os.length + 1) hv dn er bd wi) 83 ∧ (∃ fo', FB w'.heap B.o 205 fo' 197 ∧ MkV fo' (m :: os)) ∧ Fram (fo2 B) w w') := by
  have hF : Fram (fo2 B) w w := Fram.refl _ _
  have hm1 : fo2 B B.f := .inl rfl
  have hm2 : fo2 B B.o := .inr rfl
  refine ret_of Tryz.func162 rfl Tryz.ntmps162 rfl ?_
  refine c_seq (fun K1 hK1 => ?_)
  refine c_reg ?_ -- region 0 parse.go:52
  refine wl_box (cs := (mkc a m)) rfl rfl (fun xb w1 hbxb hX F1 => ?_)
  have hbsxb := Nat.le_trans hF.size hbxb
  have hneB.fxb : B.f < xb := Nat.lt_of_lt_of_le hB.lt hbxb
  have hneB.oxb : B.o < xb := Nat.lt_of_lt_of_le hO.lt hbxb
  replace hF := hF.thenDrew.thenN F1
  replace hB := F1.blkN hB
  replace hO := F1.blkN hO
  refine wl_nil (x_then (hK1 _ _ ?_))
  clear hK1 K1
  refine forget [(0, _), (3, _)] ⟨rfl, rfl, trivial⟩ (fun e => ?_)
  refine c_seq (fun K2 hK2 => ?_)
  refine c_piL 10 [(0, false), (1, false), (2, false), (3, false), (4, false), (5, false), (6, false), (7, false), (8, false), (9, false)] (SameH _) mixed (by kernel_rfl) rfl (by kernel_rfl) (po_then (po_bp)) (sameH_now _ _) ?_ -- region 1 parse.go:53
  refine ql_ro rfl (fun w hS => ro_move rfl) ?_
  refine ql_ro rfl (fun w hS => ro_nilCheck rfl) ?_
  refine ql_ro rfl (fun w hS => ro_fieldAddr (k := 8) rfl fo_83_8) ?_
  refine ql_ro rfl (fun w hS => ro_loadB rfl sc_80 (Blk.of_heap hB hS) (rfl)) ?_
  refine ql_ro rfl (fun w hS => ro_move rfl) ?_
  refine ql_ro rfl (fun w hS => ro_nilCheck rfl) ?_
  refine ql_ro rfl (fun w hS => ro_fieldAddr (k := 9) rfl fo_83_9) ?_
  refine ql_ro rfl (fun w hS => ro_loadB rfl sc_3 (Blk.of_heap hB hS) (rfl)) ?_
  refine ql_ro rfl (fun w hS => ro_loadAggB rfl ag_197 (Blk.of_heap hX hS) (rfl) (rfl)) ?_
  refine ql_ro rfl (fun w hS => ro_indexAddr (et := 197) (k := 5) rfl rfl se_80 (rfl) (hl)) ?_
  refine ql_puta rfl rfl rfl ((mkc_cells a m)) sz_197 (rfl) hO ((by rw [cel_len]; show _ + 5 ≤ _; omega)) ((cel_puts (os.length * 5) (by omega) rfl (by show _ + 5 ≤ _; omega))) (fun w2 hO F2 => ?_)
  replace hF := hF.thenDrew.thenO F2 (by first | exact .inr (by omega) | exact .inl rfl | exact .inl (by assumption))
  replace hB := F2.blkO hB (by first | (simp only [ne_eq, ho.all, not_false_eq_true]; done) | omega)
  replace hX := F2.blkO hX (by first | (simp only [ne_eq, ho.all, not_false_eq_true]; done) | omega)
  refine x_then (hK2 _ _ ?_)
  clear hK2 K2
  refine c_reg ?_ -- region 2 parse.go:54
  refine wl (ro_move rfl) ?_
  refine wl (ro_nilCheck rfl) ?_
  refine wl (ro_fieldAddr (k := 9) rfl fo_83_9) ?_
  refine wl (ro_loadB rfl sc_3 (hB) (rfl)) ?_
  refine wl (ro_arith (r := ((os.length + 1 : Nat) : Int)) rfl rfl rfl (Go.IntWalk.i64_in _ (by omega))) ?_
  refine wl (ro_nilCheck rfl) ?_
  refine wl (ro_fieldAddr (k := 9) rfl fo_83_9) ?_
  refine wl_put rfl rfl rfl sz_3 hB ((by simp)) ((show _ = fml B nt k pos nn nv (os.length + 1) hv dn er bd wi from rfl)) (fun w3 hB F3 => ?_)
  replace hF := hF.thenDrew.thenO F3 (by first | exact .inr (by omega) | exact .inl rfl | exact .inl (by assumption))
  replace hO := F3.blkO hO (by first | (simp only [ne_eq, ho.all, not_false_eq_true]; done) | omega)
  replace hX := F3.blkO hX (by first | (simp only [ne_eq, ho.all, not_false_eq_true]; done) | omega)
  refine wl_nil ?_
  refine bp_end Tryz.results162 rfl ?_
  exact ⟨rfl, hB, ⟨_, hO, hM.push a m⟩, hF⟩

theorem topS_no {m : Mk} {os : List Mk} (h : m.k ≠ 2) : topS (m :: os) = 0 := by simp [topS, h]
theorem topS_bin {m : Mk} {os : List Mk} (h : m.k = 2) : topS (m :: os) = strg m.o := by simp [topS, h]

theorem top157 {w : World} {B : FB7} {nt k nn nv : Nat} {pos er bd wi : Int} {hv dn : Bool} {os : List Mk} {fo : Nat → Value} (hl : os.length ≤ 41) (hB : Blk w.heap B.f (fml B nt k pos nn nv os.length hv dn er bd wi) 83) (hO : FB w.heap B.o 205 fo 197) (hM : MkV fo os) :
    Ret Tryz.prog 157 [ptr B.f] w (fun v w' => v = i64c (topS os) ∧ Fram none' w w') := by
  have hF : Fram none' w w := Fram.refl _ _
  refine ret_of Tryz.func157 rfl Tryz.ntmps157 rfl ?_
  refine c_seq (fun K1 hK1 => ?_)
  refine c_reg ?_ -- region 0 parse.go:69
  refine wl (ro_assign rfl) ?_
  refine wl_nil (x_then (hK1 _ _ ?_))
  clear hK1 K1
  refine c_seq (fun K2 hK2 => ?_)
  refine c_seq (fun K3 hK3 => ?_)
  have hcs : os = [] ∨ (∃ m os', os = m :: os' ∧ m.k ≠ 2) ∨ (∃ m os', os = m :: os' ∧ m.k = 2) := by
    cases os with
    | nil => exact .inl rfl
    | cons m os' =>
      by_cases h : m.k = 2
      · exact .inr (.inr ⟨m, os', rfl, h⟩)
      · exact .inr (.inl ⟨m, os', rfl, h⟩)
  rcases hcs with rfl | ⟨m, os', rfl, hmk⟩ | ⟨m, os', rfl, hmk⟩
  · skip
    refine c_pi [(0, false), (1, false), (2, false), (3, false), (4, false), (5, false), (6, false), (7, false), (8, false), (9, false), (10, false), (11, false), (12, false), (13, false), (14, false), (15, false), (16, false), (17, false), (18, false), (19, false)] (SameH _) mixed (by kernel_rfl) rfl (by kernel_rfl) (po_then (po_then (po_bp))) (sameH_now _ _) ?_ -- region 1 parse.go:70
    refine pi_ro rfl (fun w hS => ro_move rfl) ?_
    refine pi_ro rfl (fun w hS => ro_nilCheck rfl) ?_
    refine pi_ro rfl (fun w hS => ro_fieldAddr (k := 9) rfl fo_83_9) ?_
    refine pi_ro rfl (fun w hS => ro_loadB rfl sc_3 (Blk.of_heap hB hS) (rfl)) ?_
    refine pi_ro rfl (fun w hS => ro_cmp (r := true) rfl rfl rfl) ?_
    refine pi_ro rfl (fun w hS => ro_move rfl) ?_
    refine pi_gno rfl rfl ?_
    refine pi_gno rfl rfl ?_
    refine pi_gno rfl rfl ?_
    refine pi_gno rfl rfl ?_
    refine pi_gno rfl rfl ?_
    refine pi_gno rfl rfl ?_
    refine pi_gno rfl rfl ?_
    refine pi_gno rfl rfl ?_
    refine pi_gno rfl rfl ?_
    refine pi_gno rfl rfl ?_
    refine pi_gno rfl rfl ?_
    refine pi_gno rfl rfl ?_
    refine pi_gno rfl rfl ?_
    refine pi_ro rfl (fun w hS => ro_pick rfl rfl rfl) ?_
    refine pi_nil (x_then (hK3 _ _ ?_))
    clear hK3 K3
    refine wc_condT rfl ?_
    refine c_seq (fun K4 hK4 => ?_)
    refine c_reg ?_ -- region 2 parse.go:71
    refine wl (ro_assign rfl) ?_
    refine wl_nil (x_then (hK4 _ _ ?_))
    clear hK4 K4
    refine c_ret (x_thenR ?_)
    refine bp_ret Tryz.results157 rfl ?_
    exact ⟨rfl, hF.thenDrew⟩
  · skip
    simp only [List.length_cons] at hl
    obtain ⟨ma, hcel⟩ := hM.top
    have hx0 : fo (os'.length * 5 + 0) = i64c m.k := hcel 0 _ rfl
    refine c_pi [(0, false), (1, false), (2, false), (3, false), (4, false), (5, false), (6, false), (7, false), (8, false), (9, false), (10, false), (11, false), (12, false), (13, false), (14, false), (15, false), (16, false), (17, false), (18, false), (19, false)] (SameH _) mixed (by kernel_rfl) rfl (by kernel_rfl) (po_then (po_then (po_bp))) (sameH_now _ _) ?_ -- region 1 parse.go:70
    refine pi_ro rfl (fun w hS => ro_move rfl) ?_
    refine pi_ro rfl (fun w hS => ro_nilCheck rfl) ?_
    refine pi_ro rfl (fun w hS => ro_fieldAddr (k := 9) rfl fo_83_9) ?_
    refine pi_ro rfl (fun w hS => ro_loadB rfl sc_3 (Blk.of_heap hB hS) (rfl)) ?_
    refine pi_ro rfl (fun w hS => ro_cmp (r := false) rfl rfl (congrArg some ((beqc (os'.length + 1) 0).trans (decide_eq_false (by omega))))) ?_
    refine pi_ro rfl (fun w hS => ro_move rfl) ?_
    refine pi_gyes rfl rfl (fun w hS => ro_move rfl) ?_
    refine pi_gyes rfl rfl (fun w hS => ro_nilCheck rfl) ?_
    refine pi_gyes rfl rfl (fun w hS => ro_fieldAddr (k := 8) rfl fo_83_8) ?_
    refine pi_gyes rfl rfl (fun w hS => ro_loadB rfl sc_80 (Blk.of_heap hB hS) (rfl)) ?_
    refine pi_gyes rfl rfl (fun w hS => ro_move rfl) ?_
    refine pi_gyes rfl rfl (fun w hS => ro_nilCheck rfl) ?_
    refine pi_gyes rfl rfl (fun w hS => ro_fieldAddr (k := 9) rfl fo_83_9) ?_
    refine pi_gyes rfl rfl (fun w hS => ro_loadB rfl sc_3 (Blk.of_heap hB hS) (rfl)) ?_
    refine pi_gyes rfl rfl (fun w hS => ro_arith (r := (os'.length : Int)) rfl rfl (congrArg some (by show ((os'.length + 1 : Nat) : Int) - 1 = _; omega)) (Go.IntWalk.i64_in _ (by omega))) ?_
    refine pi_gyes rfl rfl (fun w hS => ro_indexAddr (et := 197) (k := 5) rfl rfl se_80 (rfl) ((by omega : os'.length < 41))) ?_
    refine pi_gyes rfl rfl (fun w hS => ro_fieldAddr (k := 0) rfl fo_197_0) ?_
    refine pi_gyes rfl rfl (fun w hS => ro_loadB rfl sc_3 (Blk.of_heap hO hS) (cel_at (k := os'.length * 5 + 0) (by omega) (by omega) hx0)) ?_
    refine pi_gyes rfl rfl (fun w hS => ro_cmp (r := true) rfl rfl (congrArg some ((bnec m.k 2).trans (decide_eq_true hmk)))) ?_
    refine pi_ro rfl (fun w hS => ro_pick rfl rfl rfl) ?_
    refine pi_nil (x_then (hK3 _ _ ?_))
    clear hK3 K3
    refine wc_condT rfl ?_
    refine c_seq (fun K5 hK5 => ?_)
    refine c_reg ?_ -- region 2 parse.go:71
    refine wl (ro_assign rfl) ?_
    refine wl_nil (x_then (hK5 _ _ ?_))
    clear hK5 K5
    refine c_ret (x_thenR ?_)
    refine bp_ret Tryz.results157 rfl ?_
    exact ⟨by rw [topS_no hmk]; rfl, hF.thenDrew⟩
  · skip
    simp only [List.length_cons] at hl
    obtain ⟨ma, hcel⟩ := hM.top
    have hx0 : fo (os'.length * 5 + 0) = i64c m.k := hcel 0 _ rfl
    have hx1 : fo (os'.length * 5 + 1) = i64c m.o := hcel 1 _ rfl
    refine c_pi [(0, false), (1, false), (2, false), (3, false), (4, false), (5, false), (6, false), (7, false), (8, false), (9, false), (10, false), (11, false), (12, false), (13, false), (14, false), (15, false), (16, false), (17, false), (18, false), (19, false)] (SameH _) mixed (by kernel_rfl) rfl (by kernel_rfl) (po_then (po_then (po_bp))) (sameH_now _ _) ?_ -- region 1 parse.go:70
    refine pi_ro rfl (fun w hS => ro_move rfl) ?_
    refine pi_ro rfl (fun w hS => ro_nilCheck rfl) ?_
    refine pi_ro rfl (fun w hS => ro_fieldAddr (k := 9) rfl fo_83_9) ?_
    refine pi_ro rfl (fun w hS => ro_loadB rfl sc_3 (Blk.of_heap hB hS) (rfl)) ?_
    refine pi_ro rfl (fun w hS => ro_cmp (r := false) rfl rfl (congrArg some ((beqc (os'.length + 1) 0).trans (decide_eq_false (by omega))))) ?_
    refine pi_ro rfl (fun w hS => ro_move rfl) ?_
    refine pi_gyes rfl rfl (fun w hS => ro_move rfl) ?_
    refine pi_gyes rfl rfl (fun w hS => ro_nilCheck rfl) ?_
    refine pi_gyes rfl rfl (fun w hS => ro_fieldAddr (k := 8) rfl fo_83_8) ?_
    refine pi_gyes rfl rfl (fun w hS => ro_loadB rfl sc_80 (Blk.of_heap hB hS) (rfl)) ?_
    refine pi_gyes rfl rfl (fun w hS => ro_move rfl) ?_
    refine pi_gyes rfl rfl (fun w hS => ro_nilCheck rfl) ?_
    refine pi_gyes rfl rfl (fun w hS => ro_fieldAddr (k := 9) rfl fo_83_9) ?_
    refine pi_gyes rfl rfl (fun w hS => ro_loadB rfl sc_3 (Blk.of_heap hB hS) (rfl)) ?_
    refine pi_gyes rfl rfl (fun w hS => ro_arith (r := (os'.length : Int)) rfl rfl (congrArg some (by show ((os'.length + 1 : Nat) : Int) - 1 = _; omega)) (Go.IntWalk.i64_in _ (by omega))) ?_
    refine pi_gyes rfl rfl (fun w hS => ro_indexAddr (et := 197) (k := 5) rfl rfl se_80 (rfl) ((by omega : os'.length < 41))) ?_
    refine pi_gyes rfl rfl (fun w hS => ro_fieldAddr (k := 0) rfl fo_197_0) ?_
    refine pi_gyes rfl rfl (fun w hS => ro_loadB rfl sc_3 (Blk.of_heap hO hS) (cel_at (k := os'.length * 5 + 0) (by omega) (by omega) hx0)) ?_
    refine pi_gyes rfl rfl (fun w hS => ro_cmp (r := false) rfl rfl (congrArg some ((bnec m.k 2).trans (decide_eq_false (fun h => h hmk))))) ?_
    refine pi_ro rfl (fun w hS => ro_pick rfl rfl rfl) ?_
    refine pi_nil (x_then (hK3 _ _ ?_))
    clear hK3 K3
    refine wc_condF rfl ?_
    refine c_skip (x_then (hK2 _ _ ?_))
    clear hK2 K2
    refine forget [(0, _)] ⟨rfl, trivial⟩ (fun e => ?_)
    refine c_seq (fun K6 hK6 => ?_)
    refine c_pi [(0, false), (1, false), (2, false), (3, false), (4, false), (5, false), (6, false), (7, false), (8, false), (9, false), (10, false), (11, false), (12, true), (13, false)] (SameH _) mixed (by kernel_rfl) rfl (by kernel_rfl) (po_then (po_bp)) (sameH_now _ _) ?_ -- region 3 parse.go:73
    refine pi_ro rfl (fun w hS => ro_move rfl) ?_
    refine pi_ro rfl (fun w hS => ro_nilCheck rfl) ?_
    refine pi_ro rfl (fun w hS => ro_fieldAddr (k := 8) rfl fo_83_8) ?_
    refine pi_ro rfl (fun w hS => ro_loadB rfl sc_80 (Blk.of_heap hB hS) (rfl)) ?_
    refine pi_ro rfl (fun w hS => ro_move rfl) ?_
    refine pi_ro rfl (fun w hS => ro_nilCheck rfl) ?_
    refine pi_ro rfl (fun w hS => ro_fieldAddr (k := 9) rfl fo_83_9) ?_
    refine pi_ro rfl (fun w hS => ro_loadB rfl sc_3 (Blk.of_heap hB hS) (rfl)) ?_
    refine pi_ro rfl (fun w hS => ro_arith (r := (os'.length : Int)) rfl rfl (congrArg some (by show ((os'.length + 1 : Nat) : Int) - 1 = _; omega)) (Go.IntWalk.i64_in _ (by omega))) ?_
    refine pi_ro rfl (fun w hS => ro_indexAddr (et := 197) (k := 5) rfl rfl se_80 (rfl) ((by omega : os'.length < 41))) ?_
    refine pi_ro rfl (fun w hS => ro_fieldAddr (k := 1) rfl fo_197_1) ?_
    refine pi_ro rfl (fun w hS => ro_loadB rfl sc_3 (Blk.of_heap hO hS) (cel_at (k := os'.length * 5 + 1) (by omega) (by omega) hx1)) ?_
    refine pi_call rfl rfl en_156 (strength156) ?_
    rintro _ _ ⟨rfl, rfl⟩
    refine ⟨rfl, ?_⟩
    refine pi_ro rfl (fun w hS => ro_assign rfl) ?_
    refine pi_nil (x_then (hK6 _ _ ?_))
    clear hK6 K6
    refine c_ret ?_
    refine bp_ret Tryz.results157 rfl ?_
    exact ⟨by rw [topS_bin hmk], hF.thenDrew⟩

end Go.Proofs.Qxb6500570aGreat
