import Derived.Test.Qxb6500568aGreatDoorYm
/- The model's operators: Text, Compare, bin, un. -/
namespace Go.Proofs.Qxb6500568aGreatDoor
open Ieee
set_option linter.unusedVariables false
set_option linter.unusedSimpArgs false
set_option linter.unusedSectionVars false

theorem bl_eq : ∀ (x y : Str), Op.bytesLess x y = ltS x y
  | [], [] => rfl
  | _ :: _, [] => rfl
  | [], _ :: _ => rfl
  | a :: x, b :: y => by
    rw [Op.bytesLess, ltS, bl_eq x y]
    by_cases h1 : a < b
    · simp [h1]
    · by_cases h2 : a = b <;> simp [h1, h2]
theorem le_lt : ∀ (x y : Str), (ltS x y || x == y) = !ltS y x
  | [], [] => rfl
  | _ :: _, [] => rfl
  | [], _ :: _ => rfl
  | a :: x, b :: y => by
    rw [ltS, ltS]
    by_cases h1 : a < b
    · have h2 : ¬ b < a := fun q => UInt8.lt_asymm h1 q
      have h3 : ¬ b = a := fun q => by subst q; exact UInt8.lt_irrefl _ h1
      simp [h1, h2, h3]
    · by_cases h2 : a = b
      · subst h2
        have ih := le_lt x y
        simp only [h1, if_false, if_true]
        rw [← ih]
        simp
      · have h3 : b < a := by
          rcases UInt8.lt_or_lt_of_ne h2 with q | q
          · exact absurd q h1
          · exact q
        simp [h1, h2, h3]
section
variable {P : Program} {n : Nat} {e : Nat → Option Value} {w : World}
theorem ro_leS {op : BinOp} {t t' : TypeId} {x y : Operand} {l m : List UInt8} {r : Bool} (hx : evO n e x = some (S l)) (hy : evO n e y = some (S m)) (hr : (match op with | .lss => some (ltS l m) | .gtr => some (ltS m l) | .leq => some (!ltS m l) | .geq => some (!ltS l m) | _ => none) = some r) :
    RO P n e w (.binOp op t x y t') (.bool r) := by
  have h1 := le_lt l m
  have h2 : ltS m l = !(ltS l m || l == m) := by rw [h1]; simp
  intro ds dst ty ps af g
  cases op <;> cases hr <;> simp [execOp, evO_eval hx, evO_eval hy, eqGuard, S, binOp, Op.stringOp, bl_eq]
  · rw [← h1]
  · rw [h2]; simp
end
set_option maxHeartbeats 4000000 in
theorem Text119 {w : World} {p : Value} {v : PV} (hv : PVf v) (h6 : v.T = 6 → v.N < 1000) : Ret Tryz.prog 119 [p, pv v] w (fun r w' => r = S (txV v) ∧ Fram none' w w') := by
  have hF : Fram none' w w := Fram.refl _ _
  have hN : W64 v.N := hv.n
  have l3 : (dgT v.N).length ≤ 20 := dgT_len (k := 19) (by omega) (by unfold W64 at hN; omega)
  have l4 := tyName_len v
  have l5 := biName_len v.N
  refine ret_of Tryz.func119 rfl Tryz.ntmps119 rfl ?_
  refine c_seq (fun K1 hK1 => ?_)
  refine c_reg ?_ -- region 0 vmm.go:239
  refine wl_box (cs := (pvc v)) rfl rfl (fun b3 w1 hbb3 h3 F1 => ?_)
  have hbsb3 := Nat.le_trans hF.size hbb3
  replace hF := hF.thenDrew.thenN F1
  refine wl (ro_assign rfl) ?_
  refine wl_nil (x_then (hK1 _ _ ?_))
  clear hK1 K1
  refine c_seq (fun K2 hK2 => ?_)
  refine c_seq (fun K3 hK3 => ?_)
  refine c_reg ?_ -- region 1 vmm.go:240
  refine wl (ro_fieldAddr (k := 0) rfl fo_119_0) ?_
  refine wl (ro_loadB rfl sc_3 (by assumption) rfl) ?_
  refine wl_nil (x_then (hK3 _ _ ?_))
  clear hK3 K3
  refine c_block ?_
  refine forget [(0, _), (3, _), (9, _)] ⟨rfl, rfl, rfl, trivial⟩ (fun e => ?_)
  refine c_seq (fun K4 hK4 => ?_)
  refine c_reg ?_ -- region 2 vmm.go:241
  refine wl (ro_cmp rfl rfl rfl) ?_
  refine wl (ro_assign rfl) ?_
  refine wl_nil (x_then (hK4 _ _ ?_))
  clear hK4 K4
  refine wc_cond rfl (fun hc10 => ?_) (fun hc10 => ?_)
  · try simp only [decide_eq_true_eq, decide_eq_false_iff_not, Bool.not_eq_true', Bool.not_eq_false', Bool.not_eq_eq_eq_not, Bool.not_true, Bool.not_false, beq_iff_eq, bne_iff_ne, ne_eq, beq_eq_false_iff_ne, bne_eq_false_iff_eq, gt_iff_lt, ge_iff_le, Int.not_lt, Int.not_le] at hc10
    refine c_seq (fun K5 hK5 => ?_)
    refine c_reg ?_ -- region 3 vmm.go:242
    refine wl (ro_assign rfl) ?_
    refine wl_nil (x_then (hK5 _ _ ?_))
    clear hK5 K5
    refine c_ret (x_blkR (x_thenR ?_))
    refine bp_ret Tryz.results119 rfl ?_
    exact ⟨by unfold txV; rw [if_pos (by omega)]; rfl, hF⟩
  · try simp only [decide_eq_true_eq, decide_eq_false_iff_not, Bool.not_eq_true', Bool.not_eq_false', Bool.not_eq_eq_eq_not, Bool.not_true, Bool.not_false, beq_iff_eq, bne_iff_ne, ne_eq, beq_eq_false_iff_ne, bne_eq_false_iff_eq, gt_iff_lt, ge_iff_le, Int.not_lt, Int.not_le] at hc10
    refine c_seq (fun K6 hK6 => ?_)
    refine c_reg ?_ -- region 4 vmm.go:243
    refine wl (ro_cmp rfl rfl rfl) ?_
    refine wl (ro_assign rfl) ?_
    refine wl_nil (x_then (hK6 _ _ ?_))
    clear hK6 K6
    refine wc_cond rfl (fun hc12 => ?_) (fun hc12 => ?_)
    · try simp only [decide_eq_true_eq, decide_eq_false_iff_not, Bool.not_eq_true', Bool.not_eq_false', Bool.not_eq_eq_eq_not, Bool.not_true, Bool.not_false, beq_iff_eq, bne_iff_ne, ne_eq, beq_eq_false_iff_ne, bne_eq_false_iff_eq, gt_iff_lt, ge_iff_le, Int.not_lt, Int.not_le] at hc12
      refine c_seq (fun K7 hK7 => ?_)
      refine c_seq (fun K8 hK8 => ?_)
      refine c_reg ?_ -- region 5 vmm.go:244
      refine wl (ro_fieldAddr (k := 1) rfl fo_119_1) ?_
      refine wl (ro_loadB rfl sc_117 (by assumption) rfl) ?_
      refine wl (ro_cmpU rfl rfl rfl) ?_
      refine wl_nil (x_then (hK8 _ _ ?_))
      clear hK8 K8
      refine wc_cond rfl (fun hc16 => ?_) (fun hc16 => ?_)
      · try simp only [decide_eq_true_eq, decide_eq_false_iff_not, Bool.not_eq_true', Bool.not_eq_false', Bool.not_eq_eq_eq_not, Bool.not_true, Bool.not_false, beq_iff_eq, bne_iff_ne, ne_eq, beq_eq_false_iff_ne, bne_eq_false_iff_eq, gt_iff_lt, ge_iff_le, Int.not_lt, Int.not_le] at hc16
        refine c_seq (fun K9 hK9 => ?_)
        refine c_reg ?_ -- region 6 vmm.go:245
        refine wl (ro_assign rfl) ?_
        refine wl_nil (x_then (hK9 _ _ ?_))
        clear hK9 K9
        refine c_ret (x_thenR (x_blkR (x_thenR ?_)))
        refine bp_ret Tryz.results119 rfl ?_
        exact ⟨by unfold txV; rw [if_neg (by omega), if_pos (by omega), if_pos (by omega)]; rfl, hF⟩
      · try simp only [decide_eq_true_eq, decide_eq_false_iff_not, Bool.not_eq_true', Bool.not_eq_false', Bool.not_eq_eq_eq_not, Bool.not_true, Bool.not_false, beq_iff_eq, bne_iff_ne, ne_eq, beq_eq_false_iff_ne, bne_eq_false_iff_eq, gt_iff_lt, ge_iff_le, Int.not_lt, Int.not_le] at hc16
        refine c_skip (x_then (hK7 _ _ ?_))
        clear hK7 K7
        refine forget [] trivial (fun e => ?_)
        refine c_seq (fun K10 hK10 => ?_)
        refine c_reg ?_ -- region 7 vmm.go:247
        refine wl (ro_assign rfl) ?_
        refine wl_nil (x_then (hK10 _ _ ?_))
        clear hK10 K10
        refine c_ret (x_blkR (x_thenR ?_))
        refine bp_ret Tryz.results119 rfl ?_
        exact ⟨by unfold txV; rw [if_neg (by omega), if_pos (by omega), if_neg (by omega)]; rfl, hF⟩
    · try simp only [decide_eq_true_eq, decide_eq_false_iff_not, Bool.not_eq_true', Bool.not_eq_false', Bool.not_eq_eq_eq_not, Bool.not_true, Bool.not_false, beq_iff_eq, bne_iff_ne, ne_eq, beq_eq_false_iff_ne, bne_eq_false_iff_eq, gt_iff_lt, ge_iff_le, Int.not_lt, Int.not_le] at hc12
      refine c_seq (fun K11 hK11 => ?_)
      refine c_reg ?_ -- region 8 vmm.go:248
      refine wl (ro_cmp rfl rfl rfl) ?_
      refine wl (ro_assign rfl) ?_
      refine wl_nil (x_then (hK11 _ _ ?_))
      clear hK11 K11
      refine wc_cond rfl (fun hc17 => ?_) (fun hc17 => ?_)
      · try simp only [decide_eq_true_eq, decide_eq_false_iff_not, Bool.not_eq_true', Bool.not_eq_false', Bool.not_eq_eq_eq_not, Bool.not_true, Bool.not_false, beq_iff_eq, bne_iff_ne, ne_eq, beq_eq_false_iff_ne, bne_eq_false_iff_eq, gt_iff_lt, ge_iff_le, Int.not_lt, Int.not_le] at hc17
        refine c_seq (fun K12 hK12 => ?_)
        refine c_reg ?_ -- region 9 vmm.go:249
        refine wl (ro_move rfl) ?_
        refine wl (ro_fieldAddr (k := 1) rfl fo_119_1) ?_
        refine wl (ro_loadB rfl sc_117 (by assumption) rfl) ?_
        refine wl_call rfl en_170 (Format170 hN) ?_
        rintro _ w2 ⟨rfl, F2⟩
        replace hF := hF.thenDrew.thenN F2
        replace h3 := F2.blkN h3
        refine wl (ro_assign rfl) ?_
        refine wl_nil (x_then (hK12 _ _ ?_))
        clear hK12 K12
        refine c_ret (x_blkR (x_thenR ?_))
        refine bp_ret Tryz.results119 rfl ?_
        exact ⟨by unfold txV; rw [if_neg (by omega), if_neg (by omega), if_pos (by omega)], hF⟩
      · try simp only [decide_eq_true_eq, decide_eq_false_iff_not, Bool.not_eq_true', Bool.not_eq_false', Bool.not_eq_eq_eq_not, Bool.not_true, Bool.not_false, beq_iff_eq, bne_iff_ne, ne_eq, beq_eq_false_iff_ne, bne_eq_false_iff_eq, gt_iff_lt, ge_iff_le, Int.not_lt, Int.not_le] at hc17
        refine c_seq (fun K13 hK13 => ?_)
        refine c_reg ?_ -- region 10 vmm.go:250
        refine wl (ro_cmp rfl rfl rfl) ?_
        refine wl (ro_assign rfl) ?_
        refine wl_nil (x_then (hK13 _ _ ?_))
        clear hK13 K13
        refine wc_cond rfl (fun hc23 => ?_) (fun hc23 => ?_)
        · try simp only [decide_eq_true_eq, decide_eq_false_iff_not, Bool.not_eq_true', Bool.not_eq_false', Bool.not_eq_eq_eq_not, Bool.not_true, Bool.not_false, beq_iff_eq, bne_iff_ne, ne_eq, beq_eq_false_iff_ne, bne_eq_false_iff_eq, gt_iff_lt, ge_iff_le, Int.not_lt, Int.not_le] at hc23
          refine c_seq (fun K14 hK14 => ?_)
          refine c_reg ?_ -- region 11 vmm.go:251
          refine wl (ro_fieldAddr (k := 2) rfl fo_119_2) ?_
          refine wl (ro_loadB rfl sc_9 (by assumption) rfl) ?_
          refine wl (ro_assign rfl) ?_
          refine wl_nil (x_then (hK14 _ _ ?_))
          clear hK14 K14
          refine c_ret (x_blkR (x_thenR ?_))
          refine bp_ret Tryz.results119 rfl ?_
          exact ⟨by unfold txV; rw [if_neg (by omega), if_neg (by omega), if_neg (by omega), if_pos (by omega)], hF⟩
        · try simp only [decide_eq_true_eq, decide_eq_false_iff_not, Bool.not_eq_true', Bool.not_eq_false', Bool.not_eq_eq_eq_not, Bool.not_true, Bool.not_false, beq_iff_eq, bne_iff_ne, ne_eq, beq_eq_false_iff_ne, bne_eq_false_iff_eq, gt_iff_lt, ge_iff_le, Int.not_lt, Int.not_le] at hc23
          refine c_seq (fun K15 hK15 => ?_)
          refine c_reg ?_ -- region 12 vmm.go:252
          refine wl (ro_cmp rfl rfl rfl) ?_
          refine wl (ro_assign rfl) ?_
          refine wl_nil (x_then (hK15 _ _ ?_))
          clear hK15 K15
          refine wc_cond rfl (fun hc27 => ?_) (fun hc27 => ?_)
          · try simp only [decide_eq_true_eq, decide_eq_false_iff_not, Bool.not_eq_true', Bool.not_eq_false', Bool.not_eq_eq_eq_not, Bool.not_true, Bool.not_false, beq_iff_eq, bne_iff_ne, ne_eq, beq_eq_false_iff_ne, bne_eq_false_iff_eq, gt_iff_lt, ge_iff_le, Int.not_lt, Int.not_le] at hc27
            refine c_seq (fun K16 hK16 => ?_)
            refine c_reg ?_ -- region 13 vmm.go:253
            refine wl (ro_fieldAddr (k := 1) rfl fo_119_1) ?_
            refine wl (ro_loadB rfl sc_117 (by assumption) rfl) ?_
            refine wl (ro_conv rfl sc_117 in_3 (Go.IntWalk.i64_in _ (by have := h6 (by omega); omega))) ?_
            refine wl_call rfl en_30 (BuiltinName30 (s := v.N)) ?_
            rintro _ u0 ⟨rfl, hw0⟩
            rw [hw0]
            clear hw0 u0
            refine wl (ro_assign rfl) ?_
            refine wl_nil (x_then (hK16 _ _ ?_))
            clear hK16 K16
            refine forget [(5, _)] ⟨rfl, trivial⟩ (fun e => ?_)
            refine c_seq (fun K17 hK17 => ?_)
            refine c_reg ?_ -- region 14 vmm.go:254
            refine wl (ro_move rfl) ?_
            refine wl (ro_catS (l := [98, 117, 105, 108, 116, 105, 110, 58]) rfl rfl (by simp; omega)) ?_
            refine wl (ro_assign rfl) ?_
            refine wl_nil (x_then (hK17 _ _ ?_))
            clear hK17 K17
            refine c_ret (x_blkR (x_thenR ?_))
            refine bp_ret Tryz.results119 rfl ?_
            exact ⟨by unfold txV; rw [if_neg (by omega), if_neg (by omega), if_neg (by omega), if_neg (by omega), if_pos (by omega)], hF⟩
          · try simp only [decide_eq_true_eq, decide_eq_false_iff_not, Bool.not_eq_true', Bool.not_eq_false', Bool.not_eq_eq_eq_not, Bool.not_true, Bool.not_false, beq_iff_eq, bne_iff_ne, ne_eq, beq_eq_false_iff_ne, bne_eq_false_iff_eq, gt_iff_lt, ge_iff_le, Int.not_lt, Int.not_le] at hc27
            refine c_skip (x_blk (x_then (hK2 _ _ ?_)))
            clear hK2 K2
            refine forget [(3, _)] ⟨rfl, trivial⟩ (fun e => ?_)
            refine c_seq (fun K18 hK18 => ?_)
            refine c_reg ?_ -- region 15 vmm.go:256
            refine wl (ro_loadAggB rfl ag_119 (by assumption) rfl rfl) ?_
            refine wl_call rfl en_120 (TypeName120 (v := v)) ?_
            rintro _ w3 ⟨rfl, F3⟩
            replace hF := hF.thenDrew.thenN F3
            replace h3 := F3.blkN h3
            refine wl (ro_assign rfl) ?_
            refine wl_nil (x_then (hK18 _ _ ?_))
            clear hK18 K18
            refine forget [(3, _), (6, _)] ⟨rfl, rfl, trivial⟩ (fun e => ?_)
            refine c_seq (fun K19 hK19 => ?_)
            refine c_reg ?_ -- region 16 vmm.go:257
            refine wl (ro_fieldAddr (k := 1) rfl fo_119_1) ?_
            refine wl (ro_loadB rfl sc_117 (by assumption) rfl) ?_
            refine wl_call rfl en_93 (Utoa93 hN) ?_
            rintro _ w4 ⟨rfl, F4⟩
            replace hF := hF.thenDrew.thenN F4
            replace h3 := F4.blkN h3
            refine wl (ro_assign rfl) ?_
            refine wl_nil (x_then (hK19 _ _ ?_))
            clear hK19 K19
            refine forget [(6, _), (7, _)] ⟨rfl, rfl, trivial⟩ (fun e => ?_)
            refine c_seq (fun K20 hK20 => ?_)
            refine c_reg ?_ -- region 17 vmm.go:258
            refine wl (ro_move rfl) ?_
            refine wl (ro_catS (m := [58]) rfl rfl (by simp; omega)) ?_
            refine wl (ro_move rfl) ?_
            refine wl (ro_catS rfl rfl (by simp; omega)) ?_
            refine wl (ro_assign rfl) ?_
            refine wl_nil (x_then (hK20 _ _ ?_))
            clear hK20 K20
            refine c_ret ?_
            refine bp_ret Tryz.results119 rfl ?_
            exact ⟨by unfold txV; rw [if_neg (by omega), if_neg (by omega), if_neg (by omega), if_neg (by omega), if_neg (by omega)]; simp, hF⟩

/-- Compare's answer. -/
def cmpR (r : Option Bool) : Value := match r with
  | some b => .tuple #[.bool b, .bool true]
  | none => .tuple #[.bool false, .bool false]
theorem eqV_dec {a b : PV} : eqV a b = @decide (a = b) (PV.dec a b) := by
  rcases Classical.em (a = b) with h | h
  · rw [eqV_iff.2 h, @decide_eq_true _ (PV.dec a b) h]
  · rw [Bool.eq_false_iff.2 (fun q => h (eqV_iff.1 q)), @decide_eq_false _ (PV.dec a b) h]
set_option maxHeartbeats 4000000 in
theorem Compare123 {w : World} {p : Value} {op : Nat} {a b : PV} (ha : W64 a.N) (hb : W64 b.N) (h1 : 1 ≤ op) (h6 : op ≤ 6) : Ret Tryz.prog 123 [p, i64c op, pv a, pv b] w (fun r w' => r = cmpR (cmpV op a b) ∧ Fram none' w w') := by
  have hF : Fram none' w w := Fram.refl _ _
  refine ret_of Tryz.func123 rfl Tryz.ntmps123 rfl ?_
  refine c_seq (fun K1 hK1 => ?_)
  refine c_reg ?_ -- region 0 vmm.go:608
  refine wl_box (cs := (pvc a)) rfl rfl (fun b6 w1 hbb6 h6 F1 => ?_)
  have hbsb6 := Nat.le_trans hF.size hbb6
  replace hF := hF.thenDrew.thenN F1
  refine wl_box (cs := (pvc b)) rfl rfl (fun b7 w2 hbb7 h7 F2 => ?_)
  have hbsb7 := Nat.le_trans hF.size hbb7
  have hneb6b7 : b6 < b7 := Nat.lt_of_lt_of_le h6.lt hbb7
  replace hF := hF.thenDrew.thenN F2
  replace h6 := F2.blkN h6
  refine wl (ro_assign rfl) ?_
  refine wl (ro_assign rfl) ?_
  refine wl_nil (x_then (hK1 _ _ ?_))
  clear hK1 K1
  refine c_seq (fun K2 hK2 => ?_)
  refine c_seq (fun K3 hK3 => ?_)
  refine c_reg ?_ -- region 1 vmm.go:609
  refine wl (ro_fieldAddr (k := 0) rfl fo_119_0) ?_
  refine wl (ro_loadB rfl sc_3 (by assumption) rfl) ?_
  refine wl (ro_cmp rfl rfl rfl) ?_
  refine wl_fork rfl (fun hg14 => ?_) (fun hg14 => ?_)
  · try simp only [decide_eq_true_eq, decide_eq_false_iff_not, Bool.not_eq_true', Bool.not_eq_false', Bool.not_eq_eq_eq_not, Bool.not_true, Bool.not_false, beq_iff_eq, bne_iff_ne, ne_eq, beq_eq_false_iff_ne, bne_eq_false_iff_eq, gt_iff_lt, ge_iff_le, Int.not_lt, Int.not_le] at hg14
    refine wlg_yes rfl (ro_fieldAddr (k := 0) rfl fo_119_0) ?_
    refine wlg_yes rfl (ro_loadB rfl sc_3 (by assumption) rfl) ?_
    refine wlg_yes rfl (ro_cmp rfl rfl rfl) ?_
    refine wl (ro_pick rfl rfl rfl) ?_
    refine wl_nil (x_then (hK3 _ _ ?_))
    clear hK3 K3
    refine wc_cond rfl (fun hc18 => ?_) (fun hc18 => ?_)
    · try simp only [decide_eq_true_eq, decide_eq_false_iff_not, Bool.not_eq_true', Bool.not_eq_false', Bool.not_eq_eq_eq_not, Bool.not_true, Bool.not_false, beq_iff_eq, bne_iff_ne, ne_eq, beq_eq_false_iff_ne, bne_eq_false_iff_eq, gt_iff_lt, ge_iff_le, Int.not_lt, Int.not_le] at hc18
      refine c_seq (fun K4 hK4 => ?_)
      refine c_reg ?_ -- region 2 vmm.go:610
      refine wl (ro_move rfl) ?_
      refine wl (ro_move rfl) ?_
      refine wl (ro_fieldAddr (k := 1) rfl fo_119_1) ?_
      refine wl (ro_loadB rfl sc_117 (by assumption) rfl) ?_
      refine wl (ro_fieldAddr (k := 1) rfl fo_119_1) ?_
      refine wl (ro_loadB rfl sc_117 (by assumption) rfl) ?_
      refine wl_call rfl en_65 (Cmp65 (op := (op : Int)) ha hb) ?_
      rintro _ u0 ⟨rfl, hw0⟩
      rw [hw0]
      clear hw0 u0
      refine wl (ro_assign rfl) ?_
      refine wl_nil (x_then (hK4 _ _ ?_))
      clear hK4 K4
      refine forget [(10, _)] ⟨rfl, trivial⟩ (fun e => ?_)
      refine c_seq (fun K5 hK5 => ?_)
      refine c_reg ?_ -- region 3 vmm.go:611
      refine wl (ro_move rfl) ?_
      refine wl (ro_assign rfl) ?_
      refine wl (ro_assign rfl) ?_
      refine wl_nil (x_then (hK5 _ _ ?_))
      clear hK5 K5
      refine c_ret (x_thenR ?_)
      refine bp_ret Tryz.results123 rfl ?_
      refine ⟨?_, hF⟩
      unfold cmpV
      first
      | (exfalso; omega)
      | (repeat (first | rw [if_pos (by omega)] | rw [if_neg (by omega)])
         first
         | rfl
         | (rw [eqV_dec]; rfl))
    · try simp only [decide_eq_true_eq, decide_eq_false_iff_not, Bool.not_eq_true', Bool.not_eq_false', Bool.not_eq_eq_eq_not, Bool.not_true, Bool.not_false, beq_iff_eq, bne_iff_ne, ne_eq, beq_eq_false_iff_ne, bne_eq_false_iff_eq, gt_iff_lt, ge_iff_le, Int.not_lt, Int.not_le] at hc18
      refine c_skip (x_then (hK2 _ _ ?_))
      clear hK2 K2
      refine c_seq (fun K6 hK6 => ?_)
      refine c_seq (fun K7 hK7 => ?_)
      refine c_reg ?_ -- region 4 vmm.go:613
      refine wl (ro_move rfl) ?_
      refine wl_nil (x_then (hK7 _ _ ?_))
      clear hK7 K7
      refine c_block ?_
      refine forget [(1, _), (6, _), (7, _), (27, _)] ⟨rfl, rfl, rfl, rfl, trivial⟩ (fun e => ?_)
      refine c_seq (fun K8 hK8 => ?_)
      refine c_reg ?_ -- region 5 vmm.go:614
      refine wl (ro_cmp rfl rfl rfl) ?_
      refine wl (ro_assign rfl) ?_
      refine wl_nil (x_then (hK8 _ _ ?_))
      clear hK8 K8
      refine wc_cond rfl (fun hc28 => ?_) (fun hc28 => ?_)
      · try simp only [decide_eq_true_eq, decide_eq_false_iff_not, Bool.not_eq_true', Bool.not_eq_false', Bool.not_eq_eq_eq_not, Bool.not_true, Bool.not_false, beq_iff_eq, bne_iff_ne, ne_eq, beq_eq_false_iff_ne, bne_eq_false_iff_eq, gt_iff_lt, ge_iff_le, Int.not_lt, Int.not_le] at hc28
        refine c_seq (fun K9 hK9 => ?_)
        refine c_reg ?_ -- region 6 vmm.go:615
        refine wl (ro_loadAggB rfl ag_119 (by assumption) rfl rfl) ?_
        refine wl (ro_loadAggB rfl ag_119 (by assumption) rfl rfl) ?_
        refine wl (ro_eqPV (a := a) (b := b) rfl rfl rfl) ?_
        refine wl (ro_assign rfl) ?_
        refine wl (ro_assign rfl) ?_
        refine wl_nil (x_then (hK9 _ _ ?_))
        clear hK9 K9
        refine c_ret (x_blkR (x_thenR ?_))
        refine bp_ret Tryz.results123 rfl ?_
        refine ⟨?_, hF⟩
        unfold cmpV
        first
        | (exfalso; omega)
        | (repeat (first | rw [if_pos (by omega)] | rw [if_neg (by omega)])
           first
           | rfl
           | (rw [eqV_dec]; rfl))
      · try simp only [decide_eq_true_eq, decide_eq_false_iff_not, Bool.not_eq_true', Bool.not_eq_false', Bool.not_eq_eq_eq_not, Bool.not_true, Bool.not_false, beq_iff_eq, bne_iff_ne, ne_eq, beq_eq_false_iff_ne, bne_eq_false_iff_eq, gt_iff_lt, ge_iff_le, Int.not_lt, Int.not_le] at hc28
        refine c_seq (fun K10 hK10 => ?_)
        refine c_reg ?_ -- region 7 vmm.go:616
        refine wl (ro_cmp rfl rfl rfl) ?_
        refine wl (ro_assign rfl) ?_
        refine wl_nil (x_then (hK10 _ _ ?_))
        clear hK10 K10
        refine wc_cond rfl (fun hc33 => ?_) (fun hc33 => ?_)
        · try simp only [decide_eq_true_eq, decide_eq_false_iff_not, Bool.not_eq_true', Bool.not_eq_false', Bool.not_eq_eq_eq_not, Bool.not_true, Bool.not_false, beq_iff_eq, bne_iff_ne, ne_eq, beq_eq_false_iff_ne, bne_eq_false_iff_eq, gt_iff_lt, ge_iff_le, Int.not_lt, Int.not_le] at hc33
          refine c_seq (fun K11 hK11 => ?_)
          refine c_reg ?_ -- region 8 vmm.go:617
          refine wl (ro_loadAggB rfl ag_119 (by assumption) rfl rfl) ?_
          refine wl (ro_loadAggB rfl ag_119 (by assumption) rfl rfl) ?_
          refine wl (ro_eqPV (a := a) (b := b) rfl rfl rfl) ?_
          refine wl (ro_assign rfl) ?_
          refine wl (ro_assign rfl) ?_
          refine wl_nil (x_then (hK11 _ _ ?_))
          clear hK11 K11
          refine c_ret (x_blkR (x_thenR ?_))
          refine bp_ret Tryz.results123 rfl ?_
          refine ⟨?_, hF⟩
          unfold cmpV
          first
          | (exfalso; omega)
          | (repeat (first | rw [if_pos (by omega)] | rw [if_neg (by omega)])
             first
             | rfl
             | (rw [eqV_dec]; rfl))
        · try simp only [decide_eq_true_eq, decide_eq_false_iff_not, Bool.not_eq_true', Bool.not_eq_false', Bool.not_eq_eq_eq_not, Bool.not_true, Bool.not_false, beq_iff_eq, bne_iff_ne, ne_eq, beq_eq_false_iff_ne, bne_eq_false_iff_eq, gt_iff_lt, ge_iff_le, Int.not_lt, Int.not_le] at hc33
          refine c_skip (x_blk (x_then (hK6 _ _ ?_)))
          clear hK6 K6
          refine c_seq (fun K12 hK12 => ?_)
          refine c_seq (fun K13 hK13 => ?_)
          refine c_reg ?_ -- region 9 vmm.go:619
          refine wl (ro_fieldAddr (k := 0) rfl fo_119_0) ?_
          refine wl (ro_loadB rfl sc_3 (by assumption) rfl) ?_
          refine wl (ro_cmp rfl rfl rfl) ?_
          refine wl_fork rfl (fun hg41 => ?_) (fun hg41 => ?_)
          · try simp only [decide_eq_true_eq, decide_eq_false_iff_not, Bool.not_eq_true', Bool.not_eq_false', Bool.not_eq_eq_eq_not, Bool.not_true, Bool.not_false, beq_iff_eq, bne_iff_ne, ne_eq, beq_eq_false_iff_ne, bne_eq_false_iff_eq, gt_iff_lt, ge_iff_le, Int.not_lt, Int.not_le] at hg41
            refine wlg_no rfl ?_
            refine wlg_no rfl ?_
            refine wlg_no rfl ?_
            refine wl (ro_pick rfl rfl rfl) ?_
            refine wl_nil (x_then (hK13 _ _ ?_))
            clear hK13 K13
            refine wc_condT rfl ?_
            refine c_seq (fun K14 hK14 => ?_)
            refine c_reg ?_ -- region 10 vmm.go:620
            refine wl (ro_assign rfl) ?_
            refine wl (ro_assign rfl) ?_
            refine wl_nil (x_then (hK14 _ _ ?_))
            clear hK14 K14
            refine c_ret (x_thenR ?_)
            refine bp_ret Tryz.results123 rfl ?_
            refine ⟨?_, hF⟩
            unfold cmpV
            first
            | (exfalso; omega)
            | (repeat (first | rw [if_pos (by omega)] | rw [if_neg (by omega)])
               first
               | rfl
               | (rw [eqV_dec]; rfl))
          · try simp only [decide_eq_true_eq, decide_eq_false_iff_not, Bool.not_eq_true', Bool.not_eq_false', Bool.not_eq_eq_eq_not, Bool.not_true, Bool.not_false, beq_iff_eq, bne_iff_ne, ne_eq, beq_eq_false_iff_ne, bne_eq_false_iff_eq, gt_iff_lt, ge_iff_le, Int.not_lt, Int.not_le] at hg41
            refine wlg_yes rfl (ro_fieldAddr (k := 0) rfl fo_119_0) ?_
            refine wlg_yes rfl (ro_loadB rfl sc_3 (by assumption) rfl) ?_
            refine wlg_yes rfl (ro_cmp rfl rfl rfl) ?_
            refine wl (ro_pick rfl rfl rfl) ?_
            refine wl_nil (x_then (hK13 _ _ ?_))
            clear hK13 K13
            refine wc_cond rfl (fun hc45 => ?_) (fun hc45 => ?_)
            · try simp only [decide_eq_true_eq, decide_eq_false_iff_not, Bool.not_eq_true', Bool.not_eq_false', Bool.not_eq_eq_eq_not, Bool.not_true, Bool.not_false, beq_iff_eq, bne_iff_ne, ne_eq, beq_eq_false_iff_ne, bne_eq_false_iff_eq, gt_iff_lt, ge_iff_le, Int.not_lt, Int.not_le] at hc45
              refine c_seq (fun K15 hK15 => ?_)
              refine c_reg ?_ -- region 10 vmm.go:620
              refine wl (ro_assign rfl) ?_
              refine wl (ro_assign rfl) ?_
              refine wl_nil (x_then (hK15 _ _ ?_))
              clear hK15 K15
              refine c_ret (x_thenR ?_)
              refine bp_ret Tryz.results123 rfl ?_
              refine ⟨?_, hF⟩
              unfold cmpV
              first
              | (exfalso; omega)
              | (repeat (first | rw [if_pos (by omega)] | rw [if_neg (by omega)])
                 first
                 | rfl
                 | (rw [eqV_dec]; rfl))
            · try simp only [decide_eq_true_eq, decide_eq_false_iff_not, Bool.not_eq_true', Bool.not_eq_false', Bool.not_eq_eq_eq_not, Bool.not_true, Bool.not_false, beq_iff_eq, bne_iff_ne, ne_eq, beq_eq_false_iff_ne, bne_eq_false_iff_eq, gt_iff_lt, ge_iff_le, Int.not_lt, Int.not_le] at hc45
              refine c_skip (x_then (hK12 _ _ ?_))
              clear hK12 K12
              refine c_seq (fun K16 hK16 => ?_)
              refine c_seq (fun K17 hK17 => ?_)
              refine c_reg ?_ -- region 11 vmm.go:622
              refine wl (ro_move rfl) ?_
              refine wl_nil (x_then (hK17 _ _ ?_))
              clear hK17 K17
              refine c_block ?_
              refine forget [(6, _), (7, _), (46, _)] ⟨rfl, rfl, rfl, trivial⟩ (fun e => ?_)
              refine c_seq (fun K18 hK18 => ?_)
              refine c_reg ?_ -- region 12 vmm.go:623
              refine wl (ro_cmp rfl rfl rfl) ?_
              refine wl (ro_assign rfl) ?_
              refine wl_nil (x_then (hK18 _ _ ?_))
              clear hK18 K18
              refine wc_cond rfl (fun hc47 => ?_) (fun hc47 => ?_)
              · try simp only [decide_eq_true_eq, decide_eq_false_iff_not, Bool.not_eq_true', Bool.not_eq_false', Bool.not_eq_eq_eq_not, Bool.not_true, Bool.not_false, beq_iff_eq, bne_iff_ne, ne_eq, beq_eq_false_iff_ne, bne_eq_false_iff_eq, gt_iff_lt, ge_iff_le, Int.not_lt, Int.not_le] at hc47
                refine c_seq (fun K19 hK19 => ?_)
                refine c_reg ?_ -- region 13 vmm.go:624
                refine wl (ro_fieldAddr (k := 2) rfl fo_119_2) ?_
                refine wl (ro_loadB rfl sc_9 (by assumption) rfl) ?_
                refine wl (ro_fieldAddr (k := 2) rfl fo_119_2) ?_
                refine wl (ro_loadB rfl sc_9 (by assumption) rfl) ?_
                refine wl (ro_leS rfl rfl rfl) ?_
                refine wl (ro_assign rfl) ?_
                refine wl (ro_assign rfl) ?_
                refine wl_nil (x_then (hK19 _ _ ?_))
                clear hK19 K19
                refine c_ret (x_blkR (x_thenR ?_))
                refine bp_ret Tryz.results123 rfl ?_
                refine ⟨?_, hF⟩
                unfold cmpV
                first
                | (exfalso; omega)
                | (repeat (first | rw [if_pos (by omega)] | rw [if_neg (by omega)])
                   first
                   | rfl
                   | (rw [eqV_dec]; rfl))
              · try simp only [decide_eq_true_eq, decide_eq_false_iff_not, Bool.not_eq_true', Bool.not_eq_false', Bool.not_eq_eq_eq_not, Bool.not_true, Bool.not_false, beq_iff_eq, bne_iff_ne, ne_eq, beq_eq_false_iff_ne, bne_eq_false_iff_eq, gt_iff_lt, ge_iff_le, Int.not_lt, Int.not_le] at hc47
                refine c_seq (fun K20 hK20 => ?_)
                refine c_reg ?_ -- region 14 vmm.go:625
                refine wl (ro_cmp rfl rfl rfl) ?_
                refine wl (ro_assign rfl) ?_
                refine wl_nil (x_then (hK20 _ _ ?_))
                clear hK20 K20
                refine wc_cond rfl (fun hc54 => ?_) (fun hc54 => ?_)
                · try simp only [decide_eq_true_eq, decide_eq_false_iff_not, Bool.not_eq_true', Bool.not_eq_false', Bool.not_eq_eq_eq_not, Bool.not_true, Bool.not_false, beq_iff_eq, bne_iff_ne, ne_eq, beq_eq_false_iff_ne, bne_eq_false_iff_eq, gt_iff_lt, ge_iff_le, Int.not_lt, Int.not_le] at hc54
                  refine c_seq (fun K21 hK21 => ?_)
                  refine c_reg ?_ -- region 15 vmm.go:626
                  refine wl (ro_fieldAddr (k := 2) rfl fo_119_2) ?_
                  refine wl (ro_loadB rfl sc_9 (by assumption) rfl) ?_
                  refine wl (ro_fieldAddr (k := 2) rfl fo_119_2) ?_
                  refine wl (ro_loadB rfl sc_9 (by assumption) rfl) ?_
                  refine wl (ro_leS rfl rfl rfl) ?_
                  refine wl (ro_assign rfl) ?_
                  refine wl (ro_assign rfl) ?_
                  refine wl_nil (x_then (hK21 _ _ ?_))
                  clear hK21 K21
                  refine c_ret (x_blkR (x_thenR ?_))
                  refine bp_ret Tryz.results123 rfl ?_
                  refine ⟨?_, hF⟩
                  unfold cmpV
                  first
                  | (exfalso; omega)
                  | (repeat (first | rw [if_pos (by omega)] | rw [if_neg (by omega)])
                     first
                     | rfl
                     | (rw [eqV_dec]; rfl))
                · try simp only [decide_eq_true_eq, decide_eq_false_iff_not, Bool.not_eq_true', Bool.not_eq_false', Bool.not_eq_eq_eq_not, Bool.not_true, Bool.not_false, beq_iff_eq, bne_iff_ne, ne_eq, beq_eq_false_iff_ne, bne_eq_false_iff_eq, gt_iff_lt, ge_iff_le, Int.not_lt, Int.not_le] at hc54
                  refine c_seq (fun K22 hK22 => ?_)
                  refine c_reg ?_ -- region 16 vmm.go:627
                  refine wl (ro_cmp rfl rfl rfl) ?_
                  refine wl (ro_assign rfl) ?_
                  refine wl_nil (x_then (hK22 _ _ ?_))
                  clear hK22 K22
                  refine wc_cond rfl (fun hc61 => ?_) (fun hc61 => ?_)
                  · try simp only [decide_eq_true_eq, decide_eq_false_iff_not, Bool.not_eq_true', Bool.not_eq_false', Bool.not_eq_eq_eq_not, Bool.not_true, Bool.not_false, beq_iff_eq, bne_iff_ne, ne_eq, beq_eq_false_iff_ne, bne_eq_false_iff_eq, gt_iff_lt, ge_iff_le, Int.not_lt, Int.not_le] at hc61
                    refine c_seq (fun K23 hK23 => ?_)
                    refine c_reg ?_ -- region 17 vmm.go:628
                    refine wl (ro_fieldAddr (k := 2) rfl fo_119_2) ?_
                    refine wl (ro_loadB rfl sc_9 (by assumption) rfl) ?_
                    refine wl (ro_fieldAddr (k := 2) rfl fo_119_2) ?_
                    refine wl (ro_loadB rfl sc_9 (by assumption) rfl) ?_
                    refine wl (ro_leS rfl rfl rfl) ?_
                    refine wl (ro_assign rfl) ?_
                    refine wl (ro_assign rfl) ?_
                    refine wl_nil (x_then (hK23 _ _ ?_))
                    clear hK23 K23
                    refine c_ret (x_blkR (x_thenR ?_))
                    refine bp_ret Tryz.results123 rfl ?_
                    refine ⟨?_, hF⟩
                    unfold cmpV
                    first
                    | (exfalso; omega)
                    | (repeat (first | rw [if_pos (by omega)] | rw [if_neg (by omega)])
                       first
                       | rfl
                       | (rw [eqV_dec]; rfl))
                  · try simp only [decide_eq_true_eq, decide_eq_false_iff_not, Bool.not_eq_true', Bool.not_eq_false', Bool.not_eq_eq_eq_not, Bool.not_true, Bool.not_false, beq_iff_eq, bne_iff_ne, ne_eq, beq_eq_false_iff_ne, bne_eq_false_iff_eq, gt_iff_lt, ge_iff_le, Int.not_lt, Int.not_le] at hc61
                    refine c_skip (x_blk (x_then (hK16 _ _ ?_)))
                    clear hK16 K16
                    refine forget [(6, _), (7, _)] ⟨rfl, rfl, trivial⟩ (fun e => ?_)
                    refine c_seq (fun K24 hK24 => ?_)
                    refine c_reg ?_ -- region 18 vmm.go:630
                    refine wl (ro_fieldAddr (k := 2) rfl fo_119_2) ?_
                    refine wl (ro_loadB rfl sc_9 (by assumption) rfl) ?_
                    refine wl (ro_fieldAddr (k := 2) rfl fo_119_2) ?_
                    refine wl (ro_loadB rfl sc_9 (by assumption) rfl) ?_
                    refine wl (ro_leS rfl rfl rfl) ?_
                    refine wl (ro_assign rfl) ?_
                    refine wl (ro_assign rfl) ?_
                    refine wl_nil (x_then (hK24 _ _ ?_))
                    clear hK24 K24
                    refine c_ret ?_
                    refine bp_ret Tryz.results123 rfl ?_
                    refine ⟨?_, hF⟩
                    unfold cmpV
                    first
                    | (exfalso; omega)
                    | (repeat (first | rw [if_pos (by omega)] | rw [if_neg (by omega)])
                       first
                       | rfl
                       | (rw [eqV_dec]; rfl))
  · try simp only [decide_eq_true_eq, decide_eq_false_iff_not, Bool.not_eq_true', Bool.not_eq_false', Bool.not_eq_eq_eq_not, Bool.not_true, Bool.not_false, beq_iff_eq, bne_iff_ne, ne_eq, beq_eq_false_iff_ne, bne_eq_false_iff_eq, gt_iff_lt, ge_iff_le, Int.not_lt, Int.not_le] at hg14
    refine wlg_no rfl ?_
    refine wlg_no rfl ?_
    refine wlg_no rfl ?_
    refine wl (ro_pick rfl rfl rfl) ?_
    refine wl_nil (x_then (hK3 _ _ ?_))
    clear hK3 K3
    refine wc_condF rfl ?_
    refine c_skip (x_then (hK2 _ _ ?_))
    clear hK2 K2
    refine c_seq (fun K25 hK25 => ?_)
    refine c_seq (fun K26 hK26 => ?_)
    refine c_reg ?_ -- region 4 vmm.go:613
    refine wl (ro_move rfl) ?_
    refine wl_nil (x_then (hK26 _ _ ?_))
    clear hK26 K26
    refine c_block ?_
    refine forget [(1, _), (6, _), (7, _), (27, _)] ⟨rfl, rfl, rfl, rfl, trivial⟩ (fun e => ?_)
    refine c_seq (fun K27 hK27 => ?_)
    refine c_reg ?_ -- region 5 vmm.go:614
    refine wl (ro_cmp rfl rfl rfl) ?_
    refine wl (ro_assign rfl) ?_
    refine wl_nil (x_then (hK27 _ _ ?_))
    clear hK27 K27
    refine wc_cond rfl (fun hc28 => ?_) (fun hc28 => ?_)
    · try simp only [decide_eq_true_eq, decide_eq_false_iff_not, Bool.not_eq_true', Bool.not_eq_false', Bool.not_eq_eq_eq_not, Bool.not_true, Bool.not_false, beq_iff_eq, bne_iff_ne, ne_eq, beq_eq_false_iff_ne, bne_eq_false_iff_eq, gt_iff_lt, ge_iff_le, Int.not_lt, Int.not_le] at hc28
      refine c_seq (fun K28 hK28 => ?_)
      refine c_reg ?_ -- region 6 vmm.go:615
      refine wl (ro_loadAggB rfl ag_119 (by assumption) rfl rfl) ?_
      refine wl (ro_loadAggB rfl ag_119 (by assumption) rfl rfl) ?_
      refine wl (ro_eqPV (a := a) (b := b) rfl rfl rfl) ?_
      refine wl (ro_assign rfl) ?_
      refine wl (ro_assign rfl) ?_
      refine wl_nil (x_then (hK28 _ _ ?_))
      clear hK28 K28
      refine c_ret (x_blkR (x_thenR ?_))
      refine bp_ret Tryz.results123 rfl ?_
      refine ⟨?_, hF⟩
      unfold cmpV
      first
      | (exfalso; omega)
      | (repeat (first | rw [if_pos (by omega)] | rw [if_neg (by omega)])
         first
         | rfl
         | (rw [eqV_dec]; rfl))
    · try simp only [decide_eq_true_eq, decide_eq_false_iff_not, Bool.not_eq_true', Bool.not_eq_false', Bool.not_eq_eq_eq_not, Bool.not_true, Bool.not_false, beq_iff_eq, bne_iff_ne, ne_eq, beq_eq_false_iff_ne, bne_eq_false_iff_eq, gt_iff_lt, ge_iff_le, Int.not_lt, Int.not_le] at hc28
      refine c_seq (fun K29 hK29 => ?_)
      refine c_reg ?_ -- region 7 vmm.go:616
      refine wl (ro_cmp rfl rfl rfl) ?_
      refine wl (ro_assign rfl) ?_
      refine wl_nil (x_then (hK29 _ _ ?_))
      clear hK29 K29
      refine wc_cond rfl (fun hc33 => ?_) (fun hc33 => ?_)
      · try simp only [decide_eq_true_eq, decide_eq_false_iff_not, Bool.not_eq_true', Bool.not_eq_false', Bool.not_eq_eq_eq_not, Bool.not_true, Bool.not_false, beq_iff_eq, bne_iff_ne, ne_eq, beq_eq_false_iff_ne, bne_eq_false_iff_eq, gt_iff_lt, ge_iff_le, Int.not_lt, Int.not_le] at hc33
        refine c_seq (fun K30 hK30 => ?_)
        refine c_reg ?_ -- region 8 vmm.go:617
        refine wl (ro_loadAggB rfl ag_119 (by assumption) rfl rfl) ?_
        refine wl (ro_loadAggB rfl ag_119 (by assumption) rfl rfl) ?_
        refine wl (ro_eqPV (a := a) (b := b) rfl rfl rfl) ?_
        refine wl (ro_assign rfl) ?_
        refine wl (ro_assign rfl) ?_
        refine wl_nil (x_then (hK30 _ _ ?_))
        clear hK30 K30
        refine c_ret (x_blkR (x_thenR ?_))
        refine bp_ret Tryz.results123 rfl ?_
        refine ⟨?_, hF⟩
        unfold cmpV
        first
        | (exfalso; omega)
        | (repeat (first | rw [if_pos (by omega)] | rw [if_neg (by omega)])
           first
           | rfl
           | (rw [eqV_dec]; rfl))
      · try simp only [decide_eq_true_eq, decide_eq_false_iff_not, Bool.not_eq_true', Bool.not_eq_false', Bool.not_eq_eq_eq_not, Bool.not_true, Bool.not_false, beq_iff_eq, bne_iff_ne, ne_eq, beq_eq_false_iff_ne, bne_eq_false_iff_eq, gt_iff_lt, ge_iff_le, Int.not_lt, Int.not_le] at hc33
        refine c_skip (x_blk (x_then (hK25 _ _ ?_)))
        clear hK25 K25
        refine c_seq (fun K31 hK31 => ?_)
        refine c_seq (fun K32 hK32 => ?_)
        refine c_reg ?_ -- region 9 vmm.go:619
        refine wl (ro_fieldAddr (k := 0) rfl fo_119_0) ?_
        refine wl (ro_loadB rfl sc_3 (by assumption) rfl) ?_
        refine wl (ro_cmp rfl rfl rfl) ?_
        refine wl_fork rfl (fun hg41 => ?_) (fun hg41 => ?_)
        · try simp only [decide_eq_true_eq, decide_eq_false_iff_not, Bool.not_eq_true', Bool.not_eq_false', Bool.not_eq_eq_eq_not, Bool.not_true, Bool.not_false, beq_iff_eq, bne_iff_ne, ne_eq, beq_eq_false_iff_ne, bne_eq_false_iff_eq, gt_iff_lt, ge_iff_le, Int.not_lt, Int.not_le] at hg41
          refine wlg_no rfl ?_
          refine wlg_no rfl ?_
          refine wlg_no rfl ?_
          refine wl (ro_pick rfl rfl rfl) ?_
          refine wl_nil (x_then (hK32 _ _ ?_))
          clear hK32 K32
          refine wc_condT rfl ?_
          refine c_seq (fun K33 hK33 => ?_)
          refine c_reg ?_ -- region 10 vmm.go:620
          refine wl (ro_assign rfl) ?_
          refine wl (ro_assign rfl) ?_
          refine wl_nil (x_then (hK33 _ _ ?_))
          clear hK33 K33
          refine c_ret (x_thenR ?_)
          refine bp_ret Tryz.results123 rfl ?_
          refine ⟨?_, hF⟩
          unfold cmpV
          first
          | (exfalso; omega)
          | (repeat (first | rw [if_pos (by omega)] | rw [if_neg (by omega)])
             first
             | rfl
             | (rw [eqV_dec]; rfl))
        · try simp only [decide_eq_true_eq, decide_eq_false_iff_not, Bool.not_eq_true', Bool.not_eq_false', Bool.not_eq_eq_eq_not, Bool.not_true, Bool.not_false, beq_iff_eq, bne_iff_ne, ne_eq, beq_eq_false_iff_ne, bne_eq_false_iff_eq, gt_iff_lt, ge_iff_le, Int.not_lt, Int.not_le] at hg41
          refine wlg_yes rfl (ro_fieldAddr (k := 0) rfl fo_119_0) ?_
          refine wlg_yes rfl (ro_loadB rfl sc_3 (by assumption) rfl) ?_
          refine wlg_yes rfl (ro_cmp rfl rfl rfl) ?_
          refine wl (ro_pick rfl rfl rfl) ?_
          refine wl_nil (x_then (hK32 _ _ ?_))
          clear hK32 K32
          refine wc_cond rfl (fun hc45 => ?_) (fun hc45 => ?_)
          · try simp only [decide_eq_true_eq, decide_eq_false_iff_not, Bool.not_eq_true', Bool.not_eq_false', Bool.not_eq_eq_eq_not, Bool.not_true, Bool.not_false, beq_iff_eq, bne_iff_ne, ne_eq, beq_eq_false_iff_ne, bne_eq_false_iff_eq, gt_iff_lt, ge_iff_le, Int.not_lt, Int.not_le] at hc45
            refine c_seq (fun K34 hK34 => ?_)
            refine c_reg ?_ -- region 10 vmm.go:620
            refine wl (ro_assign rfl) ?_
            refine wl (ro_assign rfl) ?_
            refine wl_nil (x_then (hK34 _ _ ?_))
            clear hK34 K34
            refine c_ret (x_thenR ?_)
            refine bp_ret Tryz.results123 rfl ?_
            refine ⟨?_, hF⟩
            unfold cmpV
            first
            | (exfalso; omega)
            | (repeat (first | rw [if_pos (by omega)] | rw [if_neg (by omega)])
               first
               | rfl
               | (rw [eqV_dec]; rfl))
          · try simp only [decide_eq_true_eq, decide_eq_false_iff_not, Bool.not_eq_true', Bool.not_eq_false', Bool.not_eq_eq_eq_not, Bool.not_true, Bool.not_false, beq_iff_eq, bne_iff_ne, ne_eq, beq_eq_false_iff_ne, bne_eq_false_iff_eq, gt_iff_lt, ge_iff_le, Int.not_lt, Int.not_le] at hc45
            refine c_skip (x_then (hK31 _ _ ?_))
            clear hK31 K31
            refine c_seq (fun K35 hK35 => ?_)
            refine c_seq (fun K36 hK36 => ?_)
            refine c_reg ?_ -- region 11 vmm.go:622
            refine wl (ro_move rfl) ?_
            refine wl_nil (x_then (hK36 _ _ ?_))
            clear hK36 K36
            refine c_block ?_
            refine forget [(6, _), (7, _), (46, _)] ⟨rfl, rfl, rfl, trivial⟩ (fun e => ?_)
            refine c_seq (fun K37 hK37 => ?_)
            refine c_reg ?_ -- region 12 vmm.go:623
            refine wl (ro_cmp rfl rfl rfl) ?_
            refine wl (ro_assign rfl) ?_
            refine wl_nil (x_then (hK37 _ _ ?_))
            clear hK37 K37
            refine wc_cond rfl (fun hc47 => ?_) (fun hc47 => ?_)
            · try simp only [decide_eq_true_eq, decide_eq_false_iff_not, Bool.not_eq_true', Bool.not_eq_false', Bool.not_eq_eq_eq_not, Bool.not_true, Bool.not_false, beq_iff_eq, bne_iff_ne, ne_eq, beq_eq_false_iff_ne, bne_eq_false_iff_eq, gt_iff_lt, ge_iff_le, Int.not_lt, Int.not_le] at hc47
              refine c_seq (fun K38 hK38 => ?_)
              refine c_reg ?_ -- region 13 vmm.go:624
              refine wl (ro_fieldAddr (k := 2) rfl fo_119_2) ?_
              refine wl (ro_loadB rfl sc_9 (by assumption) rfl) ?_
              refine wl (ro_fieldAddr (k := 2) rfl fo_119_2) ?_
              refine wl (ro_loadB rfl sc_9 (by assumption) rfl) ?_
              refine wl (ro_leS rfl rfl rfl) ?_
              refine wl (ro_assign rfl) ?_
              refine wl (ro_assign rfl) ?_
              refine wl_nil (x_then (hK38 _ _ ?_))
              clear hK38 K38
              refine c_ret (x_blkR (x_thenR ?_))
              refine bp_ret Tryz.results123 rfl ?_
              refine ⟨?_, hF⟩
              unfold cmpV
              first
              | (exfalso; omega)
              | (repeat (first | rw [if_pos (by omega)] | rw [if_neg (by omega)])
                 first
                 | rfl
                 | (rw [eqV_dec]; rfl))
            · try simp only [decide_eq_true_eq, decide_eq_false_iff_not, Bool.not_eq_true', Bool.not_eq_false', Bool.not_eq_eq_eq_not, Bool.not_true, Bool.not_false, beq_iff_eq, bne_iff_ne, ne_eq, beq_eq_false_iff_ne, bne_eq_false_iff_eq, gt_iff_lt, ge_iff_le, Int.not_lt, Int.not_le] at hc47
              refine c_seq (fun K39 hK39 => ?_)
              refine c_reg ?_ -- region 14 vmm.go:625
              refine wl (ro_cmp rfl rfl rfl) ?_
              refine wl (ro_assign rfl) ?_
              refine wl_nil (x_then (hK39 _ _ ?_))
              clear hK39 K39
              refine wc_cond rfl (fun hc54 => ?_) (fun hc54 => ?_)
              · try simp only [decide_eq_true_eq, decide_eq_false_iff_not, Bool.not_eq_true', Bool.not_eq_false', Bool.not_eq_eq_eq_not, Bool.not_true, Bool.not_false, beq_iff_eq, bne_iff_ne, ne_eq, beq_eq_false_iff_ne, bne_eq_false_iff_eq, gt_iff_lt, ge_iff_le, Int.not_lt, Int.not_le] at hc54
                refine c_seq (fun K40 hK40 => ?_)
                refine c_reg ?_ -- region 15 vmm.go:626
                refine wl (ro_fieldAddr (k := 2) rfl fo_119_2) ?_
                refine wl (ro_loadB rfl sc_9 (by assumption) rfl) ?_
                refine wl (ro_fieldAddr (k := 2) rfl fo_119_2) ?_
                refine wl (ro_loadB rfl sc_9 (by assumption) rfl) ?_
                refine wl (ro_leS rfl rfl rfl) ?_
                refine wl (ro_assign rfl) ?_
                refine wl (ro_assign rfl) ?_
                refine wl_nil (x_then (hK40 _ _ ?_))
                clear hK40 K40
                refine c_ret (x_blkR (x_thenR ?_))
                refine bp_ret Tryz.results123 rfl ?_
                refine ⟨?_, hF⟩
                unfold cmpV
                first
                | (exfalso; omega)
                | (repeat (first | rw [if_pos (by omega)] | rw [if_neg (by omega)])
                   first
                   | rfl
                   | (rw [eqV_dec]; rfl))
              · try simp only [decide_eq_true_eq, decide_eq_false_iff_not, Bool.not_eq_true', Bool.not_eq_false', Bool.not_eq_eq_eq_not, Bool.not_true, Bool.not_false, beq_iff_eq, bne_iff_ne, ne_eq, beq_eq_false_iff_ne, bne_eq_false_iff_eq, gt_iff_lt, ge_iff_le, Int.not_lt, Int.not_le] at hc54
                refine c_seq (fun K41 hK41 => ?_)
                refine c_reg ?_ -- region 16 vmm.go:627
                refine wl (ro_cmp rfl rfl rfl) ?_
                refine wl (ro_assign rfl) ?_
                refine wl_nil (x_then (hK41 _ _ ?_))
                clear hK41 K41
                refine wc_cond rfl (fun hc61 => ?_) (fun hc61 => ?_)
                · try simp only [decide_eq_true_eq, decide_eq_false_iff_not, Bool.not_eq_true', Bool.not_eq_false', Bool.not_eq_eq_eq_not, Bool.not_true, Bool.not_false, beq_iff_eq, bne_iff_ne, ne_eq, beq_eq_false_iff_ne, bne_eq_false_iff_eq, gt_iff_lt, ge_iff_le, Int.not_lt, Int.not_le] at hc61
                  refine c_seq (fun K42 hK42 => ?_)
                  refine c_reg ?_ -- region 17 vmm.go:628
                  refine wl (ro_fieldAddr (k := 2) rfl fo_119_2) ?_
                  refine wl (ro_loadB rfl sc_9 (by assumption) rfl) ?_
                  refine wl (ro_fieldAddr (k := 2) rfl fo_119_2) ?_
                  refine wl (ro_loadB rfl sc_9 (by assumption) rfl) ?_
                  refine wl (ro_leS rfl rfl rfl) ?_
                  refine wl (ro_assign rfl) ?_
                  refine wl (ro_assign rfl) ?_
                  refine wl_nil (x_then (hK42 _ _ ?_))
                  clear hK42 K42
                  refine c_ret (x_blkR (x_thenR ?_))
                  refine bp_ret Tryz.results123 rfl ?_
                  refine ⟨?_, hF⟩
                  unfold cmpV
                  first
                  | (exfalso; omega)
                  | (repeat (first | rw [if_pos (by omega)] | rw [if_neg (by omega)])
                     first
                     | rfl
                     | (rw [eqV_dec]; rfl))
                · try simp only [decide_eq_true_eq, decide_eq_false_iff_not, Bool.not_eq_true', Bool.not_eq_false', Bool.not_eq_eq_eq_not, Bool.not_true, Bool.not_false, beq_iff_eq, bne_iff_ne, ne_eq, beq_eq_false_iff_ne, bne_eq_false_iff_eq, gt_iff_lt, ge_iff_le, Int.not_lt, Int.not_le] at hc61
                  refine c_skip (x_blk (x_then (hK35 _ _ ?_)))
                  clear hK35 K35
                  refine forget [(6, _), (7, _)] ⟨rfl, rfl, trivial⟩ (fun e => ?_)
                  refine c_seq (fun K43 hK43 => ?_)
                  refine c_reg ?_ -- region 18 vmm.go:630
                  refine wl (ro_fieldAddr (k := 2) rfl fo_119_2) ?_
                  refine wl (ro_loadB rfl sc_9 (by assumption) rfl) ?_
                  refine wl (ro_fieldAddr (k := 2) rfl fo_119_2) ?_
                  refine wl (ro_loadB rfl sc_9 (by assumption) rfl) ?_
                  refine wl (ro_leS rfl rfl rfl) ?_
                  refine wl (ro_assign rfl) ?_
                  refine wl (ro_assign rfl) ?_
                  refine wl_nil (x_then (hK43 _ _ ?_))
                  clear hK43 K43
                  refine c_ret ?_
                  refine bp_ret Tryz.results123 rfl ?_
                  refine ⟨?_, hF⟩
                  unfold cmpV
                  first
                  | (exfalso; omega)
                  | (repeat (first | rw [if_pos (by omega)] | rw [if_neg (by omega)])
                     first
                     | rfl
                     | (rw [eqV_dec]; rfl))
theorem cmp_some {w : World} {p : Value} {op : Nat} {a b : PV} {r0 : Bool} (hr : cmpV op a b = some r0) (ha : W64 a.N) (hb : W64 b.N) (h1 : 1 ≤ op) (h6 : op ≤ 6) : Ret Tryz.prog 123 [p, i64c op, pv a, pv b] w (fun r w' => r = .tuple #[.bool r0, .bool true] ∧ Fram none' w w') := (Compare123 ha hb h1 h6).mono fun r w' h => by rw [hr] at h; exact h
theorem cmp_none {w : World} {p : Value} {op : Nat} {a b : PV} (hr : cmpV op a b = none) (ha : W64 a.N) (hb : W64 b.N) (h1 : 1 ≤ op) (h6 : op ≤ 6) : Ret Tryz.prog 123 [p, i64c op, pv a, pv b] w (fun r w' => r = .tuple #[.bool false, .bool false] ∧ Fram none' w w') := (Compare123 ha hb h1 h6).mono fun r w' h => by rw [hr] at h; exact h
theorem wf6 {v : PV} (h : wfV v = true) (h6 : v.T = 6) : v.N < 1000 := by
  unfold wfV at h
  rw [if_neg (by omega)] at h
  split at h
  · rename_i h2
    simp [h6] at h
    omega
  · cases h
set_option maxHeartbeats 8000000 in
theorem bin72 {G : Arena} {root : Nat} {np : Value} {tb rb : Nat} {nv : Value} {w : World} {ow : Nat → Nat} {β τ : List Nat} {m : Nat} {s : IS} (hR : RM G root np tb rb nv w ow β τ m s) {op : Nat} {a b : PV} {c1 c2 c3 : Nat} (ha : VV c1 c2 c3 a) (hb : VV c1 c2 c3 b) (hop : op = 20 ∨ (11 ≤ op ∧ op ≤ 16) ∨ (1 ≤ op ∧ op ≤ 6)) (hP : RtP s) (hm : m ≤ 19990) :
    Ret Tryz.prog 72 [ptr rb, i64c op, pv a, pv b] w (fun r w' => r = .tuple #[] ∧ RP G root np tb rb nv w ow β τ (m + 2) (ires (binV op a b) s) w') := by
  have hF : Fram (tg ow cmT) w w := Fram.refl _ _
  have hX : Xt w ow ow := Xt.refl _ _
  have hpa := wf_f ha.wf ha.w
  have hpb := wf_f hb.wf hb.w
  have la := txV_len ha
  have lb := txV_len hb
  unfold binV
  refine ret_of Tryz.func72 rfl Tryz.ntmps72 rfl ?_
  refine c_seq (fun K1 hK1 => ?_)
  refine c_reg ?_ -- region 0 compm.go:450
  refine wl_box (cs := (pvc a)) rfl rfl (fun b6 w1 hbb6 h6 F1 => ?_)
  have hbsb6 := Nat.le_trans hF.size hbb6
  have kh6 := hR.df b6 hbb6
  replace hF := hF.thenDrew.thenN F1
  replace hR := hR.thruN ((Fram.refl none' _).thenDrew.thenN F1)
  refine wl_box (cs := (pvc b)) rfl rfl (fun b7 w2 hbb7 h7 F2 => ?_)
  have hbsb7 := Nat.le_trans hF.size hbb7
  have hneb6b7 : b6 < b7 := Nat.lt_of_lt_of_le h6.lt hbb7
  have kh7 := hR.df b7 hbb7
  replace hF := hF.thenDrew.thenN F2
  replace hR := hR.thruN ((Fram.refl none' _).thenDrew.thenN F2)
  replace h6 := F2.blkN h6
  refine wl_nil (x_then (hK1 _ _ ?_))
  clear hK1 K1
  refine c_seq (fun K2 hK2 => ?_)
  refine c_seq (fun K3 hK3 => ?_)
  refine c_reg ?_ -- region 1 compm.go:451
  refine wl (ro_move rfl) ?_
  refine wl (ro_cmp rfl rfl rfl) ?_
  refine wl_nil (x_then (hK3 _ _ ?_))
  clear hK3 K3
  refine wc_cond rfl (fun hc14 => ?_) (fun hc14 => ?_)
  · try simp only [decide_eq_true_eq, decide_eq_false_iff_not, Bool.not_eq_true', Bool.not_eq_false', Bool.not_eq_eq_eq_not, Bool.not_true, Bool.not_false, beq_iff_eq, bne_iff_ne, ne_eq, beq_eq_false_iff_ne, bne_eq_false_iff_eq, gt_iff_lt, ge_iff_le, Int.not_lt, Int.not_le] at hc14
    refine c_seq (fun K4 hK4 => ?_)
    refine c_seq (fun K5 hK5 => ?_)
    refine c_reg ?_ -- region 2 compm.go:452
    refine wl (ro_fieldAddr (k := 0) rfl fo_119_0) ?_
    refine wl (ro_loadB rfl sc_3 (by assumption) rfl) ?_
    refine wl (ro_cmp rfl rfl rfl) ?_
    refine wl_fork rfl (fun hg18 => ?_) (fun hg18 => ?_)
    · try simp only [decide_eq_true_eq, decide_eq_false_iff_not, Bool.not_eq_true', Bool.not_eq_false', Bool.not_eq_eq_eq_not, Bool.not_true, Bool.not_false, beq_iff_eq, bne_iff_ne, ne_eq, beq_eq_false_iff_ne, bne_eq_false_iff_eq, gt_iff_lt, ge_iff_le, Int.not_lt, Int.not_le] at hg18
      refine wlg_yes rfl (ro_fieldAddr (k := 0) rfl fo_119_0) ?_
      refine wlg_yes rfl (ro_loadB rfl sc_3 (by assumption) rfl) ?_
      refine wlg_yes rfl (ro_cmp rfl rfl rfl) ?_
      refine wl (ro_pick rfl rfl rfl) ?_
      refine wl_fork rfl (fun hg23 => ?_) (fun hg23 => ?_)
      · try simp only [decide_eq_true_eq, decide_eq_false_iff_not, Bool.not_eq_true', Bool.not_eq_false', Bool.not_eq_eq_eq_not, Bool.not_true, Bool.not_false, beq_iff_eq, bne_iff_ne, ne_eq, beq_eq_false_iff_ne, bne_eq_false_iff_eq, gt_iff_lt, ge_iff_le, Int.not_lt, Int.not_le] at hg23
        refine wlg_no rfl ?_
        refine wlg_no rfl ?_
        refine wlg_no rfl ?_
        refine wlg_no rfl ?_
        refine wlg_no rfl ?_
        refine wlg_no rfl ?_
        refine wlg_no rfl ?_
        refine wlg_no rfl ?_
        refine wl (ro_pick rfl rfl rfl) ?_
        refine wl_nil (x_then (hK5 _ _ ?_))
        clear hK5 K5
        refine wc_condT rfl ?_
        refine c_seq (fun K6 hK6 => ?_)
        refine c_reg ?_ -- region 3 compm.go:453
        refine wl (ro_move rfl) ?_
        refine wl_call rfl en_64 (raise64 (z := mConcat) hR.dr (by decide) hP hm) ?_
        rintro _ u3 ⟨rfl, ow3, x3, f3, r3⟩
        obtain ⟨h6, kh6⟩ := cm_loc x3 f3 h6 kh6
        obtain ⟨h7, kh7⟩ := cm_loc x3 f3 h7 kh7
        have hs3 := hF.size
        replace hF := cm_trans hX hF f3
        replace hX := hX.trans hs3 x3
        replace hR := r3
        refine wl_nil (x_then (hK6 _ _ ?_))
        clear hK6 K6
        refine c_ret (x_thenR (x_thenR ?_))
        refine bp_ret Tryz.results72 rfl ?_
        refine ⟨rfl, _, hX, hF, ?_⟩
        repeat (first | rw [if_pos (by omega)] | rw [if_neg (by omega)])
        try rw [show q + 10 - 10 = q by omega, hcv]
        first
        | exact hR.le (by omega)
        | exact hR
      · try simp only [decide_eq_true_eq, decide_eq_false_iff_not, Bool.not_eq_true', Bool.not_eq_false', Bool.not_eq_eq_eq_not, Bool.not_true, Bool.not_false, beq_iff_eq, bne_iff_ne, ne_eq, beq_eq_false_iff_ne, bne_eq_false_iff_eq, gt_iff_lt, ge_iff_le, Int.not_lt, Int.not_le] at hg23
        refine wlg_yes rfl (ro_fieldAddr (k := 0) rfl fo_119_0) ?_
        refine wlg_yes rfl (ro_loadB rfl sc_3 (by assumption) rfl) ?_
        refine wlg_yes rfl (ro_cmp rfl rfl rfl) ?_
        refine wlg_fork rfl rfl (fun hg27 => ?_) (fun hg27 => ?_)
        · try simp only [decide_eq_true_eq, decide_eq_false_iff_not, Bool.not_eq_true', Bool.not_eq_false', Bool.not_eq_eq_eq_not, Bool.not_true, Bool.not_false, beq_iff_eq, bne_iff_ne, ne_eq, beq_eq_false_iff_ne, bne_eq_false_iff_eq, gt_iff_lt, ge_iff_le, Int.not_lt, Int.not_le] at hg27
          refine wlg_yes rfl (ro_fieldAddr (k := 0) rfl fo_119_0) ?_
          refine wlg_yes rfl (ro_loadB rfl sc_3 (by assumption) rfl) ?_
          refine wlg_yes rfl (ro_cmp rfl rfl rfl) ?_
          refine wlg_yes rfl (ro_pick rfl rfl rfl) ?_
          refine wl (ro_pick rfl rfl rfl) ?_
          refine wl_nil (x_then (hK5 _ _ ?_))
          clear hK5 K5
          refine wc_cond rfl (fun hc32 => ?_) (fun hc32 => ?_)
          · try simp only [decide_eq_true_eq, decide_eq_false_iff_not, Bool.not_eq_true', Bool.not_eq_false', Bool.not_eq_eq_eq_not, Bool.not_true, Bool.not_false, beq_iff_eq, bne_iff_ne, ne_eq, beq_eq_false_iff_ne, bne_eq_false_iff_eq, gt_iff_lt, ge_iff_le, Int.not_lt, Int.not_le] at hc32
            refine c_seq (fun K7 hK7 => ?_)
            refine c_reg ?_ -- region 3 compm.go:453
            refine wl (ro_move rfl) ?_
            refine wl_call rfl en_64 (raise64 (z := mConcat) hR.dr (by decide) hP hm) ?_
            rintro _ u4 ⟨rfl, ow4, x4, f4, r4⟩
            obtain ⟨h6, kh6⟩ := cm_loc x4 f4 h6 kh6
            obtain ⟨h7, kh7⟩ := cm_loc x4 f4 h7 kh7
            have hs4 := hF.size
            replace hF := cm_trans hX hF f4
            replace hX := hX.trans hs4 x4
            replace hR := r4
            refine wl_nil (x_then (hK7 _ _ ?_))
            clear hK7 K7
            refine c_ret (x_thenR (x_thenR ?_))
            refine bp_ret Tryz.results72 rfl ?_
            refine ⟨rfl, _, hX, hF, ?_⟩
            repeat (first | rw [if_pos (by omega)] | rw [if_neg (by omega)])
            try rw [show q + 10 - 10 = q by omega, hcv]
            first
            | exact hR.le (by omega)
            | exact hR
          · try simp only [decide_eq_true_eq, decide_eq_false_iff_not, Bool.not_eq_true', Bool.not_eq_false', Bool.not_eq_eq_eq_not, Bool.not_true, Bool.not_false, beq_iff_eq, bne_iff_ne, ne_eq, beq_eq_false_iff_ne, bne_eq_false_iff_eq, gt_iff_lt, ge_iff_le, Int.not_lt, Int.not_le] at hc32
            refine c_skip (x_then (hK4 _ _ ?_))
            clear hK4 K4
            refine forget [(0, _), (6, _), (7, _)] ⟨rfl, rfl, rfl, trivial⟩ (fun e => ?_)
            refine c_seq (fun K8 hK8 => ?_)
            refine c_pi [(0, false), (1, false), (2, false), (3, false), (4, false), (5, true), (6, false)] (La b6 _ _ (La b7 _ _ (Lz rb _ _ _))) mixed (by kernel_rfl) rfl (by kernel_rfl) (po_then (po_then (po_bp))) (⟨h6, h7, hR.rz⟩) ?_ -- region 4 compm.go:456
            refine pi_ro rfl (fun w hS => ro_move rfl) ?_
            refine pi_ro rfl (fun w hS => ro_nilCheck rfl) ?_
            refine pi_ro rfl (fun w hS => ro_fieldAddr (k := 0) rfl fo_112_0) ?_
            refine pi_ro rfl (fun w hS => let ⟨_, hc⟩ := hS.2.2; ro_loadB rfl sc_46 hc rfl) ?_
            refine pi_ro rfl (fun w hS => ro_loadAggB rfl ag_119 (hS.1) rfl rfl) ?_
            refine pi_call rfl rfl en_119 (Text119 hpa (wf6 ha.wf)) ?_
            rintro _ w5 ⟨rfl, F5⟩
            replace hF := hF.thenDrew.thenN F5
            replace hR := hR.thruN ((Fram.refl none' _).thenDrew.thenN F5)
            replace h6 := F5.blkN h6
            replace h7 := F5.blkN h7
            refine ⟨⟨h6, h7, hR.rz⟩, ?_⟩
            refine pi_ro rfl (fun w hS => ro_assign rfl) ?_
            refine pi_nil (x_then (hK8 _ _ ?_))
            clear hK8 K8
            refine forget [(0, _), (7, _), (8, _)] ⟨rfl, rfl, rfl, trivial⟩ (fun e => ?_)
            refine c_seq (fun K9 hK9 => ?_)
            refine c_pi [(0, false), (1, false), (2, false), (3, false), (4, false), (5, true), (6, false)] (La b6 _ _ (La b7 _ _ (Lz rb _ _ _))) mixed (by kernel_rfl) rfl (by kernel_rfl) (po_then (po_then (po_bp))) (⟨h6, h7, hR.rz⟩) ?_ -- region 5 compm.go:457
            refine pi_ro rfl (fun w hS => ro_move rfl) ?_
            refine pi_ro rfl (fun w hS => ro_nilCheck rfl) ?_
            refine pi_ro rfl (fun w hS => ro_fieldAddr (k := 0) rfl fo_112_0) ?_
            refine pi_ro rfl (fun w hS => let ⟨_, hc⟩ := hS.2.2; ro_loadB rfl sc_46 hc rfl) ?_
            refine pi_ro rfl (fun w hS => ro_loadAggB rfl ag_119 (hS.2.1) rfl rfl) ?_
            refine pi_call rfl rfl en_119 (Text119 hpb (wf6 hb.wf)) ?_
            rintro _ w6 ⟨rfl, F6⟩
            replace hF := hF.thenDrew.thenN F6
            replace hR := hR.thruN ((Fram.refl none' _).thenDrew.thenN F6)
            replace h6 := F6.blkN h6
            replace h7 := F6.blkN h7
            refine ⟨⟨h6, h7, hR.rz⟩, ?_⟩
            refine pi_ro rfl (fun w hS => ro_assign rfl) ?_
            refine pi_nil (x_then (hK9 _ _ ?_))
            clear hK9 K9
            refine c_seq (fun K10 hK10 => ?_)
            refine c_seq (fun K11 hK11 => ?_)
            refine c_reg ?_ -- region 6 compm.go:458
            refine wl (ro_move rfl) ?_
            refine wl (ro_lenS rfl st_9) ?_
            refine wl (ro_move rfl) ?_
            refine wl (ro_lenS rfl st_9) ?_
            refine wl (ro_arith rfl rfl rfl (Go.IntWalk.i64_in _ (by omega))) ?_
            refine wl (ro_cmp rfl rfl rfl) ?_
            refine wl_nil (x_then (hK11 _ _ ?_))
            clear hK11 K11
            refine wc_cond rfl (fun hc52 => ?_) (fun hc52 => ?_)
            · try simp only [decide_eq_true_eq, decide_eq_false_iff_not, Bool.not_eq_true', Bool.not_eq_false', Bool.not_eq_eq_eq_not, Bool.not_true, Bool.not_false, beq_iff_eq, bne_iff_ne, ne_eq, beq_eq_false_iff_ne, bne_eq_false_iff_eq, gt_iff_lt, ge_iff_le, Int.not_lt, Int.not_le] at hc52
              refine c_seq (fun K12 hK12 => ?_)
              refine c_reg ?_ -- region 7 compm.go:459
              refine wl (ro_move rfl) ?_
              refine wl_call rfl en_64 (raise64 (z := mLong) hR.dr (by decide) hP hm) ?_
              rintro _ u7 ⟨rfl, ow7, x7, f7, r7⟩
              obtain ⟨h6, kh6⟩ := cm_loc x7 f7 h6 kh6
              obtain ⟨h7, kh7⟩ := cm_loc x7 f7 h7 kh7
              have hs7 := hF.size
              replace hF := cm_trans hX hF f7
              replace hX := hX.trans hs7 x7
              replace hR := r7
              refine wl_nil (x_then (hK12 _ _ ?_))
              clear hK12 K12
              refine c_ret (x_thenR (x_thenR ?_))
              refine bp_ret Tryz.results72 rfl ?_
              refine ⟨rfl, _, hX, hF, ?_⟩
              repeat (first | rw [if_pos (by omega)] | rw [if_neg (by omega)])
              try rw [show q + 10 - 10 = q by omega, hcv]
              first
              | exact hR.le (by omega)
              | exact hR
            · try simp only [decide_eq_true_eq, decide_eq_false_iff_not, Bool.not_eq_true', Bool.not_eq_false', Bool.not_eq_eq_eq_not, Bool.not_true, Bool.not_false, beq_iff_eq, bne_iff_ne, ne_eq, beq_eq_false_iff_ne, bne_eq_false_iff_eq, gt_iff_lt, ge_iff_le, Int.not_lt, Int.not_le] at hc52
              refine c_skip (x_then (hK10 _ _ ?_))
              clear hK10 K10
              refine forget [(0, _), (8, _), (9, _)] ⟨rfl, rfl, rfl, trivial⟩ (fun e => ?_)
              refine c_seq (fun K13 hK13 => ?_)
              refine c_reg ?_ -- region 8 compm.go:462
              refine wl (ro_move rfl) ?_
              refine wl (ro_move rfl) ?_
              refine wl (ro_move rfl) ?_
              refine wl (ro_catS rfl rfl (by omega)) ?_
              refine wl_call rfl en_108 (pushStr108 (z := txV a ++ txV b) hR.dr (by omega)) ?_
              rintro _ u8 ⟨rfl, ow8, x8, f8, r8⟩
              obtain ⟨h6, kh6⟩ := cm_loc x8 f8 h6 kh6
              obtain ⟨h7, kh7⟩ := cm_loc x8 f8 h7 kh7
              have hs8 := hF.size
              replace hF := cm_trans hX hF f8
              replace hX := hX.trans hs8 x8
              replace hR := r8
              refine wl_nil (x_then (hK13 _ _ ?_))
              clear hK13 K13
              refine c_ret (x_thenR ?_)
              refine bp_ret Tryz.results72 rfl ?_
              refine ⟨rfl, _, hX, hF, ?_⟩
              repeat (first | rw [if_pos (by omega)] | rw [if_neg (by omega)])
              try rw [show q + 10 - 10 = q by omega, hcv]
              first
              | exact hR.le (by omega)
              | exact hR
        · try simp only [decide_eq_true_eq, decide_eq_false_iff_not, Bool.not_eq_true', Bool.not_eq_false', Bool.not_eq_eq_eq_not, Bool.not_true, Bool.not_false, beq_iff_eq, bne_iff_ne, ne_eq, beq_eq_false_iff_ne, bne_eq_false_iff_eq, gt_iff_lt, ge_iff_le, Int.not_lt, Int.not_le] at hg27
          refine wlg_no rfl ?_
          refine wlg_no rfl ?_
          refine wlg_no rfl ?_
          refine wlg_yes rfl (ro_pick rfl rfl rfl) ?_
          refine wl (ro_pick rfl rfl rfl) ?_
          refine wl_nil (x_then (hK5 _ _ ?_))
          clear hK5 K5
          refine wc_condF rfl ?_
          refine c_skip (x_then (hK4 _ _ ?_))
          clear hK4 K4
          refine forget [(0, _), (6, _), (7, _)] ⟨rfl, rfl, rfl, trivial⟩ (fun e => ?_)
          refine c_seq (fun K14 hK14 => ?_)
          refine c_pi [(0, false), (1, false), (2, false), (3, false), (4, false), (5, true), (6, false)] (La b6 _ _ (La b7 _ _ (Lz rb _ _ _))) mixed (by kernel_rfl) rfl (by kernel_rfl) (po_then (po_then (po_bp))) (⟨h6, h7, hR.rz⟩) ?_ -- region 4 compm.go:456
          refine pi_ro rfl (fun w hS => ro_move rfl) ?_
          refine pi_ro rfl (fun w hS => ro_nilCheck rfl) ?_
          refine pi_ro rfl (fun w hS => ro_fieldAddr (k := 0) rfl fo_112_0) ?_
          refine pi_ro rfl (fun w hS => let ⟨_, hc⟩ := hS.2.2; ro_loadB rfl sc_46 hc rfl) ?_
          refine pi_ro rfl (fun w hS => ro_loadAggB rfl ag_119 (hS.1) rfl rfl) ?_
          refine pi_call rfl rfl en_119 (Text119 hpa (wf6 ha.wf)) ?_
          rintro _ w9 ⟨rfl, F9⟩
          replace hF := hF.thenDrew.thenN F9
          replace hR := hR.thruN ((Fram.refl none' _).thenDrew.thenN F9)
          replace h6 := F9.blkN h6
          replace h7 := F9.blkN h7
          refine ⟨⟨h6, h7, hR.rz⟩, ?_⟩
          refine pi_ro rfl (fun w hS => ro_assign rfl) ?_
          refine pi_nil (x_then (hK14 _ _ ?_))
          clear hK14 K14
          refine forget [(0, _), (7, _), (8, _)] ⟨rfl, rfl, rfl, trivial⟩ (fun e => ?_)
          refine c_seq (fun K15 hK15 => ?_)
          refine c_pi [(0, false), (1, false), (2, false), (3, false), (4, false), (5, true), (6, false)] (La b6 _ _ (La b7 _ _ (Lz rb _ _ _))) mixed (by kernel_rfl) rfl (by kernel_rfl) (po_then (po_then (po_bp))) (⟨h6, h7, hR.rz⟩) ?_ -- region 5 compm.go:457
          refine pi_ro rfl (fun w hS => ro_move rfl) ?_
          refine pi_ro rfl (fun w hS => ro_nilCheck rfl) ?_
          refine pi_ro rfl (fun w hS => ro_fieldAddr (k := 0) rfl fo_112_0) ?_
          refine pi_ro rfl (fun w hS => let ⟨_, hc⟩ := hS.2.2; ro_loadB rfl sc_46 hc rfl) ?_
          refine pi_ro rfl (fun w hS => ro_loadAggB rfl ag_119 (hS.2.1) rfl rfl) ?_
          refine pi_call rfl rfl en_119 (Text119 hpb (wf6 hb.wf)) ?_
          rintro _ w10 ⟨rfl, F10⟩
          replace hF := hF.thenDrew.thenN F10
          replace hR := hR.thruN ((Fram.refl none' _).thenDrew.thenN F10)
          replace h6 := F10.blkN h6
          replace h7 := F10.blkN h7
          refine ⟨⟨h6, h7, hR.rz⟩, ?_⟩
          refine pi_ro rfl (fun w hS => ro_assign rfl) ?_
          refine pi_nil (x_then (hK15 _ _ ?_))
          clear hK15 K15
          refine c_seq (fun K16 hK16 => ?_)
          refine c_seq (fun K17 hK17 => ?_)
          refine c_reg ?_ -- region 6 compm.go:458
          refine wl (ro_move rfl) ?_
          refine wl (ro_lenS rfl st_9) ?_
          refine wl (ro_move rfl) ?_
          refine wl (ro_lenS rfl st_9) ?_
          refine wl (ro_arith rfl rfl rfl (Go.IntWalk.i64_in _ (by omega))) ?_
          refine wl (ro_cmp rfl rfl rfl) ?_
          refine wl_nil (x_then (hK17 _ _ ?_))
          clear hK17 K17
          refine wc_cond rfl (fun hc52 => ?_) (fun hc52 => ?_)
          · try simp only [decide_eq_true_eq, decide_eq_false_iff_not, Bool.not_eq_true', Bool.not_eq_false', Bool.not_eq_eq_eq_not, Bool.not_true, Bool.not_false, beq_iff_eq, bne_iff_ne, ne_eq, beq_eq_false_iff_ne, bne_eq_false_iff_eq, gt_iff_lt, ge_iff_le, Int.not_lt, Int.not_le] at hc52
            refine c_seq (fun K18 hK18 => ?_)
            refine c_reg ?_ -- region 7 compm.go:459
            refine wl (ro_move rfl) ?_
            refine wl_call rfl en_64 (raise64 (z := mLong) hR.dr (by decide) hP hm) ?_
            rintro _ u11 ⟨rfl, ow11, x11, f11, r11⟩
            obtain ⟨h6, kh6⟩ := cm_loc x11 f11 h6 kh6
            obtain ⟨h7, kh7⟩ := cm_loc x11 f11 h7 kh7
            have hs11 := hF.size
            replace hF := cm_trans hX hF f11
            replace hX := hX.trans hs11 x11
            replace hR := r11
            refine wl_nil (x_then (hK18 _ _ ?_))
            clear hK18 K18
            refine c_ret (x_thenR (x_thenR ?_))
            refine bp_ret Tryz.results72 rfl ?_
            refine ⟨rfl, _, hX, hF, ?_⟩
            repeat (first | rw [if_pos (by omega)] | rw [if_neg (by omega)])
            try rw [show q + 10 - 10 = q by omega, hcv]
            first
            | exact hR.le (by omega)
            | exact hR
          · try simp only [decide_eq_true_eq, decide_eq_false_iff_not, Bool.not_eq_true', Bool.not_eq_false', Bool.not_eq_eq_eq_not, Bool.not_true, Bool.not_false, beq_iff_eq, bne_iff_ne, ne_eq, beq_eq_false_iff_ne, bne_eq_false_iff_eq, gt_iff_lt, ge_iff_le, Int.not_lt, Int.not_le] at hc52
            refine c_skip (x_then (hK16 _ _ ?_))
            clear hK16 K16
            refine forget [(0, _), (8, _), (9, _)] ⟨rfl, rfl, rfl, trivial⟩ (fun e => ?_)
            refine c_seq (fun K19 hK19 => ?_)
            refine c_reg ?_ -- region 8 compm.go:462
            refine wl (ro_move rfl) ?_
            refine wl (ro_move rfl) ?_
            refine wl (ro_move rfl) ?_
            refine wl (ro_catS rfl rfl (by omega)) ?_
            refine wl_call rfl en_108 (pushStr108 (z := txV a ++ txV b) hR.dr (by omega)) ?_
            rintro _ u12 ⟨rfl, ow12, x12, f12, r12⟩
            obtain ⟨h6, kh6⟩ := cm_loc x12 f12 h6 kh6
            obtain ⟨h7, kh7⟩ := cm_loc x12 f12 h7 kh7
            have hs12 := hF.size
            replace hF := cm_trans hX hF f12
            replace hX := hX.trans hs12 x12
            replace hR := r12
            refine wl_nil (x_then (hK19 _ _ ?_))
            clear hK19 K19
            refine c_ret (x_thenR ?_)
            refine bp_ret Tryz.results72 rfl ?_
            refine ⟨rfl, _, hX, hF, ?_⟩
            repeat (first | rw [if_pos (by omega)] | rw [if_neg (by omega)])
            try rw [show q + 10 - 10 = q by omega, hcv]
            first
            | exact hR.le (by omega)
            | exact hR
    · try simp only [decide_eq_true_eq, decide_eq_false_iff_not, Bool.not_eq_true', Bool.not_eq_false', Bool.not_eq_eq_eq_not, Bool.not_true, Bool.not_false, beq_iff_eq, bne_iff_ne, ne_eq, beq_eq_false_iff_ne, bne_eq_false_iff_eq, gt_iff_lt, ge_iff_le, Int.not_lt, Int.not_le] at hg18
      refine wlg_no rfl ?_
      refine wlg_no rfl ?_
      refine wlg_no rfl ?_
      refine wl (ro_pick rfl rfl rfl) ?_
      refine wl (ro_move rfl) ?_
      refine wlg_yes rfl (ro_fieldAddr (k := 0) rfl fo_119_0) ?_
      refine wlg_yes rfl (ro_loadB rfl sc_3 (by assumption) rfl) ?_
      refine wlg_yes rfl (ro_cmp rfl rfl rfl) ?_
      refine wlg_fork rfl rfl (fun hg27 => ?_) (fun hg27 => ?_)
      · try simp only [decide_eq_true_eq, decide_eq_false_iff_not, Bool.not_eq_true', Bool.not_eq_false', Bool.not_eq_eq_eq_not, Bool.not_true, Bool.not_false, beq_iff_eq, bne_iff_ne, ne_eq, beq_eq_false_iff_ne, bne_eq_false_iff_eq, gt_iff_lt, ge_iff_le, Int.not_lt, Int.not_le] at hg27
        refine wlg_yes rfl (ro_fieldAddr (k := 0) rfl fo_119_0) ?_
        refine wlg_yes rfl (ro_loadB rfl sc_3 (by assumption) rfl) ?_
        refine wlg_yes rfl (ro_cmp rfl rfl rfl) ?_
        refine wlg_yes rfl (ro_pick rfl rfl rfl) ?_
        refine wl (ro_pick rfl rfl rfl) ?_
        refine wl_nil (x_then (hK5 _ _ ?_))
        clear hK5 K5
        refine wc_cond rfl (fun hc32 => ?_) (fun hc32 => ?_)
        · try simp only [decide_eq_true_eq, decide_eq_false_iff_not, Bool.not_eq_true', Bool.not_eq_false', Bool.not_eq_eq_eq_not, Bool.not_true, Bool.not_false, beq_iff_eq, bne_iff_ne, ne_eq, beq_eq_false_iff_ne, bne_eq_false_iff_eq, gt_iff_lt, ge_iff_le, Int.not_lt, Int.not_le] at hc32
          refine c_seq (fun K20 hK20 => ?_)
          refine c_reg ?_ -- region 3 compm.go:453
          refine wl (ro_move rfl) ?_
          refine wl_call rfl en_64 (raise64 (z := mConcat) hR.dr (by decide) hP hm) ?_
          rintro _ u13 ⟨rfl, ow13, x13, f13, r13⟩
          obtain ⟨h6, kh6⟩ := cm_loc x13 f13 h6 kh6
          obtain ⟨h7, kh7⟩ := cm_loc x13 f13 h7 kh7
          have hs13 := hF.size
          replace hF := cm_trans hX hF f13
          replace hX := hX.trans hs13 x13
          replace hR := r13
          refine wl_nil (x_then (hK20 _ _ ?_))
          clear hK20 K20
          refine c_ret (x_thenR (x_thenR ?_))
          refine bp_ret Tryz.results72 rfl ?_
          refine ⟨rfl, _, hX, hF, ?_⟩
          repeat (first | rw [if_pos (by omega)] | rw [if_neg (by omega)])
          try rw [show q + 10 - 10 = q by omega, hcv]
          first
          | exact hR.le (by omega)
          | exact hR
        · try simp only [decide_eq_true_eq, decide_eq_false_iff_not, Bool.not_eq_true', Bool.not_eq_false', Bool.not_eq_eq_eq_not, Bool.not_true, Bool.not_false, beq_iff_eq, bne_iff_ne, ne_eq, beq_eq_false_iff_ne, bne_eq_false_iff_eq, gt_iff_lt, ge_iff_le, Int.not_lt, Int.not_le] at hc32
          refine c_skip (x_then (hK4 _ _ ?_))
          clear hK4 K4
          refine forget [(0, _), (6, _), (7, _)] ⟨rfl, rfl, rfl, trivial⟩ (fun e => ?_)
          refine c_seq (fun K21 hK21 => ?_)
          refine c_pi [(0, false), (1, false), (2, false), (3, false), (4, false), (5, true), (6, false)] (La b6 _ _ (La b7 _ _ (Lz rb _ _ _))) mixed (by kernel_rfl) rfl (by kernel_rfl) (po_then (po_then (po_bp))) (⟨h6, h7, hR.rz⟩) ?_ -- region 4 compm.go:456
          refine pi_ro rfl (fun w hS => ro_move rfl) ?_
          refine pi_ro rfl (fun w hS => ro_nilCheck rfl) ?_
          refine pi_ro rfl (fun w hS => ro_fieldAddr (k := 0) rfl fo_112_0) ?_
          refine pi_ro rfl (fun w hS => let ⟨_, hc⟩ := hS.2.2; ro_loadB rfl sc_46 hc rfl) ?_
          refine pi_ro rfl (fun w hS => ro_loadAggB rfl ag_119 (hS.1) rfl rfl) ?_
          refine pi_call rfl rfl en_119 (Text119 hpa (wf6 ha.wf)) ?_
          rintro _ w14 ⟨rfl, F14⟩
          replace hF := hF.thenDrew.thenN F14
          replace hR := hR.thruN ((Fram.refl none' _).thenDrew.thenN F14)
          replace h6 := F14.blkN h6
          replace h7 := F14.blkN h7
          refine ⟨⟨h6, h7, hR.rz⟩, ?_⟩
          refine pi_ro rfl (fun w hS => ro_assign rfl) ?_
          refine pi_nil (x_then (hK21 _ _ ?_))
          clear hK21 K21
          refine forget [(0, _), (7, _), (8, _)] ⟨rfl, rfl, rfl, trivial⟩ (fun e => ?_)
          refine c_seq (fun K22 hK22 => ?_)
          refine c_pi [(0, false), (1, false), (2, false), (3, false), (4, false), (5, true), (6, false)] (La b6 _ _ (La b7 _ _ (Lz rb _ _ _))) mixed (by kernel_rfl) rfl (by kernel_rfl) (po_then (po_then (po_bp))) (⟨h6, h7, hR.rz⟩) ?_ -- region 5 compm.go:457
          refine pi_ro rfl (fun w hS => ro_move rfl) ?_
          refine pi_ro rfl (fun w hS => ro_nilCheck rfl) ?_
          refine pi_ro rfl (fun w hS => ro_fieldAddr (k := 0) rfl fo_112_0) ?_
          refine pi_ro rfl (fun w hS => let ⟨_, hc⟩ := hS.2.2; ro_loadB rfl sc_46 hc rfl) ?_
          refine pi_ro rfl (fun w hS => ro_loadAggB rfl ag_119 (hS.2.1) rfl rfl) ?_
          refine pi_call rfl rfl en_119 (Text119 hpb (wf6 hb.wf)) ?_
          rintro _ w15 ⟨rfl, F15⟩
          replace hF := hF.thenDrew.thenN F15
          replace hR := hR.thruN ((Fram.refl none' _).thenDrew.thenN F15)
          replace h6 := F15.blkN h6
          replace h7 := F15.blkN h7
          refine ⟨⟨h6, h7, hR.rz⟩, ?_⟩
          refine pi_ro rfl (fun w hS => ro_assign rfl) ?_
          refine pi_nil (x_then (hK22 _ _ ?_))
          clear hK22 K22
          refine c_seq (fun K23 hK23 => ?_)
          refine c_seq (fun K24 hK24 => ?_)
          refine c_reg ?_ -- region 6 compm.go:458
          refine wl (ro_move rfl) ?_
          refine wl (ro_lenS rfl st_9) ?_
          refine wl (ro_move rfl) ?_
          refine wl (ro_lenS rfl st_9) ?_
          refine wl (ro_arith rfl rfl rfl (Go.IntWalk.i64_in _ (by omega))) ?_
          refine wl (ro_cmp rfl rfl rfl) ?_
          refine wl_nil (x_then (hK24 _ _ ?_))
          clear hK24 K24
          refine wc_cond rfl (fun hc52 => ?_) (fun hc52 => ?_)
          · try simp only [decide_eq_true_eq, decide_eq_false_iff_not, Bool.not_eq_true', Bool.not_eq_false', Bool.not_eq_eq_eq_not, Bool.not_true, Bool.not_false, beq_iff_eq, bne_iff_ne, ne_eq, beq_eq_false_iff_ne, bne_eq_false_iff_eq, gt_iff_lt, ge_iff_le, Int.not_lt, Int.not_le] at hc52
            refine c_seq (fun K25 hK25 => ?_)
            refine c_reg ?_ -- region 7 compm.go:459
            refine wl (ro_move rfl) ?_
            refine wl_call rfl en_64 (raise64 (z := mLong) hR.dr (by decide) hP hm) ?_
            rintro _ u16 ⟨rfl, ow16, x16, f16, r16⟩
            obtain ⟨h6, kh6⟩ := cm_loc x16 f16 h6 kh6
            obtain ⟨h7, kh7⟩ := cm_loc x16 f16 h7 kh7
            have hs16 := hF.size
            replace hF := cm_trans hX hF f16
            replace hX := hX.trans hs16 x16
            replace hR := r16
            refine wl_nil (x_then (hK25 _ _ ?_))
            clear hK25 K25
            refine c_ret (x_thenR (x_thenR ?_))
            refine bp_ret Tryz.results72 rfl ?_
            refine ⟨rfl, _, hX, hF, ?_⟩
            repeat (first | rw [if_pos (by omega)] | rw [if_neg (by omega)])
            try rw [show q + 10 - 10 = q by omega, hcv]
            first
            | exact hR.le (by omega)
            | exact hR
          · try simp only [decide_eq_true_eq, decide_eq_false_iff_not, Bool.not_eq_true', Bool.not_eq_false', Bool.not_eq_eq_eq_not, Bool.not_true, Bool.not_false, beq_iff_eq, bne_iff_ne, ne_eq, beq_eq_false_iff_ne, bne_eq_false_iff_eq, gt_iff_lt, ge_iff_le, Int.not_lt, Int.not_le] at hc52
            refine c_skip (x_then (hK23 _ _ ?_))
            clear hK23 K23
            refine forget [(0, _), (8, _), (9, _)] ⟨rfl, rfl, rfl, trivial⟩ (fun e => ?_)
            refine c_seq (fun K26 hK26 => ?_)
            refine c_reg ?_ -- region 8 compm.go:462
            refine wl (ro_move rfl) ?_
            refine wl (ro_move rfl) ?_
            refine wl (ro_move rfl) ?_
            refine wl (ro_catS rfl rfl (by omega)) ?_
            refine wl_call rfl en_108 (pushStr108 (z := txV a ++ txV b) hR.dr (by omega)) ?_
            rintro _ u17 ⟨rfl, ow17, x17, f17, r17⟩
            obtain ⟨h6, kh6⟩ := cm_loc x17 f17 h6 kh6
            obtain ⟨h7, kh7⟩ := cm_loc x17 f17 h7 kh7
            have hs17 := hF.size
            replace hF := cm_trans hX hF f17
            replace hX := hX.trans hs17 x17
            replace hR := r17
            refine wl_nil (x_then (hK26 _ _ ?_))
            clear hK26 K26
            refine c_ret (x_thenR ?_)
            refine bp_ret Tryz.results72 rfl ?_
            refine ⟨rfl, _, hX, hF, ?_⟩
            repeat (first | rw [if_pos (by omega)] | rw [if_neg (by omega)])
            try rw [show q + 10 - 10 = q by omega, hcv]
            first
            | exact hR.le (by omega)
            | exact hR
      · try simp only [decide_eq_true_eq, decide_eq_false_iff_not, Bool.not_eq_true', Bool.not_eq_false', Bool.not_eq_eq_eq_not, Bool.not_true, Bool.not_false, beq_iff_eq, bne_iff_ne, ne_eq, beq_eq_false_iff_ne, bne_eq_false_iff_eq, gt_iff_lt, ge_iff_le, Int.not_lt, Int.not_le] at hg27
        refine wlg_no rfl ?_
        refine wlg_no rfl ?_
        refine wlg_no rfl ?_
        refine wlg_yes rfl (ro_pick rfl rfl rfl) ?_
        refine wl (ro_pick rfl rfl rfl) ?_
        refine wl_nil (x_then (hK5 _ _ ?_))
        clear hK5 K5
        refine wc_condF rfl ?_
        refine c_skip (x_then (hK4 _ _ ?_))
        clear hK4 K4
        refine forget [(0, _), (6, _), (7, _)] ⟨rfl, rfl, rfl, trivial⟩ (fun e => ?_)
        refine c_seq (fun K27 hK27 => ?_)
        refine c_pi [(0, false), (1, false), (2, false), (3, false), (4, false), (5, true), (6, false)] (La b6 _ _ (La b7 _ _ (Lz rb _ _ _))) mixed (by kernel_rfl) rfl (by kernel_rfl) (po_then (po_then (po_bp))) (⟨h6, h7, hR.rz⟩) ?_ -- region 4 compm.go:456
        refine pi_ro rfl (fun w hS => ro_move rfl) ?_
        refine pi_ro rfl (fun w hS => ro_nilCheck rfl) ?_
        refine pi_ro rfl (fun w hS => ro_fieldAddr (k := 0) rfl fo_112_0) ?_
        refine pi_ro rfl (fun w hS => let ⟨_, hc⟩ := hS.2.2; ro_loadB rfl sc_46 hc rfl) ?_
        refine pi_ro rfl (fun w hS => ro_loadAggB rfl ag_119 (hS.1) rfl rfl) ?_
        refine pi_call rfl rfl en_119 (Text119 hpa (wf6 ha.wf)) ?_
        rintro _ w18 ⟨rfl, F18⟩
        replace hF := hF.thenDrew.thenN F18
        replace hR := hR.thruN ((Fram.refl none' _).thenDrew.thenN F18)
        replace h6 := F18.blkN h6
        replace h7 := F18.blkN h7
        refine ⟨⟨h6, h7, hR.rz⟩, ?_⟩
        refine pi_ro rfl (fun w hS => ro_assign rfl) ?_
        refine pi_nil (x_then (hK27 _ _ ?_))
        clear hK27 K27
        refine forget [(0, _), (7, _), (8, _)] ⟨rfl, rfl, rfl, trivial⟩ (fun e => ?_)
        refine c_seq (fun K28 hK28 => ?_)
        refine c_pi [(0, false), (1, false), (2, false), (3, false), (4, false), (5, true), (6, false)] (La b6 _ _ (La b7 _ _ (Lz rb _ _ _))) mixed (by kernel_rfl) rfl (by kernel_rfl) (po_then (po_then (po_bp))) (⟨h6, h7, hR.rz⟩) ?_ -- region 5 compm.go:457
        refine pi_ro rfl (fun w hS => ro_move rfl) ?_
        refine pi_ro rfl (fun w hS => ro_nilCheck rfl) ?_
        refine pi_ro rfl (fun w hS => ro_fieldAddr (k := 0) rfl fo_112_0) ?_
        refine pi_ro rfl (fun w hS => let ⟨_, hc⟩ := hS.2.2; ro_loadB rfl sc_46 hc rfl) ?_
        refine pi_ro rfl (fun w hS => ro_loadAggB rfl ag_119 (hS.2.1) rfl rfl) ?_
        refine pi_call rfl rfl en_119 (Text119 hpb (wf6 hb.wf)) ?_
        rintro _ w19 ⟨rfl, F19⟩
        replace hF := hF.thenDrew.thenN F19
        replace hR := hR.thruN ((Fram.refl none' _).thenDrew.thenN F19)
        replace h6 := F19.blkN h6
        replace h7 := F19.blkN h7
        refine ⟨⟨h6, h7, hR.rz⟩, ?_⟩
        refine pi_ro rfl (fun w hS => ro_assign rfl) ?_
        refine pi_nil (x_then (hK28 _ _ ?_))
        clear hK28 K28
        refine c_seq (fun K29 hK29 => ?_)
        refine c_seq (fun K30 hK30 => ?_)
        refine c_reg ?_ -- region 6 compm.go:458
        refine wl (ro_move rfl) ?_
        refine wl (ro_lenS rfl st_9) ?_
        refine wl (ro_move rfl) ?_
        refine wl (ro_lenS rfl st_9) ?_
        refine wl (ro_arith rfl rfl rfl (Go.IntWalk.i64_in _ (by omega))) ?_
        refine wl (ro_cmp rfl rfl rfl) ?_
        refine wl_nil (x_then (hK30 _ _ ?_))
        clear hK30 K30
        refine wc_cond rfl (fun hc52 => ?_) (fun hc52 => ?_)
        · try simp only [decide_eq_true_eq, decide_eq_false_iff_not, Bool.not_eq_true', Bool.not_eq_false', Bool.not_eq_eq_eq_not, Bool.not_true, Bool.not_false, beq_iff_eq, bne_iff_ne, ne_eq, beq_eq_false_iff_ne, bne_eq_false_iff_eq, gt_iff_lt, ge_iff_le, Int.not_lt, Int.not_le] at hc52
          refine c_seq (fun K31 hK31 => ?_)
          refine c_reg ?_ -- region 7 compm.go:459
          refine wl (ro_move rfl) ?_
          refine wl_call rfl en_64 (raise64 (z := mLong) hR.dr (by decide) hP hm) ?_
          rintro _ u20 ⟨rfl, ow20, x20, f20, r20⟩
          obtain ⟨h6, kh6⟩ := cm_loc x20 f20 h6 kh6
          obtain ⟨h7, kh7⟩ := cm_loc x20 f20 h7 kh7
          have hs20 := hF.size
          replace hF := cm_trans hX hF f20
          replace hX := hX.trans hs20 x20
          replace hR := r20
          refine wl_nil (x_then (hK31 _ _ ?_))
          clear hK31 K31
          refine c_ret (x_thenR (x_thenR ?_))
          refine bp_ret Tryz.results72 rfl ?_
          refine ⟨rfl, _, hX, hF, ?_⟩
          repeat (first | rw [if_pos (by omega)] | rw [if_neg (by omega)])
          try rw [show q + 10 - 10 = q by omega, hcv]
          first
          | exact hR.le (by omega)
          | exact hR
        · try simp only [decide_eq_true_eq, decide_eq_false_iff_not, Bool.not_eq_true', Bool.not_eq_false', Bool.not_eq_eq_eq_not, Bool.not_true, Bool.not_false, beq_iff_eq, bne_iff_ne, ne_eq, beq_eq_false_iff_ne, bne_eq_false_iff_eq, gt_iff_lt, ge_iff_le, Int.not_lt, Int.not_le] at hc52
          refine c_skip (x_then (hK29 _ _ ?_))
          clear hK29 K29
          refine forget [(0, _), (8, _), (9, _)] ⟨rfl, rfl, rfl, trivial⟩ (fun e => ?_)
          refine c_seq (fun K32 hK32 => ?_)
          refine c_reg ?_ -- region 8 compm.go:462
          refine wl (ro_move rfl) ?_
          refine wl (ro_move rfl) ?_
          refine wl (ro_move rfl) ?_
          refine wl (ro_catS rfl rfl (by omega)) ?_
          refine wl_call rfl en_108 (pushStr108 (z := txV a ++ txV b) hR.dr (by omega)) ?_
          rintro _ u21 ⟨rfl, ow21, x21, f21, r21⟩
          obtain ⟨h6, kh6⟩ := cm_loc x21 f21 h6 kh6
          obtain ⟨h7, kh7⟩ := cm_loc x21 f21 h7 kh7
          have hs21 := hF.size
          replace hF := cm_trans hX hF f21
          replace hX := hX.trans hs21 x21
          replace hR := r21
          refine wl_nil (x_then (hK32 _ _ ?_))
          clear hK32 K32
          refine c_ret (x_thenR ?_)
          refine bp_ret Tryz.results72 rfl ?_
          refine ⟨rfl, _, hX, hF, ?_⟩
          repeat (first | rw [if_pos (by omega)] | rw [if_neg (by omega)])
          try rw [show q + 10 - 10 = q by omega, hcv]
          first
          | exact hR.le (by omega)
          | exact hR
  · try simp only [decide_eq_true_eq, decide_eq_false_iff_not, Bool.not_eq_true', Bool.not_eq_false', Bool.not_eq_eq_eq_not, Bool.not_true, Bool.not_false, beq_iff_eq, bne_iff_ne, ne_eq, beq_eq_false_iff_ne, bne_eq_false_iff_eq, gt_iff_lt, ge_iff_le, Int.not_lt, Int.not_le] at hc14
    refine c_skip (x_then (hK2 _ _ ?_))
    clear hK2 K2
    refine c_seq (fun K33 hK33 => ?_)
    refine c_seq (fun K34 hK34 => ?_)
    refine c_reg ?_ -- region 9 compm.go:465
    refine wl (ro_move rfl) ?_
    refine wl (ro_cmp rfl rfl rfl) ?_
    refine wl_nil (x_then (hK34 _ _ ?_))
    clear hK34 K34
    refine wc_cond rfl (fun hc61 => ?_) (fun hc61 => ?_)
    · try simp only [decide_eq_true_eq, decide_eq_false_iff_not, Bool.not_eq_true', Bool.not_eq_false', Bool.not_eq_eq_eq_not, Bool.not_true, Bool.not_false, beq_iff_eq, bne_iff_ne, ne_eq, beq_eq_false_iff_ne, bne_eq_false_iff_eq, gt_iff_lt, ge_iff_le, Int.not_lt, Int.not_le] at hc61
      obtain ⟨q, rfl⟩ : ∃ q, op = q + 10 := ⟨op - 10, by omega⟩
      refine c_seq (fun K35 hK35 => ?_)
      rcases hcv : cmpV q a b with _ | r0
      · skip
        refine c_pi [(0, false), (1, false), (2, false), (3, false), (4, false), (5, false), (6, false), (7, false), (8, true), (9, false), (10, false), (11, false), (12, false), (13, false)] (La b6 _ _ (La b7 _ _ (Lz rb _ _ _))) mixed (by kernel_rfl) rfl (by kernel_rfl) (po_then (po_then (po_bp))) (⟨h6, h7, hR.rz⟩) ?_ -- region 10 compm.go:466
        refine pi_ro rfl (fun w hS => ro_move rfl) ?_
        refine pi_ro rfl (fun w hS => ro_nilCheck rfl) ?_
        refine pi_ro rfl (fun w hS => ro_fieldAddr (k := 0) rfl fo_112_0) ?_
        refine pi_ro rfl (fun w hS => let ⟨_, hc⟩ := hS.2.2; ro_loadB rfl sc_46 hc rfl) ?_
        refine pi_ro rfl (fun w hS => ro_move rfl) ?_
        refine pi_ro rfl (fun w hS => ro_arith (r := (q : Int)) rfl rfl (congrArg some (by omega)) (Go.IntWalk.i64_in _ (by omega))) ?_
        refine pi_ro rfl (fun w hS => ro_loadAggB rfl ag_119 (hS.1) rfl rfl) ?_
        refine pi_ro rfl (fun w hS => ro_loadAggB rfl ag_119 (hS.2.1) rfl rfl) ?_
        refine pi_call rfl rfl en_123 (cmp_none hcv ha.w hb.w (by omega) (by omega)) ?_
        rintro _ w22 ⟨rfl, F22⟩
        replace hF := hF.thenDrew.thenN F22
        replace hR := hR.thruN ((Fram.refl none' _).thenDrew.thenN F22)
        replace h6 := F22.blkN h6
        replace h7 := F22.blkN h7
        refine ⟨⟨h6, h7, hR.rz⟩, ?_⟩
        refine pi_ro rfl (fun w hS => ro_move rfl) ?_
        refine pi_ro rfl (fun w hS => ro_extract rfl rfl) ?_
        refine pi_ro rfl (fun w hS => ro_extract rfl rfl) ?_
        refine pi_ro rfl (fun w hS => ro_assign rfl) ?_
        refine pi_ro rfl (fun w hS => ro_assign rfl) ?_
        refine pi_nil (x_then (hK35 _ _ ?_))
        clear hK35 K35
        refine c_seq (fun K36 hK36 => ?_)
        refine c_seq (fun K37 hK37 => ?_)
        refine c_reg ?_ -- region 11 compm.go:467
        refine wl (ro_move rfl) ?_
        refine wl (ro_not rfl) ?_
        refine wl_nil (x_then (hK37 _ _ ?_))
        clear hK37 K37
        refine wc_cond rfl (fun hc75 => ?_) (fun hc75 => ?_)
        · try simp only [decide_eq_true_eq, decide_eq_false_iff_not, Bool.not_eq_true', Bool.not_eq_false', Bool.not_eq_eq_eq_not, Bool.not_true, Bool.not_false, beq_iff_eq, bne_iff_ne, ne_eq, beq_eq_false_iff_ne, bne_eq_false_iff_eq, gt_iff_lt, ge_iff_le, Int.not_lt, Int.not_le] at hc75
          refine c_seq (fun K38 hK38 => ?_)
          refine c_reg ?_ -- region 12 compm.go:468
          refine wl (ro_move rfl) ?_
          refine wl_call rfl en_64 (raise64 (z := mCompare) hR.dr (by decide) hP hm) ?_
          rintro _ u23 ⟨rfl, ow23, x23, f23, r23⟩
          obtain ⟨h6, kh6⟩ := cm_loc x23 f23 h6 kh6
          obtain ⟨h7, kh7⟩ := cm_loc x23 f23 h7 kh7
          have hs23 := hF.size
          replace hF := cm_trans hX hF f23
          replace hX := hX.trans hs23 x23
          replace hR := r23
          refine wl_nil (x_then (hK38 _ _ ?_))
          clear hK38 K38
          refine c_ret (x_thenR (x_thenR ?_))
          refine bp_ret Tryz.results72 rfl ?_
          refine ⟨rfl, _, hX, hF, ?_⟩
          repeat (first | rw [if_pos (by omega)] | rw [if_neg (by omega)])
          try rw [show q + 10 - 10 = q by omega, hcv]
          first
          | exact hR.le (by omega)
          | exact hR
        · try simp only [decide_eq_true_eq, decide_eq_false_iff_not, Bool.not_eq_true', Bool.not_eq_false', Bool.not_eq_eq_eq_not, Bool.not_true, Bool.not_false, beq_iff_eq, bne_iff_ne, ne_eq, beq_eq_false_iff_ne, bne_eq_false_iff_eq, gt_iff_lt, ge_iff_le, Int.not_lt, Int.not_le] at hc75
          cases hc75
      · skip
        refine c_pi [(0, false), (1, false), (2, false), (3, false), (4, false), (5, false), (6, false), (7, false), (8, true), (9, false), (10, false), (11, false), (12, false), (13, false)] (La b6 _ _ (La b7 _ _ (Lz rb _ _ _))) mixed (by kernel_rfl) rfl (by kernel_rfl) (po_then (po_then (po_bp))) (⟨h6, h7, hR.rz⟩) ?_ -- region 10 compm.go:466
        refine pi_ro rfl (fun w hS => ro_move rfl) ?_
        refine pi_ro rfl (fun w hS => ro_nilCheck rfl) ?_
        refine pi_ro rfl (fun w hS => ro_fieldAddr (k := 0) rfl fo_112_0) ?_
        refine pi_ro rfl (fun w hS => let ⟨_, hc⟩ := hS.2.2; ro_loadB rfl sc_46 hc rfl) ?_
        refine pi_ro rfl (fun w hS => ro_move rfl) ?_
        refine pi_ro rfl (fun w hS => ro_arith (r := (q : Int)) rfl rfl (congrArg some (by omega)) (Go.IntWalk.i64_in _ (by omega))) ?_
        refine pi_ro rfl (fun w hS => ro_loadAggB rfl ag_119 (hS.1) rfl rfl) ?_
        refine pi_ro rfl (fun w hS => ro_loadAggB rfl ag_119 (hS.2.1) rfl rfl) ?_
        refine pi_call rfl rfl en_123 (cmp_some hcv ha.w hb.w (by omega) (by omega)) ?_
        rintro _ w24 ⟨rfl, F24⟩
        replace hF := hF.thenDrew.thenN F24
        replace hR := hR.thruN ((Fram.refl none' _).thenDrew.thenN F24)
        replace h6 := F24.blkN h6
        replace h7 := F24.blkN h7
        refine ⟨⟨h6, h7, hR.rz⟩, ?_⟩
        refine pi_ro rfl (fun w hS => ro_move rfl) ?_
        refine pi_ro rfl (fun w hS => ro_extract rfl rfl) ?_
        refine pi_ro rfl (fun w hS => ro_extract rfl rfl) ?_
        refine pi_ro rfl (fun w hS => ro_assign rfl) ?_
        refine pi_ro rfl (fun w hS => ro_assign rfl) ?_
        refine pi_nil (x_then (hK35 _ _ ?_))
        clear hK35 K35
        refine c_seq (fun K39 hK39 => ?_)
        refine c_seq (fun K40 hK40 => ?_)
        refine c_reg ?_ -- region 11 compm.go:467
        refine wl (ro_move rfl) ?_
        refine wl (ro_not rfl) ?_
        refine wl_nil (x_then (hK40 _ _ ?_))
        clear hK40 K40
        refine wc_cond rfl (fun hc75 => ?_) (fun hc75 => ?_)
        · try simp only [decide_eq_true_eq, decide_eq_false_iff_not, Bool.not_eq_true', Bool.not_eq_false', Bool.not_eq_eq_eq_not, Bool.not_true, Bool.not_false, beq_iff_eq, bne_iff_ne, ne_eq, beq_eq_false_iff_ne, bne_eq_false_iff_eq, gt_iff_lt, ge_iff_le, Int.not_lt, Int.not_le] at hc75
          cases hc75
        · try simp only [decide_eq_true_eq, decide_eq_false_iff_not, Bool.not_eq_true', Bool.not_eq_false', Bool.not_eq_eq_eq_not, Bool.not_true, Bool.not_false, beq_iff_eq, bne_iff_ne, ne_eq, beq_eq_false_iff_ne, bne_eq_false_iff_eq, gt_iff_lt, ge_iff_le, Int.not_lt, Int.not_le] at hc75
          refine c_skip (x_then (hK39 _ _ ?_))
          clear hK39 K39
          refine forget [(0, _), (10, _)] ⟨rfl, rfl, trivial⟩ (fun e => ?_)
          refine c_seq (fun K41 hK41 => ?_)
          refine c_reg ?_ -- region 13 compm.go:471
          refine wl (ro_move rfl) ?_
          refine wl (ro_move rfl) ?_
          refine wl_call rfl en_124 (pushBool124 hR.dr (by omega)) ?_
          rintro _ u25 ⟨rfl, ow25, x25, f25, r25⟩
          obtain ⟨h6, kh6⟩ := cm_loc x25 f25 h6 kh6
          obtain ⟨h7, kh7⟩ := cm_loc x25 f25 h7 kh7
          have hs25 := hF.size
          replace hF := cm_trans hX hF f25
          replace hX := hX.trans hs25 x25
          replace hR := r25
          refine wl_nil (x_then (hK41 _ _ ?_))
          clear hK41 K41
          refine c_ret (x_thenR ?_)
          refine bp_ret Tryz.results72 rfl ?_
          refine ⟨rfl, _, hX, hF, ?_⟩
          repeat (first | rw [if_pos (by omega)] | rw [if_neg (by omega)])
          try rw [show q + 10 - 10 = q by omega, hcv]
          first
          | exact hR.le (by omega)
          | exact hR
    · try simp only [decide_eq_true_eq, decide_eq_false_iff_not, Bool.not_eq_true', Bool.not_eq_false', Bool.not_eq_eq_eq_not, Bool.not_true, Bool.not_false, beq_iff_eq, bne_iff_ne, ne_eq, beq_eq_false_iff_ne, bne_eq_false_iff_eq, gt_iff_lt, ge_iff_le, Int.not_lt, Int.not_le] at hc61
      refine c_skip (x_then (hK33 _ _ ?_))
      clear hK33 K33
      refine c_seq (fun K42 hK42 => ?_)
      refine c_seq (fun K43 hK43 => ?_)
      refine c_reg ?_ -- region 14 compm.go:474
      refine wl (ro_fieldAddr (k := 0) rfl fo_119_0) ?_
      refine wl (ro_loadB rfl sc_3 (by assumption) rfl) ?_
      refine wl (ro_cmp rfl rfl rfl) ?_
      refine wl_fork rfl (fun hg84 => ?_) (fun hg84 => ?_)
      · try simp only [decide_eq_true_eq, decide_eq_false_iff_not, Bool.not_eq_true', Bool.not_eq_false', Bool.not_eq_eq_eq_not, Bool.not_true, Bool.not_false, beq_iff_eq, bne_iff_ne, ne_eq, beq_eq_false_iff_ne, bne_eq_false_iff_eq, gt_iff_lt, ge_iff_le, Int.not_lt, Int.not_le] at hg84
        refine wlg_no rfl ?_
        refine wlg_no rfl ?_
        refine wlg_no rfl ?_
        refine wl (ro_pick rfl rfl rfl) ?_
        refine wl_nil (x_then (hK43 _ _ ?_))
        clear hK43 K43
        refine wc_condT rfl ?_
        refine c_seq (fun K44 hK44 => ?_)
        refine c_reg ?_ -- region 15 compm.go:475
        refine wl (ro_move rfl) ?_
        refine wl_call rfl en_64 (raise64 (z := mArith) hR.dr (by decide) hP hm) ?_
        rintro _ u26 ⟨rfl, ow26, x26, f26, r26⟩
        obtain ⟨h6, kh6⟩ := cm_loc x26 f26 h6 kh6
        obtain ⟨h7, kh7⟩ := cm_loc x26 f26 h7 kh7
        have hs26 := hF.size
        replace hF := cm_trans hX hF f26
        replace hX := hX.trans hs26 x26
        replace hR := r26
        refine wl_nil (x_then (hK44 _ _ ?_))
        clear hK44 K44
        refine c_ret (x_thenR ?_)
        refine bp_ret Tryz.results72 rfl ?_
        refine ⟨rfl, _, hX, hF, ?_⟩
        repeat (first | rw [if_pos (by omega)] | rw [if_neg (by omega)])
        try rw [show q + 10 - 10 = q by omega, hcv]
        first
        | exact hR.le (by omega)
        | exact hR
      · try simp only [decide_eq_true_eq, decide_eq_false_iff_not, Bool.not_eq_true', Bool.not_eq_false', Bool.not_eq_eq_eq_not, Bool.not_true, Bool.not_false, beq_iff_eq, bne_iff_ne, ne_eq, beq_eq_false_iff_ne, bne_eq_false_iff_eq, gt_iff_lt, ge_iff_le, Int.not_lt, Int.not_le] at hg84
        refine wlg_yes rfl (ro_fieldAddr (k := 0) rfl fo_119_0) ?_
        refine wlg_yes rfl (ro_loadB rfl sc_3 (by assumption) rfl) ?_
        refine wlg_yes rfl (ro_cmp rfl rfl rfl) ?_
        refine wl (ro_pick rfl rfl rfl) ?_
        refine wl_nil (x_then (hK43 _ _ ?_))
        clear hK43 K43
        refine wc_cond rfl (fun hc88 => ?_) (fun hc88 => ?_)
        · try simp only [decide_eq_true_eq, decide_eq_false_iff_not, Bool.not_eq_true', Bool.not_eq_false', Bool.not_eq_eq_eq_not, Bool.not_true, Bool.not_false, beq_iff_eq, bne_iff_ne, ne_eq, beq_eq_false_iff_ne, bne_eq_false_iff_eq, gt_iff_lt, ge_iff_le, Int.not_lt, Int.not_le] at hc88
          refine c_seq (fun K45 hK45 => ?_)
          refine c_reg ?_ -- region 15 compm.go:475
          refine wl (ro_move rfl) ?_
          refine wl_call rfl en_64 (raise64 (z := mArith) hR.dr (by decide) hP hm) ?_
          rintro _ u27 ⟨rfl, ow27, x27, f27, r27⟩
          obtain ⟨h6, kh6⟩ := cm_loc x27 f27 h6 kh6
          obtain ⟨h7, kh7⟩ := cm_loc x27 f27 h7 kh7
          have hs27 := hF.size
          replace hF := cm_trans hX hF f27
          replace hX := hX.trans hs27 x27
          replace hR := r27
          refine wl_nil (x_then (hK45 _ _ ?_))
          clear hK45 K45
          refine c_ret (x_thenR ?_)
          refine bp_ret Tryz.results72 rfl ?_
          refine ⟨rfl, _, hX, hF, ?_⟩
          repeat (first | rw [if_pos (by omega)] | rw [if_neg (by omega)])
          try rw [show q + 10 - 10 = q by omega, hcv]
          first
          | exact hR.le (by omega)
          | exact hR
        · try simp only [decide_eq_true_eq, decide_eq_false_iff_not, Bool.not_eq_true', Bool.not_eq_false', Bool.not_eq_eq_eq_not, Bool.not_true, Bool.not_false, beq_iff_eq, bne_iff_ne, ne_eq, beq_eq_false_iff_ne, bne_eq_false_iff_eq, gt_iff_lt, ge_iff_le, Int.not_lt, Int.not_le] at hc88
          refine c_skip (x_then (hK42 _ _ ?_))
          clear hK42 K42
          refine forget [(0, _), (1, _), (6, _), (7, _)] ⟨rfl, rfl, rfl, rfl, trivial⟩ (fun e => ?_)
          refine c_seq (fun K46 hK46 => ?_)
          refine c_pi [(0, false), (1, false), (2, false), (3, false), (4, false), (5, false), (6, false), (7, false), (8, false), (9, true), (10, false)] (La b6 _ _ (La b7 _ _ (Lz rb _ _ _))) mixed (by kernel_rfl) rfl (by kernel_rfl) (po_then (po_bp)) (⟨h6, h7, hR.rz⟩) ?_ -- region 16 compm.go:478
          refine pi_ro rfl (fun w hS => ro_move rfl) ?_
          refine pi_ro rfl (fun w hS => ro_nilCheck rfl) ?_
          refine pi_ro rfl (fun w hS => ro_fieldAddr (k := 0) rfl fo_112_0) ?_
          refine pi_ro rfl (fun w hS => let ⟨_, hc⟩ := hS.2.2; ro_loadB rfl sc_46 hc rfl) ?_
          refine pi_ro rfl (fun w hS => ro_move rfl) ?_
          refine pi_ro rfl (fun w hS => ro_fieldAddr (k := 1) rfl fo_119_1) ?_
          refine pi_ro rfl (fun w hS => ro_loadB rfl sc_117 (hS.1) rfl) ?_
          refine pi_ro rfl (fun w hS => ro_fieldAddr (k := 1) rfl fo_119_1) ?_
          refine pi_ro rfl (fun w hS => ro_loadB rfl sc_117 (hS.2.1) rfl) ?_
          refine pi_call rfl rfl en_66 (Arith66 (op := (op : Int)) ha.w hb.w) ?_
          rintro _ _ ⟨rfl, rfl⟩
          refine ⟨⟨h6, h7, hR.rz⟩, ?_⟩
          refine pi_ro rfl (fun w hS => ro_assign rfl) ?_
          refine pi_nil (x_then (hK46 _ _ ?_))
          clear hK46 K46
          refine c_reg ?_ -- region 17 compm.go:479
          refine wl (ro_move rfl) ?_
          refine wl (ro_move rfl) ?_
          refine wl (ro_build rfl bld_119_0_1) ?_
          refine wl_call rfl en_67 (push67 (v := vNum (fAri (op : Int) a.N b.N)) hR.dr (by omega)) ?_
          rintro _ u28 ⟨rfl, ow28, x28, f28, r28⟩
          obtain ⟨h6, kh6⟩ := cm_loc x28 f28 h6 kh6
          obtain ⟨h7, kh7⟩ := cm_loc x28 f28 h7 kh7
          have hs28 := hF.size
          replace hF := cm_trans hX hF f28
          replace hX := hX.trans hs28 x28
          replace hR := r28
          refine wl_nil ?_
          refine bp_end Tryz.results72 rfl ?_
          refine ⟨rfl, _, hX, hF, ?_⟩
          repeat (first | rw [if_pos (by omega)] | rw [if_neg (by omega)])
          try rw [show q + 10 - 10 = q by omega, hcv]
          first
          | exact hR.le (by omega)
          | exact hR

end Go.Proofs.Qxb6500568aGreatDoor
