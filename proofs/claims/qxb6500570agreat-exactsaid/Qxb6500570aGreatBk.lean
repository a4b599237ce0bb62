import Derived.Test.Qxb6500570aGreatBj
import Derived.Test.Qxb6500570aGreatPk
/- The real former: the end of an expression. -/
namespace Go.Proofs.Qxb6500570aGreat
set_option linter.unusedVariables false
set_option linter.unusedSimpArgs false

theorem ubo {x : Option Value} {p q : Prop} [Decidable p] [Decidable q] (h : x = some (.bool (decide p))) (hpq : p ↔ q) : x = some (.bool (decide q)) := by rw [h]; exact congrArg (fun b => some (Value.bool b)) (decide_eq_decide.2 hpq)
theorem MkV.row {fo : Nat → Value} {n : Nat} {a : Int} {m : Mk} (h : ∀ (j : Nat) (v : Value), (mkc a m)[j]? = some v → fo (n * 5 + j) = v) (hk : n < 41) : ((cel 205 fo).drop (0 + n * 5)).take 5 = mkc a m := by
  rw [cel_sub (by omega)]
  apply List.ext_getElem?
  intro i
  by_cases hi : i < 5
  · rw [cel_get hi]
    obtain ⟨v, hv⟩ : ∃ v, (mkc a m)[i]? = some v := ⟨_, List.getElem?_eq_getElem (by simpa using hi)⟩
    rw [hv, ← h i v hv, Nat.zero_add]
  · rw [List.getElem?_eq_none (by rw [cel_len]; omega), List.getElem?_eq_none (by simp; omega)]
theorem nb_cons_le (m : Mk) (os : List Mk) : nb os ≤ nb (m :: os) := by
  show nb os ≤ (if m.k = 2 then 1 else 0) + nb os
  omega
abbrev ar1 (f : Nat) : Prop := f = 1 ∨ f = 2 ∨ f = 3 ∨ f = 4 ∨ f = 6 ∨ f = 7
abbrev ar2 (f : Nat) : Prop := f = 8 ∨ f = 9 ∨ f = 10
set_option maxHeartbeats 2000000 in
theorem Arity195 {w : World} {f n : Nat} : Ret Tryz.prog 195 [i64c f, i64c n] w (fun v w' => v = .bool (arity f n) ∧ w' = w) := by
  refine ret_of Tryz.func195 rfl Tryz.ntmps195 rfl ?_
  refine c_seq (fun K1 hK1 => ?_)
  refine c_reg ?_ -- region 0 const.go:250
  refine wl (ro_assign rfl) ?_
  refine wl_nil (x_then (hK1 _ _ ?_))
  clear hK1 K1
  refine c_seq (fun K2 hK2 => ?_)
  refine c_seq (fun K3 hK3 => ?_)
  refine c_reg ?_ -- region 1 const.go:251
  refine wl (ro_move rfl) ?_
  refine wl_nil (x_then (hK3 _ _ ?_))
  clear hK3 K3
  refine c_block ?_
  refine c_mid (fun a' w' => w' = w ∧ ∃ e, a' = Fr 25 (upds e [(1, i64c n), (5, i64c f), (6, .bool (decide (ar1 f)))]) []) ?_ ?_
  · skip
    refine c_seq (fun K4 hK4 => ?_)
    refine c_reg ?_ -- region 2 const.go:252
    refine wl (ro_cmp (r := decide (f = 1)) rfl rfl (congrArg some (beqc f 1))) ?_
    refine wl (ro_assign rfl) ?_
    refine wl_nil (x_then (hK4 _ _ ?_))
    clear hK4 K4
    refine wc_cond rfl (fun hc6 => ?_) (fun hc6 => ?_)
    · try simp only [decide_eq_true_eq, decide_eq_false_iff_not, Bool.not_eq_true', Bool.not_eq_false', Bool.not_eq_eq_eq_not, Bool.not_true, Bool.not_false, beq_iff_eq, bne_iff_ne, ne_eq, beq_eq_false_iff_ne, bne_eq_false_iff_eq, gt_iff_lt, ge_iff_le, Int.not_lt, Int.not_le] at hc6
      refine c_skip (x_then ?_)
      exact ⟨rfl, kp _ ⟨rfl, rfl, ubo rfl (by unfold ar1; omega), trivial⟩⟩
    · try simp only [decide_eq_true_eq, decide_eq_false_iff_not, Bool.not_eq_true', Bool.not_eq_false', Bool.not_eq_eq_eq_not, Bool.not_true, Bool.not_false, beq_iff_eq, bne_iff_ne, ne_eq, beq_eq_false_iff_ne, bne_eq_false_iff_eq, gt_iff_lt, ge_iff_le, Int.not_lt, Int.not_le] at hc6
      refine c_seq (fun K5 hK5 => ?_)
      refine c_reg ?_ -- region 3 const.go:252
      refine wl (ro_cmp (r := decide (f = 2)) rfl rfl (congrArg some (beqc f 2))) ?_
      refine wl (ro_assign rfl) ?_
      refine wl_nil (x_then (hK5 _ _ ?_))
      clear hK5 K5
      refine wc_cond rfl (fun hc6 => ?_) (fun hc6 => ?_)
      · try simp only [decide_eq_true_eq, decide_eq_false_iff_not, Bool.not_eq_true', Bool.not_eq_false', Bool.not_eq_eq_eq_not, Bool.not_true, Bool.not_false, beq_iff_eq, bne_iff_ne, ne_eq, beq_eq_false_iff_ne, bne_eq_false_iff_eq, gt_iff_lt, ge_iff_le, Int.not_lt, Int.not_le] at hc6
        refine c_skip (x_then ?_)
        exact ⟨rfl, kp _ ⟨rfl, rfl, ubo rfl (by unfold ar1; omega), trivial⟩⟩
      · try simp only [decide_eq_true_eq, decide_eq_false_iff_not, Bool.not_eq_true', Bool.not_eq_false', Bool.not_eq_eq_eq_not, Bool.not_true, Bool.not_false, beq_iff_eq, bne_iff_ne, ne_eq, beq_eq_false_iff_ne, bne_eq_false_iff_eq, gt_iff_lt, ge_iff_le, Int.not_lt, Int.not_le] at hc6
        refine c_seq (fun K6 hK6 => ?_)
        refine c_reg ?_ -- region 4 const.go:252
        refine wl (ro_cmp (r := decide (f = 3)) rfl rfl (congrArg some (beqc f 3))) ?_
        refine wl (ro_assign rfl) ?_
        refine wl_nil (x_then (hK6 _ _ ?_))
        clear hK6 K6
        refine wc_cond rfl (fun hc6 => ?_) (fun hc6 => ?_)
        · try simp only [decide_eq_true_eq, decide_eq_false_iff_not, Bool.not_eq_true', Bool.not_eq_false', Bool.not_eq_eq_eq_not, Bool.not_true, Bool.not_false, beq_iff_eq, bne_iff_ne, ne_eq, beq_eq_false_iff_ne, bne_eq_false_iff_eq, gt_iff_lt, ge_iff_le, Int.not_lt, Int.not_le] at hc6
          refine c_skip (x_then ?_)
          exact ⟨rfl, kp _ ⟨rfl, rfl, ubo rfl (by unfold ar1; omega), trivial⟩⟩
        · try simp only [decide_eq_true_eq, decide_eq_false_iff_not, Bool.not_eq_true', Bool.not_eq_false', Bool.not_eq_eq_eq_not, Bool.not_true, Bool.not_false, beq_iff_eq, bne_iff_ne, ne_eq, beq_eq_false_iff_ne, bne_eq_false_iff_eq, gt_iff_lt, ge_iff_le, Int.not_lt, Int.not_le] at hc6
          refine c_seq (fun K7 hK7 => ?_)
          refine c_reg ?_ -- region 5 const.go:252
          refine wl (ro_cmp (r := decide (f = 4)) rfl rfl (congrArg some (beqc f 4))) ?_
          refine wl (ro_assign rfl) ?_
          refine wl_nil (x_then (hK7 _ _ ?_))
          clear hK7 K7
          refine wc_cond rfl (fun hc6 => ?_) (fun hc6 => ?_)
          · try simp only [decide_eq_true_eq, decide_eq_false_iff_not, Bool.not_eq_true', Bool.not_eq_false', Bool.not_eq_eq_eq_not, Bool.not_true, Bool.not_false, beq_iff_eq, bne_iff_ne, ne_eq, beq_eq_false_iff_ne, bne_eq_false_iff_eq, gt_iff_lt, ge_iff_le, Int.not_lt, Int.not_le] at hc6
            refine c_skip (x_then ?_)
            exact ⟨rfl, kp _ ⟨rfl, rfl, ubo rfl (by unfold ar1; omega), trivial⟩⟩
          · try simp only [decide_eq_true_eq, decide_eq_false_iff_not, Bool.not_eq_true', Bool.not_eq_false', Bool.not_eq_eq_eq_not, Bool.not_true, Bool.not_false, beq_iff_eq, bne_iff_ne, ne_eq, beq_eq_false_iff_ne, bne_eq_false_iff_eq, gt_iff_lt, ge_iff_le, Int.not_lt, Int.not_le] at hc6
            refine c_seq (fun K8 hK8 => ?_)
            refine c_reg ?_ -- region 6 const.go:252
            refine wl (ro_cmp (r := decide (f = 6)) rfl rfl (congrArg some (beqc f 6))) ?_
            refine wl (ro_assign rfl) ?_
            refine wl_nil (x_then (hK8 _ _ ?_))
            clear hK8 K8
            refine wc_cond rfl (fun hc6 => ?_) (fun hc6 => ?_)
            · try simp only [decide_eq_true_eq, decide_eq_false_iff_not, Bool.not_eq_true', Bool.not_eq_false', Bool.not_eq_eq_eq_not, Bool.not_true, Bool.not_false, beq_iff_eq, bne_iff_ne, ne_eq, beq_eq_false_iff_ne, bne_eq_false_iff_eq, gt_iff_lt, ge_iff_le, Int.not_lt, Int.not_le] at hc6
              refine c_skip (x_then ?_)
              exact ⟨rfl, kp _ ⟨rfl, rfl, ubo rfl (by unfold ar1; omega), trivial⟩⟩
            · try simp only [decide_eq_true_eq, decide_eq_false_iff_not, Bool.not_eq_true', Bool.not_eq_false', Bool.not_eq_eq_eq_not, Bool.not_true, Bool.not_false, beq_iff_eq, bne_iff_ne, ne_eq, beq_eq_false_iff_ne, bne_eq_false_iff_eq, gt_iff_lt, ge_iff_le, Int.not_lt, Int.not_le] at hc6
              refine c_reg ?_ -- region 7 const.go:252
              refine wl (ro_cmp (r := decide (f = 7)) rfl rfl (congrArg some (beqc f 7))) ?_
              refine wl (ro_assign rfl) ?_
              refine wl_nil (x_then ?_)
              exact ⟨rfl, kp _ ⟨rfl, rfl, ubo rfl (by unfold ar1; omega), trivial⟩⟩
  rintro a' w2 ⟨rfl, e, rfl⟩
  refine wc_cond rfl (fun hc6 => ?_) (fun hc6 => ?_)
  · try simp only [decide_eq_true_eq, decide_eq_false_iff_not, Bool.not_eq_true', Bool.not_eq_false', Bool.not_eq_eq_eq_not, Bool.not_true, Bool.not_false, beq_iff_eq, bne_iff_ne, ne_eq, beq_eq_false_iff_ne, bne_eq_false_iff_eq, gt_iff_lt, ge_iff_le, Int.not_lt, Int.not_le] at hc6
    refine c_seq (fun K9 hK9 => ?_)
    refine c_reg ?_ -- region 8 const.go:253
    refine wl (ro_move rfl) ?_
    refine wl (ro_cmp (r := decide (1 ≤ n)) rfl rfl (congrArg some (decide_eq_decide.2 (by omega)))) ?_
    refine wl (ro_assign rfl) ?_
    refine wl_nil (x_then (hK9 _ _ ?_))
    clear hK9 K9
    refine c_ret (x_blkR (x_thenR ?_))
    refine bp_ret Tryz.results195 rfl ?_
    exact ⟨by unfold ar1 at hc6; unfold arity; rw [if_neg (by omega), if_neg (by omega), if_pos (by omega)], rfl⟩
  · try simp only [decide_eq_true_eq, decide_eq_false_iff_not, Bool.not_eq_true', Bool.not_eq_false', Bool.not_eq_eq_eq_not, Bool.not_true, Bool.not_false, beq_iff_eq, bne_iff_ne, ne_eq, beq_eq_false_iff_ne, bne_eq_false_iff_eq, gt_iff_lt, ge_iff_le, Int.not_lt, Int.not_le] at hc6
    refine c_seq (fun K10 hK10 => ?_)
    refine c_reg ?_ -- region 9 const.go:254
    refine wl (ro_cmp (r := decide (f = 5)) rfl rfl (congrArg some (beqc f 5))) ?_
    refine wl (ro_assign rfl) ?_
    refine wl_nil (x_then (hK10 _ _ ?_))
    clear hK10 K10
    refine wc_cond rfl (fun hc15 => ?_) (fun hc15 => ?_)
    · try simp only [decide_eq_true_eq, decide_eq_false_iff_not, Bool.not_eq_true', Bool.not_eq_false', Bool.not_eq_eq_eq_not, Bool.not_true, Bool.not_false, beq_iff_eq, bne_iff_ne, ne_eq, beq_eq_false_iff_ne, bne_eq_false_iff_eq, gt_iff_lt, ge_iff_le, Int.not_lt, Int.not_le] at hc15
      refine c_seq (fun K11 hK11 => ?_)
      refine c_reg ?_ -- region 10 const.go:255
      refine wl (ro_move rfl) ?_
      refine wl (ro_cmp (r := decide (n = 3)) rfl rfl (congrArg some (beqc n 3))) ?_
      refine wl (ro_assign rfl) ?_
      refine wl_nil (x_then (hK11 _ _ ?_))
      clear hK11 K11
      refine c_ret (x_blkR (x_thenR ?_))
      refine bp_ret Tryz.results195 rfl ?_
      exact ⟨by unfold arity; rw [if_pos (by omega)], rfl⟩
    · try simp only [decide_eq_true_eq, decide_eq_false_iff_not, Bool.not_eq_true', Bool.not_eq_false', Bool.not_eq_eq_eq_not, Bool.not_true, Bool.not_false, beq_iff_eq, bne_iff_ne, ne_eq, beq_eq_false_iff_ne, bne_eq_false_iff_eq, gt_iff_lt, ge_iff_le, Int.not_lt, Int.not_le] at hc15
      refine c_mid (fun a' w' => w' = w2 ∧ ∃ e, a' = Fr 25 (upds e [(1, i64c n), (19, .bool (decide (ar2 f)))]) []) ?_ ?_
      · skip
        refine c_seq (fun K12 hK12 => ?_)
        refine c_reg ?_ -- region 11 const.go:256
        refine wl (ro_cmp (r := decide (f = 8)) rfl rfl (congrArg some (beqc f 8))) ?_
        refine wl (ro_assign rfl) ?_
        refine wl_nil (x_then (hK12 _ _ ?_))
        clear hK12 K12
        refine wc_cond rfl (fun hc19 => ?_) (fun hc19 => ?_)
        · try simp only [decide_eq_true_eq, decide_eq_false_iff_not, Bool.not_eq_true', Bool.not_eq_false', Bool.not_eq_eq_eq_not, Bool.not_true, Bool.not_false, beq_iff_eq, bne_iff_ne, ne_eq, beq_eq_false_iff_ne, bne_eq_false_iff_eq, gt_iff_lt, ge_iff_le, Int.not_lt, Int.not_le] at hc19
          refine c_skip (x_then ?_)
          exact ⟨rfl, kp _ ⟨rfl, ubo rfl (by unfold ar2; omega), trivial⟩⟩
        · try simp only [decide_eq_true_eq, decide_eq_false_iff_not, Bool.not_eq_true', Bool.not_eq_false', Bool.not_eq_eq_eq_not, Bool.not_true, Bool.not_false, beq_iff_eq, bne_iff_ne, ne_eq, beq_eq_false_iff_ne, bne_eq_false_iff_eq, gt_iff_lt, ge_iff_le, Int.not_lt, Int.not_le] at hc19
          refine c_seq (fun K13 hK13 => ?_)
          refine c_reg ?_ -- region 12 const.go:256
          refine wl (ro_cmp (r := decide (f = 9)) rfl rfl (congrArg some (beqc f 9))) ?_
          refine wl (ro_assign rfl) ?_
          refine wl_nil (x_then (hK13 _ _ ?_))
          clear hK13 K13
          refine wc_cond rfl (fun hc19 => ?_) (fun hc19 => ?_)
          · try simp only [decide_eq_true_eq, decide_eq_false_iff_not, Bool.not_eq_true', Bool.not_eq_false', Bool.not_eq_eq_eq_not, Bool.not_true, Bool.not_false, beq_iff_eq, bne_iff_ne, ne_eq, beq_eq_false_iff_ne, bne_eq_false_iff_eq, gt_iff_lt, ge_iff_le, Int.not_lt, Int.not_le] at hc19
            refine c_skip (x_then ?_)
            exact ⟨rfl, kp _ ⟨rfl, ubo rfl (by unfold ar2; omega), trivial⟩⟩
          · try simp only [decide_eq_true_eq, decide_eq_false_iff_not, Bool.not_eq_true', Bool.not_eq_false', Bool.not_eq_eq_eq_not, Bool.not_true, Bool.not_false, beq_iff_eq, bne_iff_ne, ne_eq, beq_eq_false_iff_ne, bne_eq_false_iff_eq, gt_iff_lt, ge_iff_le, Int.not_lt, Int.not_le] at hc19
            refine c_reg ?_ -- region 13 const.go:256
            refine wl (ro_cmp (r := decide (f = 10)) rfl rfl (congrArg some (beqc f 10))) ?_
            refine wl (ro_assign rfl) ?_
            refine wl_nil (x_then ?_)
            exact ⟨rfl, kp _ ⟨rfl, ubo rfl (by unfold ar2; omega), trivial⟩⟩
      rintro a' w3 ⟨rfl, e, rfl⟩
      refine wc_cond rfl (fun hc19 => ?_) (fun hc19 => ?_)
      · try simp only [decide_eq_true_eq, decide_eq_false_iff_not, Bool.not_eq_true', Bool.not_eq_false', Bool.not_eq_eq_eq_not, Bool.not_true, Bool.not_false, beq_iff_eq, bne_iff_ne, ne_eq, beq_eq_false_iff_ne, bne_eq_false_iff_eq, gt_iff_lt, ge_iff_le, Int.not_lt, Int.not_le] at hc19
        refine c_seq (fun K14 hK14 => ?_)
        refine c_reg ?_ -- region 14 const.go:257
        refine wl (ro_move rfl) ?_
        refine wl (ro_cmp (r := decide (n = 1)) rfl rfl (congrArg some (beqc n 1))) ?_
        refine wl (ro_assign rfl) ?_
        refine wl_nil (x_then (hK14 _ _ ?_))
        clear hK14 K14
        refine c_ret (x_blkR (x_thenR ?_))
        refine bp_ret Tryz.results195 rfl ?_
        exact ⟨by unfold ar2 at hc19; unfold arity; rw [if_neg (by omega), if_pos (by omega)], rfl⟩
      · try simp only [decide_eq_true_eq, decide_eq_false_iff_not, Bool.not_eq_true', Bool.not_eq_false', Bool.not_eq_eq_eq_not, Bool.not_true, Bool.not_false, beq_iff_eq, bne_iff_ne, ne_eq, beq_eq_false_iff_ne, bne_eq_false_iff_eq, gt_iff_lt, ge_iff_le, Int.not_lt, Int.not_le] at hc19
        refine c_skip (x_blk (x_then (hK2 _ _ ?_)))
        clear hK2 K2
        refine forget [] trivial (fun e => ?_)
        refine c_seq (fun K15 hK15 => ?_)
        refine c_reg ?_ -- region 15 const.go:259
        refine wl (ro_assign rfl) ?_
        refine wl_nil (x_then (hK15 _ _ ?_))
        clear hK15 K15
        refine c_ret ?_
        refine bp_ret Tryz.results195 rfl ?_
        exact ⟨by unfold ar1 at hc6; unfold ar2 at hc19; unfold arity; rw [if_neg (by omega), if_neg (by omega), if_neg (by omega)], rfl⟩

/-- What the end of an expression leaves. -/
def CP (B : FB7) (T : List Tk) (k : Nat) (w' : World) (x : CX) : Prop := ∃ k', k' = (if x.tak = true then k + 1 else k) ∧ FW w' B T k' x.ar x.ov x.os x.hv x.dn x.bad

set_option maxHeartbeats 4000000 in
theorem close159 {w : World} {B : FB7} {T : List Tk} {k a te : Nat} {ar : List Nd} {ov : List Int} {os : List Mk} {bad : Bool} (ho : FBo B) (V : FW w B T k ar ov os true false bad) (hht : ov.length = nb os + 1) (hmn : Mn os) (hv1 : ov.length ≤ 41) (ho1 : os.length ≤ 41) :
    Ret Tryz.prog 159 [ptr B.f, .agg (tkc a te (hdT (T.drop k))).toArray] w (fun v w' => v = .tuple #[] ∧ CP B T k w' (closeX (hdT (T.drop k)).k bad ar ov os) ∧ Fram (fset B) w w') := by
  have hF : Fram (fset B) w w := Fram.refl _ _
  obtain ⟨pos, er, bd, wi, ft, fa, fv, fo, ⟨hB, hK, hA, hV, hO, htv, hav, hvv, hmv, hkT, hlT, hla⟩, hbad⟩ := V
  have hhd := hd_drop (T := T) (k := k)
  generalize htt : hdT (T.drop k) = t
  rw [htt] at hhd
  generalize hres : closeX t.k bad ar ov os = X
  have hm1 : fset B B.f := .inl rfl
  have hm5 : fset B B.o := .inr (.inr (.inr (.inr rfl)))
  refine ret_of Tryz.func159 rfl Tryz.ntmps159 rfl ?_
  refine c_seq (fun K1 hK1 => ?_)
  refine c_reg ?_ -- region 0 parse.go:205
  refine wl_box (cs := (tkc a te t)) rfl rfl (fun xb w1 hbxb hX F1 => ?_)
  have hbsxb := Nat.le_trans hF.size hbxb
  have hneB.fxb : B.f < xb := Nat.lt_of_lt_of_le hB.lt hbxb
  have hneB.txb : B.t < xb := Nat.lt_of_lt_of_le hK.lt hbxb
  have hneB.axb : B.a < xb := Nat.lt_of_lt_of_le hA.lt hbxb
  have hneB.vxb : B.v < xb := Nat.lt_of_lt_of_le hV.lt hbxb
  have hneB.oxb : B.o < xb := Nat.lt_of_lt_of_le hO.lt hbxb
  replace hF := hF.thenDrew.thenN F1
  replace hB := F1.blkN hB
  replace hK := F1.blkN hK
  replace hA := F1.blkN hA
  replace hV := F1.blkN hV
  replace hO := F1.blkN hO
  refine wl_nil (x_then (hK1 _ _ ?_))
  clear hK1 K1
  refine c_seq (fun K2 hK2 => ?_)
  refine c_seq (fun K3 hK3 => ?_)
  have hcs : os = [] ∨ (∃ m os', os = m :: os') := by
    cases os with
    | nil => exact .inl rfl
    | cons m os' => exact .inr ⟨m, os', rfl⟩
  rcases hcs with rfl | ⟨m, os', rfl⟩
  · skip
    refine c_reg ?_ -- region 1 parse.go:206
    refine wl (ro_move rfl) ?_
    refine wl (ro_nilCheck rfl) ?_
    refine wl (ro_fieldAddr (k := 9) rfl fo_83_9) ?_
    refine wl (ro_loadB rfl sc_3 (hB) (rfl)) ?_
    refine wl (ro_cmp (r := true) rfl rfl rfl) ?_
    refine wl_nil (x_then (hK3 _ _ ?_))
    clear hK3 K3
    refine wc_condT rfl ?_
    refine c_seq (fun K4 hK4 => ?_)
    refine c_seq (fun K5 hK5 => ?_)
    refine c_reg ?_ -- region 2 parse.go:207
    refine wl (ro_fieldAddr (k := 0) rfl fo_189_0) ?_
    refine wl (ro_loadB rfl sc_3 (hX) (rfl)) ?_
    refine wl (ro_cmp (r := decide (t.k ≠ 0)) rfl rfl (congrArg some (bnec t.k 0))) ?_
    refine wl_nil (x_then (hK5 _ _ ?_))
    clear hK5 K5
    refine wc_cond rfl (fun hc12 => ?_) (fun hc12 => ?_)
    · try simp only [decide_eq_true_eq, decide_eq_false_iff_not, Bool.not_eq_true', Bool.not_eq_false', Bool.not_eq_eq_eq_not, Bool.not_true, Bool.not_false, beq_iff_eq, bne_iff_ne, ne_eq, beq_eq_false_iff_ne, bne_eq_false_iff_eq, gt_iff_lt, ge_iff_le, Int.not_lt, Int.not_le] at hc12
      refine c_reg ?_ -- region 3 parse.go:208
      refine wl (ro_move rfl) ?_
      refine wl (ro_fieldAddr (k := 1) rfl fo_189_1) ?_
      refine wl (ro_loadB rfl sc_3 (hX) (rfl)) ?_
      refine wl_call rfl en_160 (fail160 (by decide) hB) ?_
      rintro _ u8 ⟨rfl, ⟨er7, bd7, hne7, hB⟩, G8⟩
      replace hF := hF.transG G8 (by intro k hk h; simp only [one, none', fa2, fset] at h ⊢ <;> omega)
      replace hK := G8.blkF hK (by intro h; simp only [one, none', fa2, fset, ho.all, or_self, false_or, or_false] at h <;> omega)
      replace hA := G8.blkF hA (by intro h; simp only [one, none', fa2, fset, ho.all, or_self, false_or, or_false] at h <;> omega)
      replace hV := G8.blkF hV (by intro h; simp only [one, none', fa2, fset, ho.all, or_self, false_or, or_false] at h <;> omega)
      replace hO := G8.blkF hO (by intro h; simp only [one, none', fa2, fset, ho.all, or_self, false_or, or_false] at h <;> omega)
      replace hX := G8.blkF hX (by intro h; simp only [one, none', fa2, fset, ho.all, or_self, false_or, or_false] at h <;> omega)
      refine wl_nil (x_then (hK4 _ _ ?_))
      clear hK4 K4
      refine forget [(0, _)] ⟨rfl, trivial⟩ (fun e => ?_)
      refine c_seq (fun K6 hK6 => ?_)
      refine c_reg ?_ -- region 4 parse.go:210
      refine wl (ro_move rfl) ?_
      refine wl (ro_nilCheck rfl) ?_
      refine wl (ro_fieldAddr (k := 11) rfl fo_83_11) ?_
      refine wl_put rfl rfl rfl sz_4 hB ((by simp)) ((show _ = fml B (T.length + 1) k pos ar.length ov.length 0 true true _ _ wi from rfl)) (fun w2 hB F2 => ?_)
      replace hF := hF.thenDrew.thenO F2 (by first | exact .inr (by omega) | exact .inl rfl | exact .inl (by assumption))
      replace hK := F2.blkO hK (by first | (simp only [ne_eq, ho.all, not_false_eq_true]; done) | omega)
      replace hA := F2.blkO hA (by first | (simp only [ne_eq, ho.all, not_false_eq_true]; done) | omega)
      replace hV := F2.blkO hV (by first | (simp only [ne_eq, ho.all, not_false_eq_true]; done) | omega)
      replace hO := F2.blkO hO (by first | (simp only [ne_eq, ho.all, not_false_eq_true]; done) | omega)
      replace hX := F2.blkO hX (by first | (simp only [ne_eq, ho.all, not_false_eq_true]; done) | omega)
      refine wl_nil (x_then (hK6 _ _ ?_))
      clear hK6 K6
      refine c_ret (x_thenR ?_)
      refine bp_ret Tryz.results159 rfl ?_
      refine ⟨rfl, ?_, hF⟩
      subst hres
      refine ⟨k, rfl, ?_⟩
      exact ⟨_, _, _, _, _, _, _, _, ⟨hB, hK, hA, hV, hO, htv, hav, hvv, hmv, hkT, hlT, hla⟩, by simp [closeX, hc12, hne7]⟩
    · try simp only [decide_eq_true_eq, decide_eq_false_iff_not, Bool.not_eq_true', Bool.not_eq_false', Bool.not_eq_eq_eq_not, Bool.not_true, Bool.not_false, beq_iff_eq, bne_iff_ne, ne_eq, beq_eq_false_iff_ne, bne_eq_false_iff_eq, gt_iff_lt, ge_iff_le, Int.not_lt, Int.not_le] at hc12
      refine c_skip (x_then (hK4 _ _ ?_))
      clear hK4 K4
      refine forget [(0, _)] ⟨rfl, trivial⟩ (fun e => ?_)
      refine c_seq (fun K7 hK7 => ?_)
      refine c_reg ?_ -- region 4 parse.go:210
      refine wl (ro_move rfl) ?_
      refine wl (ro_nilCheck rfl) ?_
      refine wl (ro_fieldAddr (k := 11) rfl fo_83_11) ?_
      refine wl_put rfl rfl rfl sz_4 hB ((by simp)) ((show _ = fml B (T.length + 1) k pos ar.length ov.length 0 true true _ _ wi from rfl)) (fun w3 hB F3 => ?_)
      replace hF := hF.thenDrew.thenO F3 (by first | exact .inr (by omega) | exact .inl rfl | exact .inl (by assumption))
      replace hK := F3.blkO hK (by first | (simp only [ne_eq, ho.all, not_false_eq_true]; done) | omega)
      replace hA := F3.blkO hA (by first | (simp only [ne_eq, ho.all, not_false_eq_true]; done) | omega)
      replace hV := F3.blkO hV (by first | (simp only [ne_eq, ho.all, not_false_eq_true]; done) | omega)
      replace hO := F3.blkO hO (by first | (simp only [ne_eq, ho.all, not_false_eq_true]; done) | omega)
      replace hX := F3.blkO hX (by first | (simp only [ne_eq, ho.all, not_false_eq_true]; done) | omega)
      refine wl_nil (x_then (hK7 _ _ ?_))
      clear hK7 K7
      refine c_ret (x_thenR ?_)
      refine bp_ret Tryz.results159 rfl ?_
      refine ⟨rfl, ?_, hF⟩
      subst hres
      refine ⟨k, rfl, ?_⟩
      exact ⟨_, _, _, _, _, _, _, _, ⟨hB, hK, hA, hV, hO, htv, hav, hvv, hmv, hkT, hlT, hla⟩, by simp [closeX, hc12, hbad]⟩
  · skip
    simp only [List.length_cons] at ho1
    obtain ⟨ma, hcel⟩ := hmv.top
    have hx0 : fo (os'.length * 5 + 0) = i64c m.k := hcel 0 _ rfl
    have hrow := MkV.row hcel ho1
    refine c_reg ?_ -- region 1 parse.go:206
    refine wl (ro_move rfl) ?_
    refine wl (ro_nilCheck rfl) ?_
    refine wl (ro_fieldAddr (k := 9) rfl fo_83_9) ?_
    refine wl (ro_loadB rfl sc_3 (hB) (rfl)) ?_
    refine wl (ro_cmp (r := false) rfl rfl (congrArg some ((beqc (os'.length + 1) 0).trans (decide_eq_false (by omega))))) ?_
    refine wl_nil (x_then (hK3 _ _ ?_))
    clear hK3 K3
    refine wc_condF rfl ?_
    refine c_skip (x_then (hK2 _ _ ?_))
    clear hK2 K2
    refine forget [(0, _), (3, _)] ⟨rfl, rfl, trivial⟩ (fun e => ?_)
    refine c_seq (fun K8 hK8 => ?_)
    refine c_piL 12 [(0, false), (1, false), (2, false), (3, false), (4, false), (5, false), (6, false), (7, false), (8, false), (9, false), (10, false), (11, true)] (fun w' => Blk w'.heap B.f (fml B (T.length + 1) k pos ar.length ov.length (os'.length + 1) true false er bd wi) 83 ∧ FB w'.heap B.o 205 fo 197) mixed (by kernel_rfl) rfl (by kernel_rfl) (po_then (po_bp)) (⟨hB, hO⟩) ?_ -- region 5 parse.go:213
    refine ql_ro rfl (fun w hS => ro_move rfl) ?_
    refine ql_ro rfl (fun w hS => ro_nilCheck rfl) ?_
    refine ql_ro rfl (fun w hS => ro_fieldAddr (k := 8) rfl fo_83_8) ?_
    refine ql_ro rfl (fun w hS => ro_loadB rfl sc_80 (hS.1) (rfl)) ?_
    refine ql_ro rfl (fun w hS => ro_move rfl) ?_
    refine ql_ro rfl (fun w hS => ro_nilCheck rfl) ?_
    refine ql_ro rfl (fun w hS => ro_fieldAddr (k := 9) rfl fo_83_9) ?_
    refine ql_ro rfl (fun w hS => ro_loadB rfl sc_3 (hS.1) (rfl)) ?_
    refine ql_ro rfl (fun w hS => ro_arith (r := (os'.length : Int)) rfl rfl (congrArg some (by show ((os'.length + 1 : Nat) : Int) - 1 = _; omega)) (Go.IntWalk.i64_in _ (by omega))) ?_
    refine ql_ro rfl (fun w hS => ro_indexAddr (et := 197) (k := 5) rfl rfl se_80 (rfl) ((by omega : os'.length < 41))) ?_
    refine ql_ro rfl (fun w hS => ro_loadAggB rfl ag_197 (hS.2) (rfl) (hrow)) ?_
    refine ql_new rfl ze_197 (fun w1 F ↦ ⟨F.blkN hB, F.blkN hO⟩) ?_
    intro mb w4 hbmb hM F4
    have hbsmb := Nat.le_trans hF.size hbmb
    have hneB.fmb : B.f < mb := Nat.lt_of_lt_of_le hB.lt hbmb
    have hneB.tmb : B.t < mb := Nat.lt_of_lt_of_le hK.lt hbmb
    have hneB.amb : B.a < mb := Nat.lt_of_lt_of_le hA.lt hbmb
    have hneB.vmb : B.v < mb := Nat.lt_of_lt_of_le hV.lt hbmb
    have hneB.omb : B.o < mb := Nat.lt_of_lt_of_le hO.lt hbmb
    have hnexbmb : xb < mb := Nat.lt_of_lt_of_le hX.lt hbmb
    replace hF := hF.thenDrew.thenN F4
    replace hB := F4.blkN hB
    replace hK := F4.blkN hK
    replace hA := F4.blkN hA
    replace hV := F4.blkN hV
    replace hO := F4.blkN hO
    replace hX := F4.blkN hX
    refine ql_puta rfl rfl rfl ((mkc_cells ma m)) sz_197 (rfl) hM ((by simp)) (rfl) (fun w5 hM F5 => ?_)
    replace hF := hF.thenDrew.thenO F5 (by first | exact .inr (by omega) | exact .inl rfl | exact .inl (by assumption))
    replace hB := F5.blkO hB (by first | (simp only [ne_eq, ho.all, not_false_eq_true]; done) | omega)
    replace hK := F5.blkO hK (by first | (simp only [ne_eq, ho.all, not_false_eq_true]; done) | omega)
    replace hA := F5.blkO hA (by first | (simp only [ne_eq, ho.all, not_false_eq_true]; done) | omega)
    replace hV := F5.blkO hV (by first | (simp only [ne_eq, ho.all, not_false_eq_true]; done) | omega)
    replace hO := F5.blkO hO (by first | (simp only [ne_eq, ho.all, not_false_eq_true]; done) | omega)
    replace hX := F5.blkO hX (by first | (simp only [ne_eq, ho.all, not_false_eq_true]; done) | omega)
    refine x_then (hK8 _ _ ?_)
    clear hK8 K8
    refine c_mid (fun a' w' => ∃ (m1 : Mk) (ar1 : List Nd) (ov1 : List Int) (bad1 : Bool) (pos er bd wi : Int) (fa fo : Nat → Value), shutX m1 t.k bad1 ar1 ov1 os' = X ∧ (m1.k = 3 → ov1.length = nb os' + 1) ∧ (m1.k ≠ 3 → arity m1.o m1.n = true → ov1.length = nb os') ∧ ov1.length ≤ 41 ∧ (ov1.length = nb os' → ov1.length < 41) ∧ Blk w'.heap B.f (fml B (T.length + 1) k pos ar1.length ov1.length (os'.length + 1) true false er bd wi) 83 ∧ FB w'.heap B.t 369 ft 189 ∧ FB w'.heap B.a 312 fa 143 ∧ FB w'.heap B.v 41 fv 3 ∧ FB w'.heap B.o 205 fo 197 ∧ Blk w'.heap xb (tkc a te t) 189 ∧ Blk w'.heap mb (mkc ma m1) 197 ∧ NdV fa ar1 ∧ OvV fv ov1 ∧ MkV fo (m1 :: os') ∧ ar1.length ≤ 24 ∧ decide (er ≠ 0) = bad1 ∧ Fram (fset B) w w' ∧ ∃ e, a' = Fr 120 (upds e [(0, ptr B.f), (3, ptr xb), (4, ptr mb)]) []) ?_ ?_
    · skip
      refine c_seq (fun K9 hK9 => ?_)
      refine c_reg ?_ -- region 6 parse.go:214
      refine wl (ro_fieldAddr (k := 0) rfl fo_197_0) ?_
      refine wl (ro_loadB rfl sc_3 (hM) (rfl)) ?_
      refine wl (ro_cmp (r := decide (m.k = 4)) rfl rfl (congrArg some (beqc m.k 4))) ?_
      refine wl_nil (x_then (hK9 _ _ ?_))
      clear hK9 K9
      refine wc_cond rfl (fun hc33 => ?_) (fun hc33 => ?_)
      · try simp only [decide_eq_true_eq, decide_eq_false_iff_not, Bool.not_eq_true', Bool.not_eq_false', Bool.not_eq_eq_eq_not, Bool.not_true, Bool.not_false, beq_iff_eq, bne_iff_ne, ne_eq, beq_eq_false_iff_ne, bne_eq_false_iff_eq, gt_iff_lt, ge_iff_le, Int.not_lt, Int.not_le] at hc33
        have hnb : nb (m :: os') = nb os' := by simp [nb, hc33]
        rw [hnb] at hht
        obtain ⟨v, ov', hov⟩ : ∃ v ov', ov = v :: ov' := by
          cases ov with
          | nil => simp at hht
          | cons v ov' => exact ⟨v, ov', rfl⟩
        rw [hov] at hht hres hvv hB hv1
        simp only [List.length_cons] at hht hv1
        have hyv : fv ov'.length = icv v := hvv.top
        have hn24 : m.n ≤ 24 := (hmn m (by simp)).2
        refine c_seq (fun K10 hK10 => ?_)
        refine c_reg ?_ -- region 7 parse.go:215
        refine wl (ro_move rfl) ?_
        refine wl (ro_nilCheck rfl) ?_
        refine wl (ro_fieldAddr (k := 7) rfl fo_83_7) ?_
        refine wl (ro_loadB rfl sc_3 (hB) (rfl)) ?_
        refine wl (ro_arith (r := (ov'.length : Int)) rfl rfl (congrArg some (by show ((ov'.length + 1 : Nat) : Int) - 1 = _; omega)) (Go.IntWalk.i64_in _ (by omega))) ?_
        refine wl (ro_nilCheck rfl) ?_
        refine wl (ro_fieldAddr (k := 7) rfl fo_83_7) ?_
        refine wl_put rfl rfl rfl sz_3 hB ((by simp)) ((show _ = fml B (T.length + 1) k pos ar.length ov'.length (os'.length + 1) true false er bd wi from rfl)) (fun w6 hB F6 => ?_)
        replace hF := hF.thenDrew.thenO F6 (by first | exact .inr (by omega) | exact .inl rfl | exact .inl (by assumption))
        replace hK := F6.blkO hK (by first | (simp only [ne_eq, ho.all, not_false_eq_true]; done) | omega)
        replace hA := F6.blkO hA (by first | (simp only [ne_eq, ho.all, not_false_eq_true]; done) | omega)
        replace hV := F6.blkO hV (by first | (simp only [ne_eq, ho.all, not_false_eq_true]; done) | omega)
        replace hO := F6.blkO hO (by first | (simp only [ne_eq, ho.all, not_false_eq_true]; done) | omega)
        replace hX := F6.blkO hX (by first | (simp only [ne_eq, ho.all, not_false_eq_true]; done) | omega)
        replace hM := F6.blkO hM (by first | (simp only [ne_eq, ho.all, not_false_eq_true]; done) | omega)
        refine wl_nil (x_then (hK10 _ _ ?_))
        clear hK10 K10
        refine forget [(0, _), (3, _), (4, _)] ⟨rfl, rfl, rfl, trivial⟩ (fun e => ?_)
        refine c_seq (fun K11 hK11 => ?_)
        refine c_piL 16 [(0, false), (1, false), (2, false), (3, false), (4, false), (5, false), (6, false), (7, false), (8, false), (9, false), (10, false), (11, false), (12, false), (13, false), (14, true), (15, false)] (fun w' => SF w' B (T.length + 1) k pos ov'.length (os'.length + 1) true false wi ∧ FB w'.heap B.v 41 fv 3 ∧ Blk w'.heap mb (mkc ma m) 197) mixed (by kernel_rfl) rfl (by kernel_rfl) (po_then (po_then (po_bp))) (⟨⟨_, _, _, hB⟩, hV, hM⟩) ?_ -- region 8 parse.go:216
        refine ql_ro rfl (fun w hS => ro_move rfl) ?_
        refine ql_ro rfl (fun w hS => ro_move rfl) ?_
        refine ql_ro rfl (fun w hS => ro_nilCheck rfl) ?_
        refine ql_ro rfl (fun w hS => ro_fieldAddr (k := 6) rfl fo_83_6) ?_
        refine ql_ro rfl (fun w hS => ro_loadX rfl sc_79 (hS.1.ld (by decide) rfl)) ?_
        refine ql_ro rfl (fun w hS => ro_move rfl) ?_
        refine ql_ro rfl (fun w hS => ro_nilCheck rfl) ?_
        refine ql_ro rfl (fun w hS => ro_fieldAddr (k := 7) rfl fo_83_7) ?_
        refine ql_ro rfl (fun w hS => ro_loadX rfl sc_3 (hS.1.ld (by decide) rfl)) ?_
        refine ql_ro rfl (fun w hS => ro_indexAddr (et := 3) (k := 1) rfl rfl se_79 (rfl) ((by omega : ov'.length < 41))) ?_
        refine ql_ro rfl (fun w hS => ro_loadB rfl sc_3 (hS.2.1) (cel_at (k := ov'.length) (by omega) (by omega) hyv)) ?_
        refine ql_ro rfl (fun w hS => ro_fieldAddr (k := 4) rfl fo_197_4) ?_
        refine ql_ro rfl (fun w hS => ro_loadB rfl sc_3 (hS.2.2) (rfl)) ?_
        refine ql_ro rfl (fun w hS => ro_build rfl bld_143_0_2_3) ?_
        refine ql_call rfl rfl en_193 (add193 (x := nArgI v m.l) ho hla hB hA hav) ?_
        rintro _ w9 ⟨rfl, ⟨⟨er', bd', hbd', hB⟩, ⟨fa', hA, hav⟩⟩, F9⟩
        replace hF := hF.transG F9 (by intro k hk h; simp only [one, none', fa2, fset] at h ⊢ <;> omega)
        replace hK := F9.blkF hK (by intro h; simp only [one, none', fa2, fset, ho.all, or_self, false_or, or_false] at h <;> omega)
        replace hV := F9.blkF hV (by intro h; simp only [one, none', fa2, fset, ho.all, or_self, false_or, or_false] at h <;> omega)
        replace hO := F9.blkF hO (by intro h; simp only [one, none', fa2, fset, ho.all, or_self, false_or, or_false] at h <;> omega)
        replace hX := F9.blkF hX (by intro h; simp only [one, none', fa2, fset, ho.all, or_self, false_or, or_false] at h <;> omega)
        replace hM := F9.blkF hM (by intro h; simp only [one, none', fa2, fset, ho.all, or_self, false_or, or_false] at h <;> omega)
        refine ⟨⟨⟨_, _, _, hB⟩, hV, hM⟩, ?_⟩
        rw [hbad] at hbd' hB hav ⊢
        refine ql_ro rfl (fun w hS => ro_fieldAddr (k := 4) rfl fo_197_4) ?_
        refine ql_put rfl rfl rfl rfl sz_3 hM ((by simp)) (rfl) (fun w7 hM F7 => ?_)
        replace hF := hF.thenDrew.thenO F7 (by first | exact .inr (by omega) | exact .inl rfl | exact .inl (by assumption))
        replace hB := F7.blkO hB (by first | (simp only [ne_eq, ho.all, not_false_eq_true]; done) | omega)
        replace hK := F7.blkO hK (by first | (simp only [ne_eq, ho.all, not_false_eq_true]; done) | omega)
        replace hA := F7.blkO hA (by first | (simp only [ne_eq, ho.all, not_false_eq_true]; done) | omega)
        replace hV := F7.blkO hV (by first | (simp only [ne_eq, ho.all, not_false_eq_true]; done) | omega)
        replace hO := F7.blkO hO (by first | (simp only [ne_eq, ho.all, not_false_eq_true]; done) | omega)
        replace hX := F7.blkO hX (by first | (simp only [ne_eq, ho.all, not_false_eq_true]; done) | omega)
        refine x_then (hK11 _ _ ?_)
        clear hK11 K11
        refine forget [(0, _), (3, _), (4, _)] ⟨rfl, rfl, rfl, trivial⟩ (fun e => ?_)
        refine c_seq (fun K12 hK12 => ?_)
        refine c_reg ?_ -- region 9 parse.go:217
        refine wl (ro_fieldAddr (k := 3) rfl fo_197_3) ?_
        refine wl (ro_loadB rfl sc_3 (hM) (rfl)) ?_
        refine wl (ro_arith (r := ((m.n + 1 : Nat) : Int)) rfl rfl rfl (Go.IntWalk.i64_in _ (by omega))) ?_
        refine wl (ro_fieldAddr (k := 3) rfl fo_197_3) ?_
        refine wl_put rfl rfl rfl sz_3 hM ((by simp)) ((show _ = mkc ma ⟨m.k, m.o, m.n + 1, (addX bad ar (nArgI v m.l)).2.2⟩ from rfl)) (fun w8 hM F8 => ?_)
        replace hF := hF.thenDrew.thenO F8 (by first | exact .inr (by omega) | exact .inl rfl | exact .inl (by assumption))
        replace hB := F8.blkO hB (by first | (simp only [ne_eq, ho.all, not_false_eq_true]; done) | omega)
        replace hK := F8.blkO hK (by first | (simp only [ne_eq, ho.all, not_false_eq_true]; done) | omega)
        replace hA := F8.blkO hA (by first | (simp only [ne_eq, ho.all, not_false_eq_true]; done) | omega)
        replace hV := F8.blkO hV (by first | (simp only [ne_eq, ho.all, not_false_eq_true]; done) | omega)
        replace hO := F8.blkO hO (by first | (simp only [ne_eq, ho.all, not_false_eq_true]; done) | omega)
        replace hX := F8.blkO hX (by first | (simp only [ne_eq, ho.all, not_false_eq_true]; done) | omega)
        refine wl_nil (x_then (hK12 _ _ ?_))
        clear hK12 K12
        refine forget [(0, _), (3, _), (4, _)] ⟨rfl, rfl, rfl, trivial⟩ (fun e => ?_)
        refine c_seq (fun K13 hK13 => ?_)
        refine c_piL 11 [(0, false), (1, false), (2, false), (3, false), (4, false), (5, false), (6, false), (7, false), (8, false), (9, false), (10, false)] (SameH _) mixed (by kernel_rfl) rfl (by kernel_rfl) (po_then (po_then (po_bp))) (sameH_now _ _) ?_ -- region 10 parse.go:218
        refine ql_ro rfl (fun w hS => ro_move rfl) ?_
        refine ql_ro rfl (fun w hS => ro_nilCheck rfl) ?_
        refine ql_ro rfl (fun w hS => ro_fieldAddr (k := 8) rfl fo_83_8) ?_
        refine ql_ro rfl (fun w hS => ro_loadB rfl sc_80 (Blk.of_heap hB hS) (rfl)) ?_
        refine ql_ro rfl (fun w hS => ro_move rfl) ?_
        refine ql_ro rfl (fun w hS => ro_nilCheck rfl) ?_
        refine ql_ro rfl (fun w hS => ro_fieldAddr (k := 9) rfl fo_83_9) ?_
        refine ql_ro rfl (fun w hS => ro_loadB rfl sc_3 (Blk.of_heap hB hS) (rfl)) ?_
        refine ql_ro rfl (fun w hS => ro_arith (r := (os'.length : Int)) rfl rfl (congrArg some (by show ((os'.length + 1 : Nat) : Int) - 1 = _; omega)) (Go.IntWalk.i64_in _ (by omega))) ?_
        refine ql_ro rfl (fun w hS => ro_loadAggB rfl ag_197 (Blk.of_heap hM hS) (rfl) (rfl)) ?_
        refine ql_ro rfl (fun w hS => ro_indexAddr (et := 197) (k := 5) rfl rfl se_80 (rfl) ((by omega : os'.length < 41))) ?_
        refine ql_puta rfl rfl rfl ((mkc_cells _ _)) sz_197 (rfl) hO ((by rw [cel_len]; show _ + 5 ≤ _; omega)) ((cel_puts (os'.length * 5) (by omega) rfl (by show _ + 5 ≤ _; omega))) (fun w9 hO F9 => ?_)
        replace hF := hF.thenDrew.thenO F9 (by first | exact .inr (by omega) | exact .inl rfl | exact .inl (by assumption))
        replace hB := F9.blkO hB (by first | (simp only [ne_eq, ho.all, not_false_eq_true]; done) | omega)
        replace hK := F9.blkO hK (by first | (simp only [ne_eq, ho.all, not_false_eq_true]; done) | omega)
        replace hA := F9.blkO hA (by first | (simp only [ne_eq, ho.all, not_false_eq_true]; done) | omega)
        replace hV := F9.blkO hV (by first | (simp only [ne_eq, ho.all, not_false_eq_true]; done) | omega)
        replace hX := F9.blkO hX (by first | (simp only [ne_eq, ho.all, not_false_eq_true]; done) | omega)
        replace hM := F9.blkO hM (by first | (simp only [ne_eq, ho.all, not_false_eq_true]; done) | omega)
        refine x_then (hK13 _ _ ?_)
        clear hK13 K13
        refine forget [(0, _), (3, _), (4, _)] ⟨rfl, rfl, rfl, trivial⟩ (fun e => ?_)
        refine c_seq (fun K14 hK14 => ?_)
        refine c_reg ?_ -- region 11 parse.go:219
        refine wl (ro_fieldAddr (k := 0) rfl fo_189_0) ?_
        refine wl (ro_loadB rfl sc_3 (hX) (rfl)) ?_
        refine wl (ro_cmp (r := decide (t.k = 44)) rfl rfl (congrArg some (beqc t.k 44))) ?_
        refine wl_nil (x_then (hK14 _ _ ?_))
        clear hK14 K14
        refine wc_cond rfl (fun hc74 => ?_) (fun hc74 => ?_)
        · try simp only [decide_eq_true_eq, decide_eq_false_iff_not, Bool.not_eq_true', Bool.not_eq_false', Bool.not_eq_eq_eq_not, Bool.not_true, Bool.not_false, beq_iff_eq, bne_iff_ne, ne_eq, beq_eq_false_iff_ne, bne_eq_false_iff_eq, gt_iff_lt, ge_iff_le, Int.not_lt, Int.not_le] at hc74
          obtain ⟨hkl, hdr⟩ := hhd (by omega)
          refine c_seq (fun K15 hK15 => ?_)
          refine c_reg ?_ -- region 12 parse.go:220
          refine wl (ro_move rfl) ?_
          refine wl_call rfl en_161 (take161 ho hkT hlT hB hK htv) ?_
          rintro _ u3 ⟨rfl, ⟨pos1, hB⟩, G3⟩
          replace hF := hF.transG G3 (by intro k hk h; simp only [one, none', fa2, fset] at h ⊢ <;> omega)
          replace hK := G3.blkF hK (by intro h; simp only [one, none', fa2, fset, ho.all, or_self, false_or, or_false] at h <;> omega)
          replace hA := G3.blkF hA (by intro h; simp only [one, none', fa2, fset, ho.all, or_self, false_or, or_false] at h <;> omega)
          replace hV := G3.blkF hV (by intro h; simp only [one, none', fa2, fset, ho.all, or_self, false_or, or_false] at h <;> omega)
          replace hO := G3.blkF hO (by intro h; simp only [one, none', fa2, fset, ho.all, or_self, false_or, or_false] at h <;> omega)
          replace hX := G3.blkF hX (by intro h; simp only [one, none', fa2, fset, ho.all, or_self, false_or, or_false] at h <;> omega)
          replace hM := G3.blkF hM (by intro h; simp only [one, none', fa2, fset, ho.all, or_self, false_or, or_false] at h <;> omega)
          refine wl_nil (x_then (hK15 _ _ ?_))
          clear hK15 K15
          refine forget [(0, _)] ⟨rfl, trivial⟩ (fun e => ?_)
          refine c_seq (fun K16 hK16 => ?_)
          refine c_reg ?_ -- region 13 parse.go:221
          refine wl (ro_move rfl) ?_
          refine wl (ro_nilCheck rfl) ?_
          refine wl (ro_fieldAddr (k := 10) rfl fo_83_10) ?_
          refine wl_put rfl rfl rfl sz_4 hB ((by simp)) ((show _ = fml B (T.length + 1) (k + 1) pos1 _ ov'.length (os'.length + 1) false false _ _ wi from rfl)) (fun w10 hB F10 => ?_)
          replace hF := hF.thenDrew.thenO F10 (by first | exact .inr (by omega) | exact .inl rfl | exact .inl (by assumption))
          replace hK := F10.blkO hK (by first | (simp only [ne_eq, ho.all, not_false_eq_true]; done) | omega)
          replace hA := F10.blkO hA (by first | (simp only [ne_eq, ho.all, not_false_eq_true]; done) | omega)
          replace hV := F10.blkO hV (by first | (simp only [ne_eq, ho.all, not_false_eq_true]; done) | omega)
          replace hO := F10.blkO hO (by first | (simp only [ne_eq, ho.all, not_false_eq_true]; done) | omega)
          replace hX := F10.blkO hX (by first | (simp only [ne_eq, ho.all, not_false_eq_true]; done) | omega)
          replace hM := F10.blkO hM (by first | (simp only [ne_eq, ho.all, not_false_eq_true]; done) | omega)
          refine wl_nil (x_then (hK16 _ _ ?_))
          clear hK16 K16
          refine c_ret (x_thenR ?_)
          refine bp_ret Tryz.results159 rfl ?_
          refine ⟨rfl, ?_, hF⟩
          subst hres
          refine ⟨k + 1, ?_, ?_⟩
          · simp [closeX, hc33, hc74]
          · have : closeX t.k bad ar (v :: ov') (m :: os') = ⟨(addX bad ar (nArgI v m.l)).1, true, (addX bad ar (nArgI v m.l)).2.1, ov', ⟨4, m.o, m.n + 1, (addX bad ar (nArgI v m.l)).2.2⟩ :: os', false, false⟩ := by simp only [closeX, hc33, hc74, if_true]
            rw [this]
            rw [hc33] at hO
            exact ⟨_, _, _, _, _, _, _, _, ⟨hB, hK, hA, hV, hO, htv, hav, hvv.tail, hmv.tail.push _ _, by omega, hlT, addX_len hla⟩, hbd'⟩
        · try simp only [decide_eq_true_eq, decide_eq_false_iff_not, Bool.not_eq_true', Bool.not_eq_false', Bool.not_eq_eq_eq_not, Bool.not_true, Bool.not_false, beq_iff_eq, bne_iff_ne, ne_eq, beq_eq_false_iff_ne, bne_eq_false_iff_eq, gt_iff_lt, ge_iff_le, Int.not_lt, Int.not_le] at hc74
          refine c_skip (x_then ?_)
          rcases Classical.em (m.k = 4) with hm4 | hm4
          · first
              | exact absurd hm4 hc33
              | refine ⟨⟨m.k, m.o, m.n + 1, (addX bad ar (nArgI v m.l)).2.2⟩, _, _, _, _, _, _, _, _, _, ?_, fun h => ?_, fun h h2 => by omega, by omega, fun _ => by omega, hB, hK, hA, hV, hO, hX, hM, hav, hvv.tail, hmv.tail.push _ _, addX_len hla, hbd', hF.thenDrew, kp _ ⟨rfl, rfl, rfl, trivial⟩⟩
                · rw [← hres, hm4]; simp only [closeX, hm4, hc74, if_true, if_false]
                · exact absurd h (by show m.k ≠ 3; omega)
          · first
              | exact absurd hc33 hm4
              | refine ⟨m, _, _, _, _, _, _, _, _, _, ?_, fun h => ?_, fun h h2 => ?_, hv1, fun hl => ?_, hB, hK, hA, hV, hO, hX, hM, hav, hvv, hmv, hla, hbad, hF.thenDrew, kp _ ⟨rfl, rfl, rfl, trivial⟩⟩
                · rw [← hres]; simp only [closeX, hc33, if_false]
                · have hnb : nb (m :: os') = nb os' := by simp [nb, h]
                  omega
                · rw [(hmn m (by simp)).1 hc33, arity0] at h2; cases h2
                · have := nb_cons_le m os'
                  omega
      · try simp only [decide_eq_true_eq, decide_eq_false_iff_not, Bool.not_eq_true', Bool.not_eq_false', Bool.not_eq_eq_eq_not, Bool.not_true, Bool.not_false, beq_iff_eq, bne_iff_ne, ne_eq, beq_eq_false_iff_ne, bne_eq_false_iff_eq, gt_iff_lt, ge_iff_le, Int.not_lt, Int.not_le] at hc33
        refine c_skip (x_then ?_)
        rcases Classical.em (m.k = 4) with hm4 | hm4
        · first
            | exact absurd hm4 hc33
            | refine ⟨⟨m.k, m.o, m.n + 1, (addX bad ar (nArgI v m.l)).2.2⟩, _, _, _, _, _, _, _, _, _, ?_, fun h => ?_, fun h h2 => by omega, by omega, fun _ => by omega, hB, hK, hA, hV, hO, hX, hM, hav, hvv.tail, hmv.tail.push _ _, addX_len hla, hbd', hF.thenDrew, kp _ ⟨rfl, rfl, rfl, trivial⟩⟩
              · rw [← hres, hm4]; simp only [closeX, hm4, hc74, if_true, if_false]
              · exact absurd h (by show m.k ≠ 3; omega)
        · first
            | exact absurd hc33 hm4
            | refine ⟨m, _, _, _, _, _, _, _, _, _, ?_, fun h => ?_, fun h h2 => ?_, hv1, fun hl => ?_, hB, hK, hA, hV, hO, hX, hM, hav, hvv, hmv, hla, hbad, hF.thenDrew, kp _ ⟨rfl, rfl, rfl, trivial⟩⟩
              · rw [← hres]; simp only [closeX, hc33, if_false]
              · have hnb : nb (m :: os') = nb os' := by simp [nb, h]
                omega
              · rw [(hmn m (by simp)).1 hc33, arity0] at h2; cases h2
              · have := nb_cons_le m os'
                omega
    clear hB hK hA hV hO hX hM hF hav hvv hmv hla hbad
    rintro a' u2 ⟨m1, ar1, ov1, bad1, pos, er, bd, wi, fa, fo, hres1, hh3, hh4, hl1, hl2, hB, hK, hA, hV, hO, hX, hM, hav, hvv, hmv, hla, hbad, hF, e, rfl⟩
    refine c_seq (fun K17 hK17 => ?_)
    refine c_seq (fun K18 hK18 => ?_)
    refine c_reg ?_ -- region 14 parse.go:225
    refine wl (ro_fieldAddr (k := 0) rfl fo_189_0) ?_
    refine wl (ro_loadB rfl sc_3 (hX) (rfl)) ?_
    refine wl (ro_cmp (r := decide (t.k ≠ 41)) rfl rfl (congrArg some (bnec t.k 41))) ?_
    refine wl_nil (x_then (hK18 _ _ ?_))
    clear hK18 K18
    refine wc_cond rfl (fun hc82 => ?_) (fun hc82 => ?_)
    · try simp only [decide_eq_true_eq, decide_eq_false_iff_not, Bool.not_eq_true', Bool.not_eq_false', Bool.not_eq_eq_eq_not, Bool.not_true, Bool.not_false, beq_iff_eq, bne_iff_ne, ne_eq, beq_eq_false_iff_ne, bne_eq_false_iff_eq, gt_iff_lt, ge_iff_le, Int.not_lt, Int.not_le] at hc82
      refine c_seq (fun K19 hK19 => ?_)
      refine c_reg ?_ -- region 15 parse.go:226
      refine wl (ro_move rfl) ?_
      refine wl (ro_fieldAddr (k := 1) rfl fo_189_1) ?_
      refine wl (ro_loadB rfl sc_3 (hX) (rfl)) ?_
      refine wl_call rfl en_160 (fail160 (by decide) hB) ?_
      rintro _ u8 ⟨rfl, ⟨er7, bd7, hne7, hB⟩, G8⟩
      replace hF := hF.transG G8 (by intro k hk h; simp only [one, none', fa2, fset] at h ⊢ <;> omega)
      replace hK := G8.blkF hK (by intro h; simp only [one, none', fa2, fset, ho.all, or_self, false_or, or_false] at h <;> omega)
      replace hA := G8.blkF hA (by intro h; simp only [one, none', fa2, fset, ho.all, or_self, false_or, or_false] at h <;> omega)
      replace hV := G8.blkF hV (by intro h; simp only [one, none', fa2, fset, ho.all, or_self, false_or, or_false] at h <;> omega)
      replace hO := G8.blkF hO (by intro h; simp only [one, none', fa2, fset, ho.all, or_self, false_or, or_false] at h <;> omega)
      replace hX := G8.blkF hX (by intro h; simp only [one, none', fa2, fset, ho.all, or_self, false_or, or_false] at h <;> omega)
      replace hM := G8.blkF hM (by intro h; simp only [one, none', fa2, fset, ho.all, or_self, false_or, or_false] at h <;> omega)
      refine wl_nil (x_then (hK19 _ _ ?_))
      clear hK19 K19
      refine c_ret (x_thenR ?_)
      refine bp_ret Tryz.results159 rfl ?_
      refine ⟨rfl, ?_, hF⟩
      have hXe : X = ⟨true, false, ar1, ov1, m1 :: os', true, false⟩ := by rw [← hres1]; unfold shutX; rw [if_neg hc82]
      rw [hXe]
      exact ⟨k, rfl, _, _, _, _, _, _, _, _, ⟨hB, hK, hA, hV, hO, htv, hav, hvv, hmv, hkT, hlT, hla⟩, by simp [hne7]⟩
    · try simp only [decide_eq_true_eq, decide_eq_false_iff_not, Bool.not_eq_true', Bool.not_eq_false', Bool.not_eq_eq_eq_not, Bool.not_true, Bool.not_false, beq_iff_eq, bne_iff_ne, ne_eq, beq_eq_false_iff_ne, bne_eq_false_iff_eq, gt_iff_lt, ge_iff_le, Int.not_lt, Int.not_le] at hc82
      have h41 : t.k = 41 := by omega
      obtain ⟨hkl, hdr⟩ := hhd (by omega)
      refine c_skip (x_then (hK17 _ _ ?_))
      clear hK17 K17
      refine forget [(0, _), (4, _)] ⟨rfl, rfl, trivial⟩ (fun e => ?_)
      refine c_seq (fun K20 hK20 => ?_)
      refine c_reg ?_ -- region 16 parse.go:229
      refine wl (ro_move rfl) ?_
      refine wl_call rfl en_161 (take161 ho hkT hlT hB hK htv) ?_
      rintro _ u3 ⟨rfl, ⟨pos1, hB⟩, G3⟩
      replace hF := hF.transG G3 (by intro k hk h; simp only [one, none', fa2, fset] at h ⊢ <;> omega)
      replace hK := G3.blkF hK (by intro h; simp only [one, none', fa2, fset, ho.all, or_self, false_or, or_false] at h <;> omega)
      replace hA := G3.blkF hA (by intro h; simp only [one, none', fa2, fset, ho.all, or_self, false_or, or_false] at h <;> omega)
      replace hV := G3.blkF hV (by intro h; simp only [one, none', fa2, fset, ho.all, or_self, false_or, or_false] at h <;> omega)
      replace hO := G3.blkF hO (by intro h; simp only [one, none', fa2, fset, ho.all, or_self, false_or, or_false] at h <;> omega)
      replace hX := G3.blkF hX (by intro h; simp only [one, none', fa2, fset, ho.all, or_self, false_or, or_false] at h <;> omega)
      replace hM := G3.blkF hM (by intro h; simp only [one, none', fa2, fset, ho.all, or_self, false_or, or_false] at h <;> omega)
      refine wl_nil (x_then (hK20 _ _ ?_))
      clear hK20 K20
      refine forget [(0, _), (4, _)] ⟨rfl, rfl, trivial⟩ (fun e => ?_)
      refine c_seq (fun K21 hK21 => ?_)
      refine c_reg ?_ -- region 17 parse.go:230
      refine wl (ro_move rfl) ?_
      refine wl (ro_nilCheck rfl) ?_
      refine wl (ro_fieldAddr (k := 9) rfl fo_83_9) ?_
      refine wl (ro_loadB rfl sc_3 (hB) (rfl)) ?_
      refine wl (ro_arith (r := (os'.length : Int)) rfl rfl (congrArg some (by show ((os'.length + 1 : Nat) : Int) - 1 = _; omega)) (Go.IntWalk.i64_in _ (by omega))) ?_
      refine wl (ro_nilCheck rfl) ?_
      refine wl (ro_fieldAddr (k := 9) rfl fo_83_9) ?_
      refine wl_put rfl rfl rfl sz_3 hB ((by simp)) ((show _ = fml B (T.length + 1) (k + 1) pos1 ar1.length ov1.length os'.length true false er bd wi from rfl)) (fun w11 hB F11 => ?_)
      replace hF := hF.thenDrew.thenO F11 (by first | exact .inr (by omega) | exact .inl rfl | exact .inl (by assumption))
      replace hK := F11.blkO hK (by first | (simp only [ne_eq, ho.all, not_false_eq_true]; done) | omega)
      replace hA := F11.blkO hA (by first | (simp only [ne_eq, ho.all, not_false_eq_true]; done) | omega)
      replace hV := F11.blkO hV (by first | (simp only [ne_eq, ho.all, not_false_eq_true]; done) | omega)
      replace hO := F11.blkO hO (by first | (simp only [ne_eq, ho.all, not_false_eq_true]; done) | omega)
      replace hX := F11.blkO hX (by first | (simp only [ne_eq, ho.all, not_false_eq_true]; done) | omega)
      replace hM := F11.blkO hM (by first | (simp only [ne_eq, ho.all, not_false_eq_true]; done) | omega)
      refine wl_nil (x_then (hK21 _ _ ?_))
      clear hK21 K21
      refine c_seq (fun K22 hK22 => ?_)
      refine c_seq (fun K23 hK23 => ?_)
      have V3 : FW _ B T (k + 1) ar1 ov1 os' true false bad1 := ⟨_, _, _, _, _, _, _, _, ⟨hB, hK, hA, hV, hO, htv, hav, hvv, hmv.tail, by omega, hlT, hla⟩, hbad⟩
      refine c_reg ?_ -- region 18 parse.go:231
      refine wl (ro_fieldAddr (k := 0) rfl fo_197_0) ?_
      refine wl (ro_loadB rfl sc_3 (hM) (rfl)) ?_
      refine wl (ro_cmp (r := decide (m1.k = 3)) rfl rfl (congrArg some (beqc m1.k 3))) ?_
      refine wl_nil (x_then (hK23 _ _ ?_))
      clear hK23 K23
      refine wc_cond rfl (fun hc98 => ?_) (fun hc98 => ?_)
      · try simp only [decide_eq_true_eq, decide_eq_false_iff_not, Bool.not_eq_true', Bool.not_eq_false', Bool.not_eq_eq_eq_not, Bool.not_true, Bool.not_false, beq_iff_eq, bne_iff_ne, ne_eq, beq_eq_false_iff_ne, bne_eq_false_iff_eq, gt_iff_lt, ge_iff_le, Int.not_lt, Int.not_le] at hc98
        refine c_seq (fun K24 hK24 => ?_)
        refine c_reg ?_ -- region 19 parse.go:232
        refine wl (ro_move rfl) ?_
        refine wl_call rfl en_194 (settle194 ho V3 (hh3 hc98) hl1 (by omega)) ?_
        rintro _ u7 ⟨rfl, V7, G7⟩
        replace hF := hF.transG G7 (fun k _ h ↦ h)
        refine wl_nil (x_then (hK24 _ _ ?_))
        clear hK24 K24
        refine c_ret (x_thenR ?_)
        refine bp_ret Tryz.results159 rfl ?_
        refine ⟨rfl, ?_, hF⟩
        have hXe : X = ⟨(settleX os' bad1 ar1 ov1).1, true, (settleX os' bad1 ar1 ov1).2.1, (settleX os' bad1 ar1 ov1).2.2.1, (settleX os' bad1 ar1 ov1).2.2.2, true, false⟩ := by rw [← hres1]; unfold shutX; rw [if_pos h41, if_pos hc98]
        rw [hXe]
        exact ⟨k + 1, rfl, V7⟩
      · try simp only [decide_eq_true_eq, decide_eq_false_iff_not, Bool.not_eq_true', Bool.not_eq_false', Bool.not_eq_eq_eq_not, Bool.not_true, Bool.not_false, beq_iff_eq, bne_iff_ne, ne_eq, beq_eq_false_iff_ne, bne_eq_false_iff_eq, gt_iff_lt, ge_iff_le, Int.not_lt, Int.not_le] at hc98
        refine c_skip (x_then (hK22 _ _ ?_))
        clear hK22 K22
        refine c_seq (fun K25 hK25 => ?_)
        refine c_seq (fun K26 hK26 => ?_)
        refine c_reg ?_ -- region 20 parse.go:235
        refine wl (ro_fieldAddr (k := 1) rfl fo_197_1) ?_
        refine wl (ro_loadB rfl sc_3 (hM) (rfl)) ?_
        refine wl (ro_fieldAddr (k := 3) rfl fo_197_3) ?_
        refine wl (ro_loadB rfl sc_3 (hM) (rfl)) ?_
        refine wl_call rfl en_195 (Arity195) ?_
        rintro _ _ ⟨rfl, rfl⟩
        refine wl (ro_not rfl) ?_
        refine wl_nil (x_then (hK26 _ _ ?_))
        clear hK26 K26
        refine wc_cond rfl (fun hc106 => ?_) (fun hc106 => ?_)
        · try simp only [decide_eq_true_eq, decide_eq_false_iff_not, Bool.not_eq_true', Bool.not_eq_false', Bool.not_eq_eq_eq_not, Bool.not_true, Bool.not_false, beq_iff_eq, bne_iff_ne, ne_eq, beq_eq_false_iff_ne, bne_eq_false_iff_eq, gt_iff_lt, ge_iff_le, Int.not_lt, Int.not_le] at hc106
          refine c_seq (fun K27 hK27 => ?_)
          refine c_reg ?_ -- region 21 parse.go:236
          refine wl (ro_move rfl) ?_
          refine wl (ro_fieldAddr (k := 2) rfl fo_197_2) ?_
          refine wl (ro_loadB rfl sc_3 (hM) (rfl)) ?_
          refine wl_call rfl en_160 (fail160 (by decide) hB) ?_
          rintro _ u8 ⟨rfl, ⟨er7, bd7, hne7, hB⟩, G8⟩
          replace hF := hF.transG G8 (by intro k hk h; simp only [one, none', fa2, fset] at h ⊢ <;> omega)
          replace hK := G8.blkF hK (by intro h; simp only [one, none', fa2, fset, ho.all, or_self, false_or, or_false] at h <;> omega)
          replace hA := G8.blkF hA (by intro h; simp only [one, none', fa2, fset, ho.all, or_self, false_or, or_false] at h <;> omega)
          replace hV := G8.blkF hV (by intro h; simp only [one, none', fa2, fset, ho.all, or_self, false_or, or_false] at h <;> omega)
          replace hO := G8.blkF hO (by intro h; simp only [one, none', fa2, fset, ho.all, or_self, false_or, or_false] at h <;> omega)
          replace hX := G8.blkF hX (by intro h; simp only [one, none', fa2, fset, ho.all, or_self, false_or, or_false] at h <;> omega)
          replace hM := G8.blkF hM (by intro h; simp only [one, none', fa2, fset, ho.all, or_self, false_or, or_false] at h <;> omega)
          refine wl_nil (x_then (hK27 _ _ ?_))
          clear hK27 K27
          refine c_ret (x_thenR ?_)
          refine bp_ret Tryz.results159 rfl ?_
          refine ⟨rfl, ?_, hF⟩
          have hXe : X = ⟨true, true, ar1, ov1, os', true, false⟩ := by rw [← hres1]; unfold shutX; rw [if_pos h41, if_neg hc98, if_neg (by simpa using hc106)]
          rw [hXe]
          exact ⟨k + 1, rfl, _, _, _, _, _, _, _, _, ⟨hB, hK, hA, hV, hO, htv, hav, hvv, hmv.tail, by omega, hlT, hla⟩, by simp [hne7]⟩
        · try simp only [decide_eq_true_eq, decide_eq_false_iff_not, Bool.not_eq_true', Bool.not_eq_false', Bool.not_eq_eq_eq_not, Bool.not_true, Bool.not_false, beq_iff_eq, bne_iff_ne, ne_eq, beq_eq_false_iff_ne, bne_eq_false_iff_eq, gt_iff_lt, ge_iff_le, Int.not_lt, Int.not_le] at hc106
          have hari : arity m1.o m1.n = true := by simpa using hc106
          refine c_skip (x_then (hK25 _ _ ?_))
          clear hK25 K25
          refine c_reg ?_ -- region 22 parse.go:239
          refine wl (ro_move rfl) ?_
          refine wl (ro_fieldAddr (k := 1) rfl fo_197_1) ?_
          refine wl (ro_loadB rfl sc_3 (hM) (rfl)) ?_
          refine wl (ro_fieldAddr (k := 4) rfl fo_197_4) ?_
          refine wl (ro_loadB rfl sc_3 (hM) (rfl)) ?_
          refine wl (ro_fieldAddr (k := 3) rfl fo_197_3) ?_
          refine wl (ro_loadB rfl sc_3 (hM) (rfl)) ?_
          refine wl (ro_build rfl bld_143_0_1_2_3_4) ?_
          refine wl_call rfl en_163 (whole163 (x := nCall m1.o m1.l m1.n) ho V3 (hh4 hc98 hari) (hl2 (hh4 hc98 hari)) (by omega)) ?_
          rintro _ u7 ⟨rfl, V7, G7⟩
          replace hF := hF.transG G7 (fun k _ h ↦ h)
          refine wl_nil ?_
          refine bp_end Tryz.results159 rfl ?_
          refine ⟨rfl, ?_, hF⟩
          have hXe : X = ⟨(wholeX (nCall m1.o m1.l m1.n) bad1 ar1 ov1 os').1, true, (wholeX (nCall m1.o m1.l m1.n) bad1 ar1 ov1 os').2.1, (wholeX (nCall m1.o m1.l m1.n) bad1 ar1 ov1 os').2.2.1, (wholeX (nCall m1.o m1.l m1.n) bad1 ar1 ov1 os').2.2.2, true, false⟩ := by rw [← hres1]; unfold shutX; rw [if_pos h41, if_neg hc98, if_pos hari]
          rw [hXe]
          exact ⟨k + 1, rfl, V7⟩

end Go.Proofs.Qxb6500570aGreat
