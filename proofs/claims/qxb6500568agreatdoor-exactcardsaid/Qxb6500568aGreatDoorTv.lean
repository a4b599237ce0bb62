import Derived.Test.Qxb6500568aGreatDoorTu
/- The law: the script. -/
namespace Go.Proofs.Qxb6500568aGreatDoor
open Ieee
set_option linter.unusedVariables false
set_option linter.unusedSimpArgs false
set_option linter.unusedSectionVars false

theorem ro_addI {P : Program} {n : Nat} {e : Nat → Option Value} {w : World} {t t' : TypeId} {x y : Operand} {k : IntKind} {a b : Int} (hx : evO n e x = some (.int k a)) (hy : evO n e y = some (.int k b)) : RO P n e w (.binOp .add t x y t') (.int k (k.wrap (a + b))) := by
  intro ds dst ty ps af g
  simp [execOp, evO_eval hx, evO_eval hy, eqGuard, binOp, Op.intArith]

theorem cellq_lt {w : World} {ad : Addr} {v : Value} (h : w.cell? ad = some v) : ad.block < w.heap.size := by
  unfold World.cell? at h
  cases hx : w.heap[ad.block]? with
  | none => rw [hx] at h; cases h
  | some o => exact (Array.getElem?_eq_some_iff.1 hx).1
theorem cell_framV {w w' : World} {ad : Addr} {v : Value} (h : w.cell? ad = some v) (hf : Fram none' w w') : w'.cell? ad = some v := by
  have := hf.block ad.block (cellq_lt h) (fun h => h)
  unfold World.cell? at h ⊢
  rw [this]; exact h
theorem cell_heapV {w w' : World} {ad : Addr} {v : Value} (h : w.cell? ad = some v) (hS : SameH w.heap w') : w'.cell? ad = some v := by
  have hS' : w'.heap = w.heap := hS
  unfold World.cell? at h ⊢
  rw [hS']; exact h

/-- A step of a script. -/
abbrev Op6 := Int × Int × Int × Int × List UInt8 × List UInt8
def opc (o : Op6) : List Value := [.int .i64 o.1, .int .i64 o.2.1, .int .i64 o.2.2.1, .int .i64 o.2.2.2.1, S o.2.2.2.2.1, S o.2.2.2.2.2]
/-- Its numbers and texts are within the language's bounds. -/
structure OpB (o : Op6) : Prop where
  a1 : -9223372036854775808 ≤ o.2.1
  a2 : o.2.1 ≤ 9223372036854775807
  b1 : -9223372036854775808 ≤ o.2.2.1
  b2 : o.2.2.1 ≤ 9223372036854775807
  c1 : -9223372036854775808 ≤ o.2.2.2.1
  c2 : o.2.2.2.1 ≤ 9223372036854775807
  s : o.2.2.2.2.1.length ≤ 9223372036854775807
  t : o.2.2.2.2.2.length ≤ 9223372036854775807

/-- The script that was handed in. -/
def ScV (w : World) (v : Value) (os : List Op6) : Prop := ∃ a cap, v = .slice a os.length cap ∧ ∀ (i : Nat) (o : Op6), os[i]? = some o → OpB o ∧ ∃ b off, a = some ⟨b, off, none⟩ ∧ ∀ j x, (opc o)[j]? = some x → w.cell? ⟨b, off + i * 6 + j, none⟩ = some x

theorem ScV.fram {w w' : World} {v : Value} {os : List Op6} (h : ScV w v os) (hf : Fram none' w w') : ScV w' v os := by
  obtain ⟨a, cap, h1, h2⟩ := h
  refine ⟨a, cap, h1, fun i o ho => ?_⟩
  obtain ⟨h3, b, off, h4, h5⟩ := h2 i o ho
  exact ⟨h3, b, off, h4, fun j x hj => cell_framV (h5 j x hj) hf⟩

theorem small11 {w : World} {v : Value} {os : List Op6} (h : ScV w v os) (hb : os.length ≤ 9223372036854775807) : Ret Tryz.prog 11 [v] w (fun r w' => (∃ b, r = .bool b ∧ (b = true → os.length ≤ 1073741824)) ∧ Fram none' w w') := by
  obtain ⟨a, cap, rfl, hc⟩ := h
  refine ret_of Tryz.func11 rfl Tryz.ntmps11 rfl ?_
  refine c_seq (fun K1 hK1 => ?_)
  refine c_reg ?_ -- region 0 law.go:163
  refine wl (ro_assign rfl) ?_
  refine wl_nil (x_then (hK1 _ _ ?_))
  clear hK1 K1
  refine c_seq (fun K2 hK2 => ?_)
  refine c_seq (fun K3 hK3 => ?_)
  refine c_reg ?_ -- region 1 law.go:164
  refine wl (ro_move rfl) ?_
  refine wl (ro_lenL rfl se_33) ?_
  refine wl (ro_cmp rfl rfl rfl) ?_
  refine wl_nil (x_then (hK3 _ _ ?_))
  clear hK3 K3
  refine wc_cond rfl (fun hc7 => ?_) (fun hc7 => ?_)
  · try simp only [decide_eq_true_eq, decide_eq_false_iff_not, Bool.not_eq_true', Bool.not_eq_false', Bool.not_eq_eq_eq_not, Bool.not_true, Bool.not_false, beq_iff_eq, bne_iff_ne, ne_eq, beq_eq_false_iff_ne, bne_eq_false_iff_eq, gt_iff_lt, ge_iff_le, Int.not_lt, Int.not_le] at hc7
    refine c_seq (fun K4 hK4 => ?_)
    refine c_reg ?_ -- region 2 law.go:165
    refine wl (ro_assign rfl) ?_
    refine wl_nil (x_then (hK4 _ _ ?_))
    clear hK4 K4
    refine c_ret (x_thenR ?_)
    refine bp_ret Tryz.results11 rfl ?_
    exact ⟨⟨false, rfl, fun h => by cases h⟩, Fram.refl _ _⟩
  · try simp only [decide_eq_true_eq, decide_eq_false_iff_not, Bool.not_eq_true', Bool.not_eq_false', Bool.not_eq_eq_eq_not, Bool.not_true, Bool.not_false, beq_iff_eq, bne_iff_ne, ne_eq, beq_eq_false_iff_ne, bne_eq_false_iff_eq, gt_iff_lt, ge_iff_le, Int.not_lt, Int.not_le] at hc7
    have hle : os.length ≤ 1073741824 := by omega
    refine c_skip (x_then (hK2 _ _ ?_))
    clear hK2 K2
    refine forget [(0, _)] ⟨rfl, trivial⟩ (fun e => ?_)
    refine c_seq (fun K5 hK5 => ?_)
    refine c_reg ?_ -- region 3 law.go:167
    refine wl (ro_move rfl) ?_
    refine wl (ro_lenL rfl se_33) ?_
    refine wl (ro_assign rfl) ?_
    refine wl_nil (x_then (hK5 _ _ ?_))
    clear hK5 K5
    refine c_seq (fun K6 hK6 => ?_)
    refine c_seq (fun K7 hK7 => ?_)
    refine c_reg ?_ -- region 4 law.go:168
    refine wl (ro_assign rfl) ?_
    refine wl_nil (x_then (hK7 _ _ ?_))
    clear hK7 K7
    refine c_block ?_
    -- loop@r5: live slots [0, 3, 4]
    refine c_loopG (fun m a' w' => ∃ (i : Nat) (x : Int), m = os.length - i ∧ i ≤ os.length ∧ Fram none' w w' ∧ ∃ e, a' = Fr 33 (upds e [(0, .slice a os.length cap), (3, .int .i64 x), (4, i64c i)]) []) os.length ⟨0, _, by omega, by omega, Fram.refl _ _, kp _ ⟨rfl, rfl, rfl, trivial⟩⟩ ?_
    rintro m a' w1 ⟨i, x, rfl, hi, F1, e, rfl⟩
    refine c_seq (fun K8 hK8 => ?_)
    refine c_seq (fun K9 hK9 => ?_)
    refine c_reg ?_ -- region 5 law.go:168
    refine wl (ro_move rfl) ?_
    refine wl (ro_move rfl) ?_
    refine wl (ro_lenL rfl se_33) ?_
    refine wl (ro_cmp rfl rfl rfl) ?_
    refine wl_nil (x_then (hK9 _ _ ?_))
    clear hK9 K9
    refine wc_cond rfl (fun hc13 => ?_) (fun hc13 => ?_)
    · try simp only [decide_eq_true_eq, decide_eq_false_iff_not, Bool.not_eq_true', Bool.not_eq_false', Bool.not_eq_eq_eq_not, Bool.not_true, Bool.not_false, beq_iff_eq, bne_iff_ne, ne_eq, beq_eq_false_iff_ne, bne_eq_false_iff_eq, gt_iff_lt, ge_iff_le, Int.not_lt, Int.not_le] at hc13
      have hil : i < os.length := by omega
      obtain ⟨o, ho⟩ : ∃ o, os[i]? = some o := ⟨_, List.getElem?_eq_getElem hil⟩
      obtain ⟨_, b, off, rfl, hcl⟩ := hc i o ho
      have hc4 := cell_framV (hcl 4 _ rfl) F1
      have hc5 := cell_framV (hcl 5 _ rfl) F1
      refine c_skip (x_then (hK8 _ _ ?_))
      clear hK8 K8
      refine forget [(0, _), (3, _), (4, _)] ⟨rfl, rfl, rfl, trivial⟩ (fun e => ?_)
      refine c_seq (fun K10 hK10 => ?_)
      refine c_block ?_
      refine c_seq (fun K11 hK11 => ?_)
      refine c_pi [(0, false), (1, false), (2, false), (3, false), (4, false), (5, false), (6, false), (7, false), (8, false), (9, false), (10, false), (11, false), (12, false), (13, false), (14, false), (15, false)] (SameH w1.heap) mixed (by kernel_rfl) rfl (by kernel_rfl) (po_then (po_blk (po_then (po_then (po_blk (po_then (po_bp))))))) (rfl) ?_ -- region 7 law.go:169
      refine pi_ro rfl (fun w hS => ro_move rfl) ?_
      refine pi_ro rfl (fun w hS => ro_move rfl) ?_
      refine pi_ro rfl (fun w hS => ro_move rfl) ?_
      refine pi_ro rfl (fun w hS => ro_indexAddr (et := 61) (k := 6) rfl rfl se_33 (rfl) (hil)) ?_
      refine pi_ro rfl (fun w hS => ro_fieldAddr (k := 4) rfl fo_61_4) ?_
      refine pi_ro rfl (fun w hS => ro_load rfl sc_9 (cell_heapV hc4 hS)) ?_
      refine pi_ro rfl (fun w hS => ro_lenS rfl st_9) ?_
      refine pi_ro rfl (fun w hS => ro_addI rfl rfl) ?_
      refine pi_ro rfl (fun w hS => ro_move rfl) ?_
      refine pi_ro rfl (fun w hS => ro_move rfl) ?_
      refine pi_ro rfl (fun w hS => ro_indexAddr (et := 61) (k := 6) rfl rfl se_33 (rfl) (hil)) ?_
      refine pi_ro rfl (fun w hS => ro_fieldAddr (k := 5) rfl fo_61_5) ?_
      refine pi_ro rfl (fun w hS => ro_load rfl sc_9 (cell_heapV hc5 hS)) ?_
      refine pi_ro rfl (fun w hS => ro_lenS rfl st_9) ?_
      refine pi_ro rfl (fun w hS => ro_addI rfl rfl) ?_
      refine pi_ro rfl (fun w hS => ro_assign rfl) ?_
      refine gen1 (A := fun w2 => Fram none' w w2) (C := fun w2 => WP _ _ _ _ _ _ w2) (F1.trans (Fram.drew _ _ _)) ?_
      clear F1 hc4 hc5
      intro w2 F2
      refine pi_nil (x_then (hK11 _ _ ?_))
      clear hK11 K11
      refine forget [(0, _), (3, _), (4, _)] ⟨rfl, rfl, rfl, trivial⟩ (fun e => ?_)
      refine c_seq (fun K12 hK12 => ?_)
      refine c_reg ?_ -- region 8 law.go:170
      refine wl (ro_move rfl) ?_
      refine wl (ro_cmp rfl rfl rfl) ?_
      refine wl_nil (x_then (hK12 _ _ ?_))
      clear hK12 K12
      refine wc_cond rfl (fun hc32 => ?_) (fun hc32 => ?_)
      · try simp only [decide_eq_true_eq, decide_eq_false_iff_not, Bool.not_eq_true', Bool.not_eq_false', Bool.not_eq_eq_eq_not, Bool.not_true, Bool.not_false, beq_iff_eq, bne_iff_ne, ne_eq, beq_eq_false_iff_ne, bne_eq_false_iff_eq, gt_iff_lt, ge_iff_le, Int.not_lt, Int.not_le] at hc32
        refine c_seq (fun K13 hK13 => ?_)
        refine c_reg ?_ -- region 9 law.go:171
        refine wl (ro_assign rfl) ?_
        refine wl_nil (x_then (hK13 _ _ ?_))
        clear hK13 K13
        refine c_ret (x_blkR (x_thenR (x_thenR (x_blkR (x_thenR ?_)))))
        refine bp_ret Tryz.results11 rfl ?_
        exact ⟨⟨false, rfl, fun h => by cases h⟩, F2⟩
      · try simp only [decide_eq_true_eq, decide_eq_false_iff_not, Bool.not_eq_true', Bool.not_eq_false', Bool.not_eq_eq_eq_not, Bool.not_true, Bool.not_false, beq_iff_eq, bne_iff_ne, ne_eq, beq_eq_false_iff_ne, bne_eq_false_iff_eq, gt_iff_lt, ge_iff_le, Int.not_lt, Int.not_le] at hc32
        refine c_skip (x_blk (x_then (hK10 _ _ ?_)))
        clear hK10 K10
        refine c_reg ?_ -- region 6 law.go:168
        refine wl (ro_move rfl) ?_
        refine wl (ro_arith rfl rfl rfl (Go.IntWalk.i64_in _ (by omega))) ?_
        refine wl (ro_assign rfl) ?_
        refine wl_nil (x_then ?_)
        exact ⟨os.length - (i + 1), by omega, i + 1, _, rfl, by omega, F2, kp _ ⟨rfl, rfl, rfl, trivial⟩⟩
    · try simp only [decide_eq_true_eq, decide_eq_false_iff_not, Bool.not_eq_true', Bool.not_eq_false', Bool.not_eq_eq_eq_not, Bool.not_true, Bool.not_false, beq_iff_eq, bne_iff_ne, ne_eq, beq_eq_false_iff_ne, bne_eq_false_iff_eq, gt_iff_lt, ge_iff_le, Int.not_lt, Int.not_le] at hc13
      refine c_exit (x_thenX (x_thenX (x_blkX (x_then (hK6 _ _ ?_)))))
      clear hK8 K8 hK6 K6
      refine forget [] trivial (fun e => ?_)
      refine c_seq (fun K14 hK14 => ?_)
      refine c_reg ?_ -- region 10 law.go:174
      refine wl (ro_assign rfl) ?_
      refine wl_nil (x_then (hK14 _ _ ?_))
      clear hK14 K14
      refine c_ret ?_
      refine bp_ret Tryz.results11 rfl ?_
      exact ⟨⟨true, rfl, fun _ => hle⟩, F1⟩

theorem upto12 {w : World} {v : Value} {os : List Op6} (hG : GV w (o9n w.heap.size)) (h : ScV w v os) (hb : os.length ≤ 1073741824) : Ret Tryz.prog 12 [v] w (fun r w' => r = .int .i64 (-1) ∧ Fram none' w w') := by
  obtain ⟨a, cap, rfl, hc⟩ := h
  refine ret_of Tryz.func12 rfl Tryz.ntmps12 rfl ?_
  refine c_seq (fun K1 hK1 => ?_)
  refine c_reg ?_ -- region 0 law.go:178
  refine wl (ro_assign rfl) ?_
  refine wl_nil (x_then (hK1 _ _ ?_))
  clear hK1 K1
  refine forget [(0, _)] ⟨rfl, trivial⟩ (fun e => ?_)
  refine c_seq (fun K2 hK2 => ?_)
  refine c_reg ?_ -- region 1 law.go:179
  refine wl (ro_build rfl bld_68) ?_
  refine wle (eo_box rfl rfl) ?_
  have hN := Blk.new w [.slice none 0 0, .slice none 0 0, .slice none 0 0, .slice none 0 0] 68
  have FA : Fram none' w (w.alloc (.cells [.slice none 0 0, .slice none 0 0, .slice none 0 0, .slice none 0 0].toArray 68)) := Fram.alloc none' w _
  have hE : WEn w.heap.size (w.alloc (.cells [.slice none 0 0, .slice none 0 0, .slice none 0 0, .slice none 0 0].toArray 68)) (fun _ => 0) [] [] [] := ⟨fun id _ => ⟨fun i t _ h => (by simp at h), fun i t _ h => (by simp at h), fun i t _ h => (by simp at h)⟩, fun _ _ => rfl, FA.size⟩
  have hO : WO w.heap.size (w.alloc (.cells [.slice none 0 0, .slice none 0 0, .slice none 0 0, .slice none 0 0].toArray 68)) (fun _ => 0) w.heap.size (.slice none 0 0) (.slice none 0 0) (.slice none 0 0) (.slice none 0 0) [] [] [] [] := ⟨hN, Own.nil _ _ _, Own.nil _ _ _, Own.nil _ _ _, Own.nil _ _ _, ⟨rfl, Nat.le_refl _⟩, fun b h => (by cases h), fun b h => (by cases h), fun b h => (by cases h), fun b h => (by cases h)⟩
  have I : WI w (w.alloc (.cells [.slice none 0 0, .slice none 0 0, .slice none 0 0, .slice none 0 0].toArray 68)) w.heap.size 0 := ⟨fun _ => 0, _, _, _, _, [], [], [], [], ⟨hE, hO, FA, rfl, fun x h => (by cases h), hG⟩, by simp⟩
  refine gen1 (A := fun w1 => WI w w1 w.heap.size 0) (C := fun w1 => WL _ _ _ _ _ w1) I ?_
  clear I FA hN hE hO
  generalize w.heap.size = wb
  intro w1 I
  refine wl (ro_assign rfl) ?_
  refine wl_nil (x_then (hK2 _ _ ?_))
  clear hK2 K2
  refine c_seq (fun K3 hK3 => ?_)
  refine c_seq (fun K4 hK4 => ?_)
  refine c_reg ?_ -- region 2 law.go:180
  refine wl (ro_assign rfl) ?_
  refine wl_nil (x_then (hK4 _ _ ?_))
  clear hK4 K4
  refine c_block ?_
  -- loop@r3: live slots [0, 3, 4]
  refine c_loopG (fun m a' w' => ∃ (i : Nat), m = os.length - i ∧ i ≤ os.length ∧ WI w w' wb i ∧ ∃ e, a' = Fr 21 (upds e [(0, .slice a os.length cap), (3, ptr wb), (4, i64c i)]) []) os.length ⟨0, by omega, by omega, I, kp _ ⟨rfl, rfl, rfl, trivial⟩⟩ ?_
  clear I
  rintro m a' w2 ⟨i, rfl, hi, I, e, rfl⟩
  have hF : Fram none' w w2 := I.fr
  refine c_seq (fun K5 hK5 => ?_)
  refine c_seq (fun K6 hK6 => ?_)
  refine c_reg ?_ -- region 3 law.go:180
  refine wl (ro_move rfl) ?_
  refine wl (ro_move rfl) ?_
  refine wl (ro_lenL rfl se_33) ?_
  refine wl (ro_cmp rfl rfl rfl) ?_
  refine wl_nil (x_then (hK6 _ _ ?_))
  clear hK6 K6
  refine wc_cond rfl (fun hc10 => ?_) (fun hc10 => ?_)
  · try simp only [decide_eq_true_eq, decide_eq_false_iff_not, Bool.not_eq_true', Bool.not_eq_false', Bool.not_eq_eq_eq_not, Bool.not_true, Bool.not_false, beq_iff_eq, bne_iff_ne, ne_eq, beq_eq_false_iff_ne, bne_eq_false_iff_eq, gt_iff_lt, ge_iff_le, Int.not_lt, Int.not_le] at hc10
    have hil : i < os.length := by omega
    obtain ⟨o, ho⟩ : ∃ o, os[i]? = some o := ⟨_, List.getElem?_eq_getElem hil⟩
    obtain ⟨hAb, b, off, rfl, hcl⟩ := hc i o ho
    refine c_skip (x_then (hK5 _ _ ?_))
    clear hK5 K5
    refine forget [(0, _), (3, _), (4, _)] ⟨rfl, rfl, rfl, trivial⟩ (fun e => ?_)
    refine c_seq (fun K7 hK7 => ?_)
    refine c_block ?_
    refine c_seq (fun K8 hK8 => ?_)
    refine c_reg ?_ -- region 5 law.go:181
    refine wl (ro_move rfl) ?_
    refine wl (ro_move rfl) ?_
    refine wl (ro_move rfl) ?_
    refine wl (ro_indexAddr (et := 61) (k := 6) rfl rfl se_33 (rfl) (hil)) ?_
    refine wl (ro_loadAgg (cs := opc o) rfl ag_61 rfl (fun j x hj => cell_framV (hcl j x hj) hF)) ?_
    refine wl_call rfl en_26 (step26 I (by omega) hAb.a1 hAb.a2 hAb.b1 hAb.b2 hAb.c2) ?_
    rintro _ w3 ⟨rfl, I3⟩
    refine wl (ro_not rfl) ?_
    refine wl_nil (x_then (hK8 _ _ ?_))
    clear hK8 K8
    refine wc_condF rfl ?_
    refine c_skip (x_blk (x_then (hK7 _ _ ?_)))
    clear hK7 K7
    refine c_reg ?_ -- region 4 law.go:180
    refine wl (ro_move rfl) ?_
    refine wl (ro_arith rfl rfl rfl (Go.IntWalk.i64_in _ (by omega))) ?_
    refine wl (ro_assign rfl) ?_
    refine wl_nil (x_then ?_)
    exact ⟨os.length - (i + 1), by omega, i + 1, rfl, by omega, I3, kp _ ⟨rfl, rfl, rfl, trivial⟩⟩
  · try simp only [decide_eq_true_eq, decide_eq_false_iff_not, Bool.not_eq_true', Bool.not_eq_false', Bool.not_eq_eq_eq_not, Bool.not_true, Bool.not_false, beq_iff_eq, bne_iff_ne, ne_eq, beq_eq_false_iff_ne, bne_eq_false_iff_eq, gt_iff_lt, ge_iff_le, Int.not_lt, Int.not_le] at hc10
    refine c_exit (x_thenX (x_thenX (x_blkX (x_then (hK3 _ _ ?_)))))
    clear hK5 K5 hK3 K3
    refine forget [] trivial (fun e => ?_)
    refine c_seq (fun K9 hK9 => ?_)
    refine c_reg ?_ -- region 7 law.go:185
    refine wl (ro_assign rfl) ?_
    refine wl_nil (x_then (hK9 _ _ ?_))
    clear hK9 K9
    refine c_ret ?_
    refine bp_ret Tryz.results12 rfl ?_
    exact ⟨rfl, hF⟩

theorem Exact4 {w : World} {v : Value} {os : List Op6} (hG : GV w (o9n w.heap.size)) (h : ScV w v os) (hb : os.length ≤ 9223372036854775807) : Ret Tryz.prog 4 [v] w (fun r w' => r = .bool true ∧ Fram none' w w') := by
  have h0 := h
  obtain ⟨a, cap, hv, _⟩ := h
  subst hv
  refine ret_of Tryz.func4 rfl Tryz.ntmps4 rfl ?_
  refine c_seq (fun K1 hK1 => ?_)
  refine c_reg ?_ -- region 0 law.go:189
  refine wl (ro_assign rfl) ?_
  refine wl_nil (x_then (hK1 _ _ ?_))
  clear hK1 K1
  refine c_seq (fun K2 hK2 => ?_)
  refine c_seq (fun K3 hK3 => ?_)
  refine c_reg ?_ -- region 1 law.go:190
  refine wl (ro_move rfl) ?_
  refine wl_call rfl en_11 (small11 h0 hb) ?_
  rintro _ w1 ⟨⟨b, rfl, hle⟩, F1⟩
  refine wl (ro_not rfl) ?_
  refine wl_nil (x_then (hK3 _ _ ?_))
  clear hK3 K3
  refine wc_cond rfl (fun hc5 => ?_) (fun hc5 => ?_)
  · try simp only [decide_eq_true_eq, decide_eq_false_iff_not, Bool.not_eq_true', Bool.not_eq_false', Bool.not_eq_eq_eq_not, Bool.not_true, Bool.not_false, beq_iff_eq, bne_iff_ne, ne_eq, beq_eq_false_iff_ne, bne_eq_false_iff_eq, gt_iff_lt, ge_iff_le, Int.not_lt, Int.not_le] at hc5
    refine c_seq (fun K4 hK4 => ?_)
    refine c_reg ?_ -- region 2 law.go:191
    refine wl (ro_assign rfl) ?_
    refine wl_nil (x_then (hK4 _ _ ?_))
    clear hK4 K4
    refine c_ret (x_thenR ?_)
    refine bp_ret Tryz.results4 rfl ?_
    exact ⟨rfl, F1⟩
  · try simp only [decide_eq_true_eq, decide_eq_false_iff_not, Bool.not_eq_true', Bool.not_eq_false', Bool.not_eq_eq_eq_not, Bool.not_true, Bool.not_false, beq_iff_eq, bne_iff_ne, ne_eq, beq_eq_false_iff_ne, bne_eq_false_iff_eq, gt_iff_lt, ge_iff_le, Int.not_lt, Int.not_le] at hc5
    have hbt : b = true := by simpa using hc5
    have hG1 : GV w1 (o9n w1.heap.size) := (hG.farN F1).rg (fun b q => o9n_lt (Nat.lt_of_lt_of_le (o9n_9 q) F1.size))
    refine c_skip (x_then (hK2 _ _ ?_))
    clear hK2 K2
    refine forget [(0, _)] ⟨rfl, trivial⟩ (fun e => ?_)
    refine c_seq (fun K5 hK5 => ?_)
    refine c_reg ?_ -- region 3 law.go:193
    refine wl (ro_move rfl) ?_
    refine wl_call rfl en_12 (upto12 hG1 (h0.fram F1) (hle hbt)) ?_
    rintro _ w2 ⟨rfl, F2⟩
    refine wl (ro_cmp (r := true) rfl rfl (by simp)) ?_
    refine wl (ro_assign rfl) ?_
    refine wl_nil (x_then (hK5 _ _ ?_))
    clear hK5 K5
    refine c_ret ?_
    refine bp_ret Tryz.results4 rfl ?_
    exact ⟨rfl, F1.trans F2⟩

end Go.Proofs.Qxb6500568aGreatDoor
