import Derived.Test.Qxb6500568aGreatDoorZe
/- The compiler: instructions emitted. -/
namespace Go.Proofs.Qxb6500568aGreatDoor
open Ieee
set_option linter.unusedVariables false
set_option linter.unusedSimpArgs false
set_option linter.unusedSectionVars false

section
variable {P : Program} {n : Nat} {e : Nat → Option Value} {w : World}
theorem eo_bsI1 {t et : Nat} {x : Operand} {i : Nat × Nat} (hx : evO n e x = some (.agg (inc i).toArray)) (ht : selB P t et 2 = true) (hz : ∃ z, zeroB P et z ∧ z.length = 2) :
    EO P n e w (.buildSlice t 1 #[(0, x)]) (.slice (some ⟨w.heap.size, 0, none⟩) 1 1) (w.alloc (.cells (rws inc [i]).toArray et)) := by
  intro ds dst ty ps af g
  obtain ⟨t1, t2⟩ := selB_spec ht
  obtain ⟨z, ⟨j, zv, z1, z2, z3⟩, zl⟩ := hz
  match z, zl with
  | [z0, z9], _ => simp [execOp, evO_eval hx, Instr.buildSlice, run_underlying t1, run_sizeOf t2, zeroValue, typeInfo, z1, z2, z3, Instr.fill, newRow, Array.range_succ, Array.range_zero', inc, rws, Value.cells]
theorem eo_bsI2 {t et : Nat} {x y : Operand} {i j : Nat × Nat} (hx : evO n e x = some (.agg (inc i).toArray)) (hy : evO n e y = some (.agg (inc j).toArray)) (ht : selB P t et 2 = true) (hz : ∃ z, zeroB P et z ∧ z.length = 2) :
    EO P n e w (.buildSlice t 2 #[(0, x), (1, y)]) (.slice (some ⟨w.heap.size, 0, none⟩) 2 2) (w.alloc (.cells (rws inc [i, j]).toArray et)) := by
  intro ds dst ty ps af g
  obtain ⟨t1, t2⟩ := selB_spec ht
  obtain ⟨z, ⟨j, zv, z1, z2, z3⟩, zl⟩ := hz
  match z, zl with
  | [z0, z9], _ => simp [execOp, evO_eval hx, evO_eval hy, Instr.buildSlice, run_underlying t1, run_sizeOf t2, zeroValue, typeInfo, z1, z2, z3, Instr.fill, newRow, Array.range_succ, Array.range_zero', inc, rws, Value.cells]
theorem eo_bsI3 {t et : Nat} {x y x3 : Operand} {i j i3 : Nat × Nat} (hx : evO n e x = some (.agg (inc i).toArray)) (hy : evO n e y = some (.agg (inc j).toArray)) (h3 : evO n e x3 = some (.agg (inc i3).toArray)) (ht : selB P t et 2 = true) (hz : ∃ z, zeroB P et z ∧ z.length = 2) :
    EO P n e w (.buildSlice t 3 #[(0, x), (1, y), (2, x3)]) (.slice (some ⟨w.heap.size, 0, none⟩) 3 3) (w.alloc (.cells (rws inc [i, j, i3]).toArray et)) := by
  intro ds dst ty ps af g
  obtain ⟨t1, t2⟩ := selB_spec ht
  obtain ⟨z, ⟨j, zv, z1, z2, z3⟩, zl⟩ := hz
  match z, zl with
  | [z0, z9], _ => simp [execOp, evO_eval hx, evO_eval hy, evO_eval h3, Instr.buildSlice, run_underlying t1, run_sizeOf t2, zeroValue, typeInfo, z1, z2, z3, Instr.fill, newRow, Array.range_succ, Array.range_zero', inc, rws, Value.cells]
theorem eo_bsI5 {t et : Nat} {x y x3 x4 x5 : Operand} {i j i3 i4 i5 : Nat × Nat} (hx : evO n e x = some (.agg (inc i).toArray)) (hy : evO n e y = some (.agg (inc j).toArray)) (h3 : evO n e x3 = some (.agg (inc i3).toArray)) (h4 : evO n e x4 = some (.agg (inc i4).toArray)) (h5 : evO n e x5 = some (.agg (inc i5).toArray)) (ht : selB P t et 2 = true) (hz : ∃ z, zeroB P et z ∧ z.length = 2) :
    EO P n e w (.buildSlice t 5 #[(0, x), (1, y), (2, x3), (3, x4), (4, x5)]) (.slice (some ⟨w.heap.size, 0, none⟩) 5 5) (w.alloc (.cells (rws inc [i, j, i3, i4, i5]).toArray et)) := by
  intro ds dst ty ps af g
  obtain ⟨t1, t2⟩ := selB_spec ht
  obtain ⟨z, ⟨j, zv, z1, z2, z3⟩, zl⟩ := hz
  match z, zl with
  | [z0, z9], _ => simp [execOp, evO_eval hx, evO_eval hy, evO_eval h3, evO_eval h4, evO_eval h5, Instr.buildSlice, run_underlying t1, run_sizeOf t2, zeroValue, typeInfo, z1, z2, z3, Instr.fill, newRow, Array.range_succ, Array.range_zero', inc, rws, Value.cells]
end
theorem cp_loc' {w w' : World} {ow ow' : Nat → Nat} {b : Nat} {l : List Value} {t tag : Nat} (hE : Xt w ow ow') (f : Fram (tg ow cpT) w w') (h : Blk w.heap b l t) (ht : ow b = tag) (hn : tag = 66 ∨ tag = 67 ∨ tag = 301 := by omega) : Blk w'.heap b l t ∧ ow' b = tag := cp_loc (d := w.drawn) hE f h ht hn
theorem cp_trans' {w w' w0 : World} {ow ow0 : Nat → Nat} (h0 : Xt w0 ow0 ow) (f0 : Fram (tg ow0 cpT) w0 w) (f : Fram (tg ow cpT) w w') : Fram (tg ow0 cpT) w0 w' := cp_trans (d := w.drawn) h0 f0 f
section
variable {n : Nat} {e : Nat → Option Value} {ds : List Deferred} {w : World} {ops : Array Oper} {Q : Exit → Act → World → Prop} {rest : List Oper} {d1 d2 : Nat} {bs : Op} {ty1 ty2 : TypeId} {ps1 ps2 : String} {af1 af2 : Array Edge}
  {E : ZEnv} {ow : Nat → Nat} {O : List Nat} {S : Fns} {f : ZAct} {q : List ZAct}
theorem wl_em {fp : Operand} {ats : Array TypeId} {m : Nat} {is : Cod} (hb : EO Tryz.prog n e w bs (.slice (some ⟨w.heap.size, 0, none⟩) m m) (w.alloc (.cells (rws inc is).toArray 203))) (hm : is.length = m) (hR : CM E w ow O S (f :: q)) (ha : evArgs n (upd e d1 (.slice (some ⟨w.heap.size, 0, none⟩) m m)) [fp, .tmp d1] = some [fptr E f.j, .slice (some ⟨w.heap.size, 0, none⟩) m m]) (hl : f.code.length + is.length ≤ 100000)
    (K : ∀ w' ow', Xt w ow ow' → Fram (tg ow cpT) w w' → CM E w' ow' O S ({ f with code := f.code ++ is } :: q) → WL Tryz.prog ops Q rest (Fr n (upd (upd e d1 (.slice (some ⟨w.heap.size, 0, none⟩) m m)) d2 (.tuple #[])) ds) w') :
    WL Tryz.prog ops Q (⟨some d1, bs, ty1, ps1, af1, none⟩ :: ⟨some d2, .call ⟨.value (.func 80), #[fp, .tmp d1], ats⟩, ty2, ps2, af2, none⟩ :: rest) (Fr n e ds) w := by
  refine wle hb ?_
  have hF : Fram none' w (w.alloc (.cells (rws inc is).toArray 203)) := Fram.alloc none' w _
  refine wl_call ha en_80 (emit80 (hR.thruN hF) (is := is) (Blk.new w (rws inc is) 203) (by rw [List.drop_zero, List.take_of_length_le (by rw [rws_len inc_len]; omega)]) hm hl) ?_
  rintro _ w' ⟨rfl, ow', x, fr, hR'⟩
  exact K w' ow' (Xt.trans (w1 := w.alloc (.cells (rws inc is).toArray 203)) (Xt.refl _ _) hF.size x) (((hF.wide (G := tg ow cpT))).trans' fr (fun _ _ q => q)) hR'
end
end Go.Proofs.Qxb6500568aGreatDoor
