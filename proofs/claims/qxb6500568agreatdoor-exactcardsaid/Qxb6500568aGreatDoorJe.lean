import Derived.Test.Qxb6500568aGreatDoorJd
/- The compiler: break. -/
namespace Go.Proofs.Qxb6500568aGreatDoor
open Ieee
set_option linter.unusedVariables false
set_option linter.unusedSimpArgs false
set_option linter.unusedSectionVars false

/-- what the row of function j holds of its loops. -/
def LpC (E : ZEnv) (w : World) (j : Nat) (v : Value) : Prop := ∃ l, Blk w.heap E.gb l 199 ∧ l[j * 11 + 10]? = some v
def cdF (E : ZEnv) (ow : Nat → Nat) (j : Nat) : Nat → Prop := fun b => b = E.gb ∨ ow b = 260 + j
section
variable {E : ZEnv} {w w1 w' u1 u2 : World} {ow ow' : Nat → Nat} {O : List Nat} {S : Fns} {f : ZAct} {q A : List ZAct} {R : List ZRow} {z : ZSl}
theorem CM.codeF (h : CM E w ow O S (f :: q)) (op : ZOp E w ow O S (f :: q) f R z) {c' : Cod} {va : Option Addr} {vc : Nat} (hF : Fram none' w w1) (hon : Own u1.heap (.slice va c'.length vc) 203 2 c'.length (rws inc c')) (G1 : Fram (own1 (.slice z.ca f.code.length z.cc)) w1 u1) (hnb : nob (.slice z.ca f.code.length z.cc) (.slice va c'.length vc) w1)
    (fr : Fram (one E.gb) u1 u2) (hB : Blk u2.heap E.gb ((rws fnc R).set (f.j * 11 + 9) (.slice va c'.length vc)) 199) : ∃ ow', Xt w ow ow' ∧ Fram (cdF E ow f.j) w u2 ∧ CM E u2 ow' O S ({ f with code := c' } :: q) ∧ ∀ v, LpC E w f.j v → LpC E u2 f.j v := by
  obtain ⟨ow', x1, -, x3⟩ := h.codeS op hF hon G1 hnb fr hB
  obtain ⟨-, -, y3⟩ := zapp3 h.ta h.gl op.code hF hon G1 hnb fr (by have := op.j; omega)
  refine ⟨ow', x1, y3, x3, fun v ⟨l, h1, h2⟩ => ⟨_, hB, ?_⟩⟩
  rw [List.getElem?_set_ne (by omega)]
  rw [(Blk.uniq h1 op.B).1] at h2
  exact h2
set_option maxHeartbeats 4000000 in
theorem emit80F (hR : CM E w ow O S (f :: q)) {is : Cod} {nb nt m2 c2 : Nat} {l2 : List Value} (hI : Blk w.heap nb l2 nt) (h2 : (l2.drop 0).take (m2 * 2) = rws inc is) (hm2 : is.length = m2) (hb : f.code.length + is.length ≤ 100000) :
    Ret Tryz.prog 80 [fptr E f.j, .slice (some ⟨nb, 0, none⟩) m2 c2] w (fun r w' => r = .tuple #[] ∧ ∃ ow', Xt w ow ow' ∧ Fram (cdF E ow f.j) w w' ∧ CM E w' ow' O S ({ f with code := f.code ++ is } :: q) ∧ ∀ v, LpC E w f.j v → LpC E w' f.j v) := by
  have hF : Fram none' w w := Fram.refl _ _
  obtain ⟨R_, z_, op⟩ := hR.open (f := f) (by simp)
  have hG := op.B
  have hob : ∀ c, own1 (.slice z_.ca f.code.length z_.cc) c → c ≠ E.gb ∧ c < w.heap.size := fun c y => ⟨fun e => by have := op.code.t _ y; rw [e, hR.ta] at this; have := op.j; omega, op.code.o.lt y⟩
  refine ret_of Tryz.func80 rfl Tryz.ntmps80 rfl ?_
  refine c_reg ?_ -- region 0 fn.go:57
  refine wl (ro_move rfl) ?_
  refine wl (ro_move rfl) ?_
  refine wl (ro_nilCheck rfl) ?_
  refine wl (ro_fieldAddr (k := 9) rfl fo_199_9) ?_
  refine wl (ro_loadB rfl sc_196 hG (op.row 9 (by decide))) ?_
  refine wl (ro_move rfl) ?_
  refine wl_app (t := 196) (et := 203) (k := 2) (m := f.code.length) (news := rws inc is) rfl rfl se_196 zx_203 by_203 rfl op.code.o hI h2 (by rw [rws_len inc_len]; omega) (rws_oneC inc_one is) (by omega) (by omega) ?_
  intro v' u1 hon hg hloc
  have G1 : Fram (own1 (.slice z_.ca f.code.length z_.cc)) w u1 := Fram.grown hg (fun k hk => .inl hk)
  have hnb : nob (.slice z_.ca f.code.length z_.cc) v' w := fun b hb => by
    rcases hloc with h | h
    · rw [h] at hb; exact .inl hb
    · rw [h] at hb; cases hb; exact .inr (Nat.le_refl _)
  rw [← rws_app, ← hm2, ← List.length_append] at hon
  obtain ⟨va, vc, rfl⟩ := hon.form
  replace hG := G1.blkF hG (fun y => (hob _ y).1 rfl)
  refine wl (ro_nilCheck rfl) ?_
  refine wl (ro_fieldAddr (k := 9) rfl fo_199_9) ?_
  refine wl_put rfl rfl rfl sz_196 hG ((by show _ < (rws fnc R_).length; rw [rws_len fnc_len, op.l]; have := op.j; omega)) (rfl) (fun w1 hG F1 => ?_)
  have hF3 := (F1)
  refine wl_nil ?_
  refine bp_end Tryz.results80 rfl ?_
  exact ⟨rfl, hR.codeF op hF hon G1 hnb hF3 hG⟩
end
section
variable {n : Nat} {e : Nat → Option Value} {ds : List Deferred} {w : World} {ops : Array Oper} {Q : Exit → Act → World → Prop} {rest : List Oper} {d1 d2 : Nat} {bs : Op} {ty1 ty2 : TypeId} {ps1 ps2 : String} {af1 af2 : Array Edge}
  {E : ZEnv} {ow : Nat → Nat} {O : List Nat} {S : Fns} {f : ZAct} {q : List ZAct}
theorem wl_emF {fp : Operand} {ats : Array TypeId} {m : Nat} {is : Cod} (hb : EO Tryz.prog n e w bs (.slice (some ⟨w.heap.size, 0, none⟩) m m) (w.alloc (.cells (rws inc is).toArray 203))) (hm : is.length = m) (hR : CM E w ow O S (f :: q)) (ha : evArgs n (upd e d1 (.slice (some ⟨w.heap.size, 0, none⟩) m m)) [fp, .tmp d1] = some [fptr E f.j, .slice (some ⟨w.heap.size, 0, none⟩) m m]) (hl : f.code.length + is.length ≤ 100000)
    (K : ∀ w' ow', Xt w ow ow' → Fram (cdF E ow f.j) w w' → CM E w' ow' O S ({ f with code := f.code ++ is } :: q) → (∀ v, LpC E w f.j v → LpC E w' f.j v) → WL Tryz.prog ops Q rest (Fr n (upd (upd e d1 (.slice (some ⟨w.heap.size, 0, none⟩) m m)) d2 (.tuple #[])) ds) w') :
    WL Tryz.prog ops Q (⟨some d1, bs, ty1, ps1, af1, none⟩ :: ⟨some d2, .call ⟨.value (.func 80), #[fp, .tmp d1], ats⟩, ty2, ps2, af2, none⟩ :: rest) (Fr n e ds) w := by
  refine wle hb ?_
  have hF : Fram none' w (w.alloc (.cells (rws inc is).toArray 203)) := Fram.alloc none' w _
  refine wl_call ha en_80 (emit80F (hR.thruN hF) (is := is) (Blk.new w (rws inc is) 203) (by rw [List.drop_zero, List.take_of_length_le (by rw [rws_len inc_len]; omega)]) hm hl) ?_
  rintro _ w' ⟨rfl, ow', x, fr, hR', hL⟩
  exact K w' ow' (Xt.trans (w1 := w.alloc (.cells (rws inc is).toArray 203)) (Xt.refl _ _) hF.size x) (((hF.wide (G := cdF E ow f.j))).trans' fr (fun _ _ q => q)) hR' (fun v ⟨l, h1, h2⟩ => hL v ⟨l, hF.blkN h1, h2⟩)
end
section
variable {E : ZEnv} {w w1 w' u1 u2 : World} {ow ow' : Nat → Nat} {O : List Nat} {S : Fns} {f : ZAct} {q A : List ZAct} {R : List ZRow} {z : ZSl}
set_option maxHeartbeats 4000000 in
theorem jump195F (hR : CM E w ow O S (f :: q)) {oc : Nat} (hc : f.code.length ≤ 50000) :
    Ret Tryz.prog 195 [fptr E f.j, u8n oc] w (fun r w' => ∃ ow', Xt w ow ow' ∧ Fram (cdF E ow f.j) w w' ∧ CM E w' ow' O S ({ f with code := f.code ++ [(oc, 65535)] } :: q) ∧ Pat E w' ow' f.j f.code.length r ∧ ∀ v, LpC E w f.j v → LpC E w' f.j v) := by
  have hF : Fram none' w w := Fram.refl _ _
  refine ret_of Tryz.func195 rfl Tryz.ntmps195 rfl ?_
  refine c_seq (fun K1 hK1 => ?_)
  refine c_reg ?_ -- region 0 fn.go:60
  refine wl_box rfl rfl (fun b2 w1 hbb2 h2 F1 => ?_)
  have hbsb2 := Nat.le_trans hF.size hbb2
  have kh2 := hR.df b2 hbb2
  replace hF := hF.thenDrew.thenN F1
  replace hR := hR.thruN ((Fram.refl none' _).thenDrew.thenN F1)
  refine wl (ro_assign rfl) ?_
  refine wl_nil (x_then (hK1 _ _ ?_))
  clear hK1 K1
  refine forget [(1, _), (2, _)] ⟨rfl, rfl, trivial⟩ (fun e => ?_)
  refine c_seq (fun K2 hK2 => ?_)
  obtain ⟨R_, z_, op⟩ := hR.open (f := f) (by simp)
  have hG := op.B
  have hC := hR.cb
  have khG := hR.ta
  have khC := hR.tc
  refine c_reg ?_ -- region 1 fn.go:61
  refine wl (ro_loadB rfl sc_128 (h2) rfl) ?_
  refine wl (ro_nilCheck rfl) ?_
  refine wl (ro_fieldAddr (k := 9) rfl fo_199_9) ?_
  refine wl (ro_loadB rfl sc_196 hG (op.row 9 (by decide))) ?_
  refine wl (ro_lenL rfl se_196) ?_
  refine wl_new (ze_3) (fun b5 w2 hbb5 h5 F2 => ?_)
  have hbsb5 := Nat.le_trans hF.size hbb5
  have hneb2b5 : b2 < b5 := Nat.lt_of_lt_of_le h2.lt hbb5
  have hneE.gbb5 : E.gb < b5 := Nat.lt_of_lt_of_le hG.lt hbb5
  have hneE.cbb5 : E.cb < b5 := Nat.lt_of_lt_of_le hC.lt hbb5
  have kh5 := hR.df b5 hbb5
  replace hF := hF.thenDrew.thenN F2
  replace hR := hR.thruN ((Fram.refl none' _).thenDrew.thenN F2)
  replace h2 := F2.blkN h2
  replace hG := F2.blkN hG
  replace hC := F2.blkN hC
  refine wl_put rfl rfl rfl sz_3 h5 (by simp) (rfl) (fun w3 h5 F3 => ?_)
  replace hF := hF.thenDrew.thenO F3 (by first | exact .inr (by omega) | exact .inl rfl | exact .inl (by assumption) | assumption)
  replace hR := hR.hbput ((Fram.refl (one b5) _).thenDrew.thenO F3 (.inl rfl))
  replace h2 := F3.blkO h2 (by first | omega | exact ow_ne (by assumption) (by assumption) (by omega))
  replace hG := F3.blkO hG (by first | omega | exact ow_ne (by assumption) (by assumption) (by omega))
  replace hC := F3.blkO hC (by first | omega | exact ow_ne (by assumption) (by assumption) (by omega))
  refine wl_nil (x_then (hK2 _ _ ?_))
  clear hK2 K2
  refine forget [(1, _), (2, _), (5, _)] ⟨rfl, rfl, rfl, trivial⟩ (fun e => ?_)
  refine c_seq (fun K3 hK3 => ?_)
  refine c_reg ?_ -- region 2 fn.go:62
  refine wl (ro_loadB rfl sc_128 (by assumption) rfl) ?_
  refine wl (ro_move rfl) ?_
  refine wl (ro_build rfl bld_203_0_1) ?_
  refine wl_emF (is := [(oc, 65535)]) (eo_bsI1 rfl se_196 zx_203) rfl hR rfl (by simp; omega) ?_
  intro u4 ow4 x4 f4 r4 hL4
  have hsw := hF.size
  have hn2 : ∀ b, ow b = 66 → ¬ cdF E ow f.j b := fun b h y => by
    have hj := (hR.mem f (by simp)).2
    rcases y with y | y
    · rw [y, hR.ta] at h; omega
    · omega
  have hl2 := h2.lt
  have hl5 := h5.lt
  replace h2 := h2.fram f4 (hn2 _ kh2)
  replace h5 := h5.fram f4 (hn2 _ kh5)
  replace kh2 : ow4 b2 = 66 := by rw [x4 _ hl2]; exact kh2
  replace kh5 : ow4 b5 = 66 := by rw [x4 _ hl5]; exact kh5
  skip
  refine wl_nil (x_then (hK3 _ _ ?_))
  clear hK3 K3
  refine forget [(2, _), (5, _)] ⟨rfl, rfl, trivial⟩ (fun e => ?_)
  refine c_seq (fun K4 hK4 => ?_)
  refine c_reg ?_ -- region 3 fn.go:63
  refine wl (ro_makeFunc (caps := [.tmp 2, .tmp 5]) rfl) ?_
  refine wl (ro_assign rfl) ?_
  refine wl_nil (x_then (hK4 _ _ ?_))
  clear hK4 K4
  refine c_ret ?_
  refine bp_ret Tryz.results195 rfl ?_
  refine ⟨ot (ot ow4 b2 301) b5 301, fun b hb ↦ ?_, (hF.wide (G := cdF E ow f.j)).trans' f4 (fun _ _ y ↦ y), r4.rt (fun b hb q ↦ ?_) (fun b hb ↦ ?_), ⟨b2, b5, rfl, h2, ?_, h5, ot_self _ _ _⟩, fun v ⟨l, h1, h9⟩ ↦ hL4 v ⟨l, hF.blkN h1, h9⟩⟩
  · rw [ot_old (by omega), ot_old (by omega)]; exact x4 b (by omega)
  · rw [ot_old (fun e ↦ q (by rw [e]; exact kh5)), ot_old (fun e ↦ q (by rw [e]; exact kh2))]
  · have := h2.lt
    have := h5.lt
    rw [ot_old (by omega), ot_old (by omega)]; exact r4.df b hb
  · rw [ot_old (by omega), ot_self]
end
end Go.Proofs.Qxb6500568aGreatDoor
