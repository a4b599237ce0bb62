import Derived.Test.Qxb6500568aGreatDoorDa
/- The real tables: turn, index. -/
namespace Go.Proofs.Qxb6500568aGreatDoor
open Ieee
set_option linter.unusedVariables false
set_option linter.unusedSimpArgs false

theorem Blk.ne_ty {H : Array Obj} {b c : Nat} {l l' : List Value} {t t' : TypeId} (h : Blk H b l t) (h' : Blk H c l' t') (hn : t ≠ t') : b ≠ c := fun e => by subst e; exact hn (Blk.uniq h h').2
/-- The arena's row at o put anew. -/
def rowS (l : List Value) (o : Nat) (cs : List Value) : List Value := l.take o ++ cs ++ l.drop (o + 6)
def tbF (ab : Nat) (ow : Nat → Nat) (tag : Nat) : Nat → Prop := fun b => b = ab ∨ (tag ≤ ow b ∧ ow b < tag + 5)
theorem row_split {l cs : List Value} {o k : Nat} (h : (l.drop o).take k = cs) : l = l.take o ++ cs ++ l.drop (o + k) := by
  subst h
  rw [List.append_assoc, ← List.drop_drop, List.take_append_drop, List.take_append_drop]
theorem row_len {l cs : List Value} {o k : Nat} (h : (l.drop o).take k = cs) (hk : cs.length = k) (h0 : 0 < k) : o + k ≤ l.length := by
  have := congrArg List.length h
  rw [List.length_take, List.length_drop] at this
  omega
/-- One cell of a row put anew. -/
theorem row_set {l cs : List Value} {o k j : Nat} {v : Value} (h : (l.drop o).take k = cs) (hk : cs.length = k) (hj : j < k) : l.set (o + j) v = l.take o ++ cs.set j v ++ l.drop (o + k) := by
  have hl := row_len h hk (by omega)
  conv => lhs; rw [row_split h]
  have e : (l.take o).length = o := by rw [List.length_take]; omega
  rw [List.append_assoc, List.set_append_right _ _ (by omega), e, List.set_append_left _ _ (by omega), show o + j - o = j by omega, ← List.append_assoc]
theorem row_back {l cs : List Value} {o k : Nat} (hl : o ≤ l.length) (hk : cs.length = k) : ((l.take o ++ cs ++ l.drop (o + k)).drop o).take k = cs := by
  rw [List.append_assoc, List.drop_left' (by simp; omega), List.take_left' hk]
theorem row_twice {l cs ds : List Value} {o k : Nat} (hl : o ≤ l.length) (hk : cs.length = k) : (l.take o ++ cs ++ l.drop (o + k)).take o ++ ds ++ (l.take o ++ cs ++ l.drop (o + k)).drop (o + k) = l.take o ++ ds ++ l.drop (o + k) := by
  rw [List.append_assoc (l.take o), List.take_left' (by simp; omega), ← List.append_assoc (l.take o), List.drop_left' (by simp; omega)]

def turnT (t : TM) (p : Nat) (v : PV) (was : Bool) : TM := { t with R := { t.R with ord := t.R.ord.modify p fun x => (x.1, v), dead := deadN t.R.dead was (decide (v.T = 0)) } }
theorem turn_fin {w w' : World} {ow : Nat → Nat} {ab o tag p g cap : Nat} {l lo : List Value} {t : TM} {v : PV} {x : PV × PV} {was : Bool} {l' : List Value} (hT : TV w ow tag t) (hx : t.R.ord[p]? = some x) (hvo : t.vo = .slice (some ⟨g, 0, none⟩) t.R.ord.length cap) (k1 : t.R.ord.length ≤ cap) (hcap : cap ≤ 9223372036854775807) (k2 : lo.length = cap * 6) (k3 : lo.take (t.R.ord.length * 6) = rws enc t.R.ord) (k4 : ow g = tag)
    (hab : ∀ b, tag ≤ ow b → ow b < tag + 5 → b < w.heap.size → b ≠ ab) (hA : Blk w'.heap ab l' 251) (hl' : l' = rowS l o (tmc (turnT t p v was))) (hO : Blk w'.heap g (lo.take (0 + p * 6 + 3) ++ (pvc v) ++ lo.drop (0 + p * 6 + 3 + 3)) 263) (hF : Fram (tbF ab ow tag) w w') (hG : Fram (fun b => b = ab ∨ b = g) w w') :
    Blk w'.heap ab (rowS l o (tmc (turnT t p v was))) 251 ∧ TV w' ow tag (turnT t p v was) ∧ Fram (tbF ab ow tag) w w' := by
  subst hl'
  refine ⟨hA, ?_, hF⟩
  have hts : (t.R.ord.modify p fun x => (x.1, v)) = t.R.ord.set p (x.1, v) := modify_set hx
  have h6 : 0 + p * 6 + 3 = p * 6 + 3 := by omega
  rw [h6] at hO
  have hput := OwT.put (w' := w') (ow := ow) (x' := (x.1, v)) enc_len hO k1 hcap k2 k3 k4 rfl hx rfl (by omega) (enc_val x v)
  have hnm : ∀ b, tag < ow b → ow b < tag + 5 → b < w.heap.size → ¬ (b = ab ∨ b = g) := fun b h1 h2 h3 h => by
    rcases h with h | h
    · exact hab b (by omega) h2 h3 h
    · subst h; omega
  refine ⟨?_, hT.a.far hG (fun b hb hl => hnm b (by omega) (by omega) hl) (Xt.refl _ _), hT.n.fram hG (hnm _ (by rw [hT.nt]; omega) (by rw [hT.nt]; omega) hT.n.lt), hT.s.fram hG (hnm _ (by rw [hT.st]; omega) (by rw [hT.st]; omega) hT.s.lt), hT.r.fram hG (hnm _ (by rw [hT.rt]; omega) (by rw [hT.rt]; omega) hT.r.lt), hT.nt, hT.st, hT.rt⟩
  show OwT w' ow tag t.vo 263 6 (t.R.ord.modify p fun x => (x.1, v)).length (rws enc (t.R.ord.modify p fun x => (x.1, v)))
  rw [hts, List.length_set, hvo]
  exact hput
set_option maxHeartbeats 4000000 in
theorem turn145TT {w : World} {ow : Nat → Nat} {ab o tag p : Nat} {l : List Value} {t : TM} {v : PV} {x : PV × PV} (hA : Blk w.heap ab l 251) (hl : (l.drop o).take 6 = tmc t) (hT : TV w ow tag t) (hx : t.R.ord[p]? = some x) (hxw : wfV x.2 = true) (hv : wfV v = true)
    (hd : t.R.dead < 1000 ∧ (x.2.T = 0 → 0 < t.R.dead)) (hwas : decide (x.2.T = 0) = true) (hnow : decide (v.T = 0) = true) (hab : ∀ b, tag ≤ ow b → ow b < tag + 5 → b < w.heap.size → b ≠ ab) : Ret Tryz.prog 145 [ptrAt ab o, i64c p, pv v] w (fun r w' => Blk w'.heap ab (rowS l o (tmc (turnT t p v (decide (x.2.T = 0))))) 251 ∧ TV w' ow tag (turnT t p v (decide (x.2.T = 0))) ∧ Fram (tbF ab ow tag) w w') := by
  have hF : Fram (tbF ab ow tag) w w := Fram.refl _ _
  have hG : Fram (one ab) w w := Fram.refl _ _
  have hAl := hA.lt
  have hma : tbF ab ow tag ab := .inl rfl
  obtain ⟨g, cap, lo, hvo, hO, k1, k2, k3, k4, k5⟩ := hT.o.at enc_len hx
  have hOl := hO.lt
  have hmg : tbF ab ow tag g := .inr (by omega)
  have hne : g ≠ ab := Blk.ne_ty hO hA (by decide)
  have hcap := hT.o.cap hvo
  have e2 : (lo.drop (0 + p * 6 + 3)).take 3 = pvc x.2 := by
    have := congrArg (fun x => (List.drop 3 x).take 3) (k5 p x hx)
    simp only [List.drop_take, List.drop_drop, List.take_take] at this
    simpa [enc, pvc] using this
  have hpl := (List.getElem?_eq_some_iff.1 hx).1
  have hb6 := Nat.mul_le_mul_right 6 (show p + 1 ≤ t.R.ord.length from hpl)
  have hb7 := Nat.mul_le_mul_right 6 k1
  have hol := row_len hl rfl (by omega)
  have hwas' := hwas
  simp only [decide_eq_true_eq, decide_eq_false_iff_not] at hwas'
  have hG : Fram (fun b => b = ab ∨ b = g) w w := Fram.refl _ _
  have hm1 : ab = ab ∨ ab = g := .inl rfl
  have hm2 : g = ab ∨ g = g := .inr rfl
  refine ret_of Tryz.func145 rfl Tryz.ntmps145 rfl ?_
  refine c_seq (fun K1 hK1 => ?_)
  refine c_reg ?_ -- region 0 index.go:66
  refine wl_box rfl rfl (fun b5 w1 hbb5 h5 F1 => ?_)
  have hbsb5 := Nat.le_trans hF.size hbb5
  have hbsb5 := Nat.le_trans hG.size hbb5
  have hneabb5 : ab < b5 := Nat.lt_of_lt_of_le hA.lt hbb5
  have hnegb5 : g < b5 := Nat.lt_of_lt_of_le hO.lt hbb5
  replace hF := hF.thenDrew.thenN F1
  replace hG := hG.thenDrew.thenN F1
  replace hA := F1.blkN hA
  replace hO := F1.blkN hO
  refine wl_nil (x_then (hK1 _ _ ?_))
  clear hK1 K1
  refine forget [(0, _), (1, _), (5, _)] ⟨rfl, rfl, rfl, trivial⟩ (fun e => ?_)
  refine c_seq (fun K2 hK2 => ?_)
  refine c_reg ?_ -- region 1 index.go:67
  refine wl (ro_move rfl) ?_
  refine wl (ro_nilCheck rfl) ?_
  refine wl (ro_fieldAddr (k := 0) rfl fo_251_0) ?_
  refine wl (ro_loadB rfl sc_246 (hA) ((row_cell3 (j := 0) hl (by show some t.vo = _; rw [hvo])))) ?_
  refine wl (ro_move rfl) ?_
  refine wl (ro_indexAddr (et := 263) (k := 6) rfl rfl se_246 rfl (by omega)) ?_
  refine wl (ro_fieldAddr (k := 3) rfl fo_263_1) ?_
  refine wl (ro_loadAggB rfl ag_119 (hO) (rfl) (e2)) ?_
  refine wl_call rfl en_146 (isNil146 (v := x.2)) ?_
  rintro _ w2 ⟨rfl, F2⟩
  rw [eqV_nil hxw, hwas]
  replace hF := hF.thenDrew.thenN F2
  replace hG := hG.thenDrew.thenN F2
  replace hA := F2.blkN hA
  replace hO := F2.blkN hO
  replace h5 := F2.blkN h5
  refine wl (ro_assign rfl) ?_
  refine wl_nil (x_then (hK2 _ _ ?_))
  clear hK2 K2
  refine forget [(0, _), (1, _), (5, _), (6, _)] ⟨rfl, rfl, rfl, rfl, trivial⟩ (fun e => ?_)
  refine c_seq (fun K3 hK3 => ?_)
  refine c_reg ?_ -- region 2 index.go:68
  refine wl (ro_loadAggB rfl ag_119 (by assumption) rfl rfl) ?_
  refine wl_call rfl en_146 (isNil146 (v := v)) ?_
  rintro _ w3 ⟨rfl, F3⟩
  rw [eqV_nil hv, hnow]
  replace hF := hF.thenDrew.thenN F3
  replace hG := hG.thenDrew.thenN F3
  replace hA := F3.blkN hA
  replace hO := F3.blkN hO
  replace h5 := F3.blkN h5
  refine wl (ro_assign rfl) ?_
  refine wl_nil (x_then (hK3 _ _ ?_))
  clear hK3 K3
  refine c_seq (fun K4 hK4 => ?_)
  refine c_seq (fun K5 hK5 => ?_)
  refine c_reg ?_ -- region 3 index.go:69
  refine wl (ro_move rfl) ?_
  refine wl (ro_move rfl) ?_
  refine wlg_yes rfl (ro_move rfl) ?_
  refine wlg_yes rfl (ro_not rfl) ?_
  refine wl (ro_pick rfl rfl rfl) ?_
  refine wl_nil (x_then (hK5 _ _ ?_))
  clear hK5 K5
  refine wc_condF rfl ?_
  refine c_skip (x_then (hK4 _ _ ?_))
  clear hK4 K4
  refine c_seq (fun K6 hK6 => ?_)
  refine c_seq (fun K7 hK7 => ?_)
  refine c_reg ?_ -- region 5 index.go:72
  refine wl (ro_move rfl) ?_
  refine wl (ro_move rfl) ?_
  refine wlg_yes rfl (ro_move rfl) ?_
  refine wlg_yes rfl (ro_not rfl) ?_
  refine wl (ro_pick rfl rfl rfl) ?_
  refine wl_nil (x_then (hK7 _ _ ?_))
  clear hK7 K7
  refine wc_condF rfl ?_
  refine c_skip (x_then (hK6 _ _ ?_))
  clear hK6 K6
  refine c_piL 8 [(0, false), (1, false), (2, false), (3, false), (4, false), (5, false), (6, false), (7, false)] (SameH _) mixed (by kernel_rfl) rfl (by kernel_rfl) (po_bp) (sameH_now _ _) ?_ -- region 7 index.go:75
  refine ql_ro rfl (fun w hS => ro_move rfl) ?_
  refine ql_ro rfl (fun w hS => ro_nilCheck rfl) ?_
  refine ql_ro rfl (fun w hS => ro_fieldAddr (k := 0) rfl fo_251_0) ?_
  refine ql_ro rfl (fun w hS => ro_loadB rfl sc_246 (Blk.of_heap hA hS) ((row_cell3 (j := 0) hl (by show some t.vo = _; rw [hvo])))) ?_
  refine ql_ro rfl (fun w hS => ro_move rfl) ?_
  refine ql_ro rfl (fun w hS => ro_loadAggB rfl ag_119 (Blk.of_heap (by assumption) hS) rfl rfl) ?_
  refine ql_ro rfl (fun w hS => ro_indexAddr (et := 263) (k := 6) rfl rfl se_246 rfl (by omega)) ?_
  refine ql_ro rfl (fun w hS => ro_fieldAddr (k := 3) rfl fo_263_1) ?_
  refine ql_puta rfl rfl rfl ((pvc_one _)) sz_119 (rfl) hO ((by omega)) (rfl) (fun w4 hO F4 => ?_)
  replace hF := hF.thenDrew.thenO F4 (by first | exact .inr (by omega) | exact .inl rfl | exact .inl (by assumption) | assumption)
  replace hG := hG.thenDrew.thenO F4 (by first | exact .inr (by omega) | exact .inl rfl | exact .inl (by assumption) | assumption)
  replace hA := F4.blkO hA (by omega)
  replace h5 := F4.blkO h5 (by omega)
  refine ?_
  refine bp_end Tryz.results145 rfl ?_
  exact turn_fin hT hx hvo k1 hcap k2 k3 k4 hab hA (by show _ = l.take o ++ (tmc t).set 5 (i64c (deadN t.R.dead (decide (x.2.T = 0)) (decide (v.T = 0)))) ++ l.drop (o + 6); rw [hwas, hnow, show deadN t.R.dead true true = t.R.dead from rfl]; exact row_split hl) hO hF hG
set_option maxHeartbeats 4000000 in
theorem turn145TF {w : World} {ow : Nat → Nat} {ab o tag p : Nat} {l : List Value} {t : TM} {v : PV} {x : PV × PV} (hA : Blk w.heap ab l 251) (hl : (l.drop o).take 6 = tmc t) (hT : TV w ow tag t) (hx : t.R.ord[p]? = some x) (hxw : wfV x.2 = true) (hv : wfV v = true)
    (hd : t.R.dead < 1000 ∧ (x.2.T = 0 → 0 < t.R.dead)) (hwas : decide (x.2.T = 0) = true) (hnow : decide (v.T = 0) = false) (hab : ∀ b, tag ≤ ow b → ow b < tag + 5 → b < w.heap.size → b ≠ ab) : Ret Tryz.prog 145 [ptrAt ab o, i64c p, pv v] w (fun r w' => Blk w'.heap ab (rowS l o (tmc (turnT t p v (decide (x.2.T = 0))))) 251 ∧ TV w' ow tag (turnT t p v (decide (x.2.T = 0))) ∧ Fram (tbF ab ow tag) w w') := by
  have hF : Fram (tbF ab ow tag) w w := Fram.refl _ _
  have hG : Fram (one ab) w w := Fram.refl _ _
  have hAl := hA.lt
  have hma : tbF ab ow tag ab := .inl rfl
  obtain ⟨g, cap, lo, hvo, hO, k1, k2, k3, k4, k5⟩ := hT.o.at enc_len hx
  have hOl := hO.lt
  have hmg : tbF ab ow tag g := .inr (by omega)
  have hne : g ≠ ab := Blk.ne_ty hO hA (by decide)
  have hcap := hT.o.cap hvo
  have e2 : (lo.drop (0 + p * 6 + 3)).take 3 = pvc x.2 := by
    have := congrArg (fun x => (List.drop 3 x).take 3) (k5 p x hx)
    simp only [List.drop_take, List.drop_drop, List.take_take] at this
    simpa [enc, pvc] using this
  have hpl := (List.getElem?_eq_some_iff.1 hx).1
  have hb6 := Nat.mul_le_mul_right 6 (show p + 1 ≤ t.R.ord.length from hpl)
  have hb7 := Nat.mul_le_mul_right 6 k1
  have hol := row_len hl rfl (by omega)
  have hwas' := hwas
  simp only [decide_eq_true_eq, decide_eq_false_iff_not] at hwas'
  have hG : Fram (fun b => b = ab ∨ b = g) w w := Fram.refl _ _
  have hm1 : ab = ab ∨ ab = g := .inl rfl
  have hm2 : g = ab ∨ g = g := .inr rfl
  refine ret_of Tryz.func145 rfl Tryz.ntmps145 rfl ?_
  refine c_seq (fun K1 hK1 => ?_)
  refine c_reg ?_ -- region 0 index.go:66
  refine wl_box rfl rfl (fun b5 w1 hbb5 h5 F1 => ?_)
  have hbsb5 := Nat.le_trans hF.size hbb5
  have hbsb5 := Nat.le_trans hG.size hbb5
  have hneabb5 : ab < b5 := Nat.lt_of_lt_of_le hA.lt hbb5
  have hnegb5 : g < b5 := Nat.lt_of_lt_of_le hO.lt hbb5
  replace hF := hF.thenDrew.thenN F1
  replace hG := hG.thenDrew.thenN F1
  replace hA := F1.blkN hA
  replace hO := F1.blkN hO
  refine wl_nil (x_then (hK1 _ _ ?_))
  clear hK1 K1
  refine forget [(0, _), (1, _), (5, _)] ⟨rfl, rfl, rfl, trivial⟩ (fun e => ?_)
  refine c_seq (fun K2 hK2 => ?_)
  refine c_reg ?_ -- region 1 index.go:67
  refine wl (ro_move rfl) ?_
  refine wl (ro_nilCheck rfl) ?_
  refine wl (ro_fieldAddr (k := 0) rfl fo_251_0) ?_
  refine wl (ro_loadB rfl sc_246 (hA) ((row_cell3 (j := 0) hl (by show some t.vo = _; rw [hvo])))) ?_
  refine wl (ro_move rfl) ?_
  refine wl (ro_indexAddr (et := 263) (k := 6) rfl rfl se_246 rfl (by omega)) ?_
  refine wl (ro_fieldAddr (k := 3) rfl fo_263_1) ?_
  refine wl (ro_loadAggB rfl ag_119 (hO) (rfl) (e2)) ?_
  refine wl_call rfl en_146 (isNil146 (v := x.2)) ?_
  rintro _ w2 ⟨rfl, F2⟩
  rw [eqV_nil hxw, hwas]
  replace hF := hF.thenDrew.thenN F2
  replace hG := hG.thenDrew.thenN F2
  replace hA := F2.blkN hA
  replace hO := F2.blkN hO
  replace h5 := F2.blkN h5
  refine wl (ro_assign rfl) ?_
  refine wl_nil (x_then (hK2 _ _ ?_))
  clear hK2 K2
  refine forget [(0, _), (1, _), (5, _), (6, _)] ⟨rfl, rfl, rfl, rfl, trivial⟩ (fun e => ?_)
  refine c_seq (fun K3 hK3 => ?_)
  refine c_reg ?_ -- region 2 index.go:68
  refine wl (ro_loadAggB rfl ag_119 (by assumption) rfl rfl) ?_
  refine wl_call rfl en_146 (isNil146 (v := v)) ?_
  rintro _ w3 ⟨rfl, F3⟩
  rw [eqV_nil hv, hnow]
  replace hF := hF.thenDrew.thenN F3
  replace hG := hG.thenDrew.thenN F3
  replace hA := F3.blkN hA
  replace hO := F3.blkN hO
  replace h5 := F3.blkN h5
  refine wl (ro_assign rfl) ?_
  refine wl_nil (x_then (hK3 _ _ ?_))
  clear hK3 K3
  refine c_seq (fun K4 hK4 => ?_)
  refine c_seq (fun K5 hK5 => ?_)
  refine c_reg ?_ -- region 3 index.go:69
  refine wl (ro_move rfl) ?_
  refine wl (ro_move rfl) ?_
  refine wlg_yes rfl (ro_move rfl) ?_
  refine wlg_yes rfl (ro_not rfl) ?_
  refine wl (ro_pick rfl rfl rfl) ?_
  refine wl_nil (x_then (hK5 _ _ ?_))
  clear hK5 K5
  refine wc_condT rfl ?_
  refine c_reg ?_ -- region 4 index.go:70
  refine wl (ro_move rfl) ?_
  refine wl (ro_nilCheck rfl) ?_
  refine wl (ro_fieldAddr (k := 5) rfl fo_251_5) ?_
  refine wl (ro_loadB rfl sc_3 (hA) ((row_cell3 hl rfl))) ?_
  refine wl (ro_arith rfl rfl rfl (Go.IntWalk.i64_in _ (by omega))) ?_
  refine wl (ro_nilCheck rfl) ?_
  refine wl (ro_fieldAddr (k := 5) rfl fo_251_5) ?_
  refine wl_put rfl rfl rfl sz_3 hA ((by omega)) ((row_set (j := 5) hl rfl (by omega))) (fun w4 hA F4 => ?_)
  replace hF := hF.thenDrew.thenO F4 (by first | exact .inr (by omega) | exact .inl rfl | exact .inl (by assumption) | assumption)
  replace hG := hG.thenDrew.thenO F4 (by first | exact .inr (by omega) | exact .inl rfl | exact .inl (by assumption) | assumption)
  replace hO := F4.blkO hO (by omega)
  replace h5 := F4.blkO h5 (by omega)
  replace hl := row_back (l := l) (o := o) (k := 6) (cs := (tmc t).set 5 (.int .i64 ((t.R.dead : Int) - 1))) (by omega) rfl
  refine wl_nil (x_then (hK4 _ _ ?_))
  clear hK4 K4
  refine c_seq (fun K6 hK6 => ?_)
  refine c_seq (fun K7 hK7 => ?_)
  refine c_reg ?_ -- region 5 index.go:72
  refine wl (ro_move rfl) ?_
  refine wl (ro_move rfl) ?_
  refine wlg_no rfl ?_
  refine wlg_no rfl ?_
  refine wl (ro_pick rfl rfl rfl) ?_
  refine wl_nil (x_then (hK7 _ _ ?_))
  clear hK7 K7
  refine wc_condF rfl ?_
  refine c_skip (x_then (hK6 _ _ ?_))
  clear hK6 K6
  refine c_piL 8 [(0, false), (1, false), (2, false), (3, false), (4, false), (5, false), (6, false), (7, false)] (SameH _) mixed (by kernel_rfl) rfl (by kernel_rfl) (po_bp) (sameH_now _ _) ?_ -- region 7 index.go:75
  refine ql_ro rfl (fun w hS => ro_move rfl) ?_
  refine ql_ro rfl (fun w hS => ro_nilCheck rfl) ?_
  refine ql_ro rfl (fun w hS => ro_fieldAddr (k := 0) rfl fo_251_0) ?_
  refine ql_ro rfl (fun w hS => ro_loadB rfl sc_246 (Blk.of_heap hA hS) ((row_cell3 (j := 0) hl (by show some t.vo = _; rw [hvo])))) ?_
  refine ql_ro rfl (fun w hS => ro_move rfl) ?_
  refine ql_ro rfl (fun w hS => ro_loadAggB rfl ag_119 (Blk.of_heap (by assumption) hS) rfl rfl) ?_
  refine ql_ro rfl (fun w hS => ro_indexAddr (et := 263) (k := 6) rfl rfl se_246 rfl (by omega)) ?_
  refine ql_ro rfl (fun w hS => ro_fieldAddr (k := 3) rfl fo_263_1) ?_
  refine ql_puta rfl rfl rfl ((pvc_one _)) sz_119 (rfl) hO ((by omega)) (rfl) (fun w5 hO F5 => ?_)
  replace hF := hF.thenDrew.thenO F5 (by first | exact .inr (by omega) | exact .inl rfl | exact .inl (by assumption) | assumption)
  replace hG := hG.thenDrew.thenO F5 (by first | exact .inr (by omega) | exact .inl rfl | exact .inl (by assumption) | assumption)
  replace hA := F5.blkO hA (by omega)
  replace h5 := F5.blkO h5 (by omega)
  refine ?_
  refine bp_end Tryz.results145 rfl ?_
  exact turn_fin hT hx hvo k1 hcap k2 k3 k4 hab hA (by show _ = l.take o ++ (tmc t).set 5 (i64c (deadN t.R.dead (decide (x.2.T = 0)) (decide (v.T = 0)))) ++ l.drop (o + 6); rw [hwas, hnow, show deadN t.R.dead true false = t.R.dead - 1 from rfl]; first | rfl | (rw [show ((t.R.dead : Int) - 1) = ((t.R.dead - 1 : Nat) : Int) by omega]; rfl)) hO hF hG
set_option maxHeartbeats 4000000 in
theorem turn145FT {w : World} {ow : Nat → Nat} {ab o tag p : Nat} {l : List Value} {t : TM} {v : PV} {x : PV × PV} (hA : Blk w.heap ab l 251) (hl : (l.drop o).take 6 = tmc t) (hT : TV w ow tag t) (hx : t.R.ord[p]? = some x) (hxw : wfV x.2 = true) (hv : wfV v = true)
    (hd : t.R.dead < 1000 ∧ (x.2.T = 0 → 0 < t.R.dead)) (hwas : decide (x.2.T = 0) = false) (hnow : decide (v.T = 0) = true) (hab : ∀ b, tag ≤ ow b → ow b < tag + 5 → b < w.heap.size → b ≠ ab) : Ret Tryz.prog 145 [ptrAt ab o, i64c p, pv v] w (fun r w' => Blk w'.heap ab (rowS l o (tmc (turnT t p v (decide (x.2.T = 0))))) 251 ∧ TV w' ow tag (turnT t p v (decide (x.2.T = 0))) ∧ Fram (tbF ab ow tag) w w') := by
  have hF : Fram (tbF ab ow tag) w w := Fram.refl _ _
  have hG : Fram (one ab) w w := Fram.refl _ _
  have hAl := hA.lt
  have hma : tbF ab ow tag ab := .inl rfl
  obtain ⟨g, cap, lo, hvo, hO, k1, k2, k3, k4, k5⟩ := hT.o.at enc_len hx
  have hOl := hO.lt
  have hmg : tbF ab ow tag g := .inr (by omega)
  have hne : g ≠ ab := Blk.ne_ty hO hA (by decide)
  have hcap := hT.o.cap hvo
  have e2 : (lo.drop (0 + p * 6 + 3)).take 3 = pvc x.2 := by
    have := congrArg (fun x => (List.drop 3 x).take 3) (k5 p x hx)
    simp only [List.drop_take, List.drop_drop, List.take_take] at this
    simpa [enc, pvc] using this
  have hpl := (List.getElem?_eq_some_iff.1 hx).1
  have hb6 := Nat.mul_le_mul_right 6 (show p + 1 ≤ t.R.ord.length from hpl)
  have hb7 := Nat.mul_le_mul_right 6 k1
  have hol := row_len hl rfl (by omega)
  have hwas' := hwas
  simp only [decide_eq_true_eq, decide_eq_false_iff_not] at hwas'
  have hG : Fram (fun b => b = ab ∨ b = g) w w := Fram.refl _ _
  have hm1 : ab = ab ∨ ab = g := .inl rfl
  have hm2 : g = ab ∨ g = g := .inr rfl
  refine ret_of Tryz.func145 rfl Tryz.ntmps145 rfl ?_
  refine c_seq (fun K1 hK1 => ?_)
  refine c_reg ?_ -- region 0 index.go:66
  refine wl_box rfl rfl (fun b5 w1 hbb5 h5 F1 => ?_)
  have hbsb5 := Nat.le_trans hF.size hbb5
  have hbsb5 := Nat.le_trans hG.size hbb5
  have hneabb5 : ab < b5 := Nat.lt_of_lt_of_le hA.lt hbb5
  have hnegb5 : g < b5 := Nat.lt_of_lt_of_le hO.lt hbb5
  replace hF := hF.thenDrew.thenN F1
  replace hG := hG.thenDrew.thenN F1
  replace hA := F1.blkN hA
  replace hO := F1.blkN hO
  refine wl_nil (x_then (hK1 _ _ ?_))
  clear hK1 K1
  refine forget [(0, _), (1, _), (5, _)] ⟨rfl, rfl, rfl, trivial⟩ (fun e => ?_)
  refine c_seq (fun K2 hK2 => ?_)
  refine c_reg ?_ -- region 1 index.go:67
  refine wl (ro_move rfl) ?_
  refine wl (ro_nilCheck rfl) ?_
  refine wl (ro_fieldAddr (k := 0) rfl fo_251_0) ?_
  refine wl (ro_loadB rfl sc_246 (hA) ((row_cell3 (j := 0) hl (by show some t.vo = _; rw [hvo])))) ?_
  refine wl (ro_move rfl) ?_
  refine wl (ro_indexAddr (et := 263) (k := 6) rfl rfl se_246 rfl (by omega)) ?_
  refine wl (ro_fieldAddr (k := 3) rfl fo_263_1) ?_
  refine wl (ro_loadAggB rfl ag_119 (hO) (rfl) (e2)) ?_
  refine wl_call rfl en_146 (isNil146 (v := x.2)) ?_
  rintro _ w2 ⟨rfl, F2⟩
  rw [eqV_nil hxw, hwas]
  replace hF := hF.thenDrew.thenN F2
  replace hG := hG.thenDrew.thenN F2
  replace hA := F2.blkN hA
  replace hO := F2.blkN hO
  replace h5 := F2.blkN h5
  refine wl (ro_assign rfl) ?_
  refine wl_nil (x_then (hK2 _ _ ?_))
  clear hK2 K2
  refine forget [(0, _), (1, _), (5, _), (6, _)] ⟨rfl, rfl, rfl, rfl, trivial⟩ (fun e => ?_)
  refine c_seq (fun K3 hK3 => ?_)
  refine c_reg ?_ -- region 2 index.go:68
  refine wl (ro_loadAggB rfl ag_119 (by assumption) rfl rfl) ?_
  refine wl_call rfl en_146 (isNil146 (v := v)) ?_
  rintro _ w3 ⟨rfl, F3⟩
  rw [eqV_nil hv, hnow]
  replace hF := hF.thenDrew.thenN F3
  replace hG := hG.thenDrew.thenN F3
  replace hA := F3.blkN hA
  replace hO := F3.blkN hO
  replace h5 := F3.blkN h5
  refine wl (ro_assign rfl) ?_
  refine wl_nil (x_then (hK3 _ _ ?_))
  clear hK3 K3
  refine c_seq (fun K4 hK4 => ?_)
  refine c_seq (fun K5 hK5 => ?_)
  refine c_reg ?_ -- region 3 index.go:69
  refine wl (ro_move rfl) ?_
  refine wl (ro_move rfl) ?_
  refine wlg_no rfl ?_
  refine wlg_no rfl ?_
  refine wl (ro_pick rfl rfl rfl) ?_
  refine wl_nil (x_then (hK5 _ _ ?_))
  clear hK5 K5
  refine wc_condF rfl ?_
  refine c_skip (x_then (hK4 _ _ ?_))
  clear hK4 K4
  refine c_seq (fun K6 hK6 => ?_)
  refine c_seq (fun K7 hK7 => ?_)
  refine c_reg ?_ -- region 5 index.go:72
  refine wl (ro_move rfl) ?_
  refine wl (ro_move rfl) ?_
  refine wlg_yes rfl (ro_move rfl) ?_
  refine wlg_yes rfl (ro_not rfl) ?_
  refine wl (ro_pick rfl rfl rfl) ?_
  refine wl_nil (x_then (hK7 _ _ ?_))
  clear hK7 K7
  refine wc_condT rfl ?_
  refine c_reg ?_ -- region 6 index.go:73
  refine wl (ro_move rfl) ?_
  refine wl (ro_nilCheck rfl) ?_
  refine wl (ro_fieldAddr (k := 5) rfl fo_251_5) ?_
  refine wl (ro_loadB rfl sc_3 (hA) ((row_cell3 hl rfl))) ?_
  refine wl (ro_arith rfl rfl rfl (Go.IntWalk.i64_in _ (by omega))) ?_
  refine wl (ro_nilCheck rfl) ?_
  refine wl (ro_fieldAddr (k := 5) rfl fo_251_5) ?_
  refine wl_put rfl rfl rfl sz_3 hA ((by omega)) ((row_set (j := 5) hl rfl (by omega))) (fun w4 hA F4 => ?_)
  replace hF := hF.thenDrew.thenO F4 (by first | exact .inr (by omega) | exact .inl rfl | exact .inl (by assumption) | assumption)
  replace hG := hG.thenDrew.thenO F4 (by first | exact .inr (by omega) | exact .inl rfl | exact .inl (by assumption) | assumption)
  replace hO := F4.blkO hO (by omega)
  replace h5 := F4.blkO h5 (by omega)
  replace hl := row_back (l := l) (o := o) (k := 6) (cs := (tmc t).set 5 (.int .i64 ((t.R.dead : Int) + 1))) (by omega) rfl
  refine wl_nil (x_then (hK6 _ _ ?_))
  clear hK6 K6
  refine c_piL 8 [(0, false), (1, false), (2, false), (3, false), (4, false), (5, false), (6, false), (7, false)] (SameH _) mixed (by kernel_rfl) rfl (by kernel_rfl) (po_bp) (sameH_now _ _) ?_ -- region 7 index.go:75
  refine ql_ro rfl (fun w hS => ro_move rfl) ?_
  refine ql_ro rfl (fun w hS => ro_nilCheck rfl) ?_
  refine ql_ro rfl (fun w hS => ro_fieldAddr (k := 0) rfl fo_251_0) ?_
  refine ql_ro rfl (fun w hS => ro_loadB rfl sc_246 (Blk.of_heap hA hS) ((row_cell3 (j := 0) hl (by show some t.vo = _; rw [hvo])))) ?_
  refine ql_ro rfl (fun w hS => ro_move rfl) ?_
  refine ql_ro rfl (fun w hS => ro_loadAggB rfl ag_119 (Blk.of_heap (by assumption) hS) rfl rfl) ?_
  refine ql_ro rfl (fun w hS => ro_indexAddr (et := 263) (k := 6) rfl rfl se_246 rfl (by omega)) ?_
  refine ql_ro rfl (fun w hS => ro_fieldAddr (k := 3) rfl fo_263_1) ?_
  refine ql_puta rfl rfl rfl ((pvc_one _)) sz_119 (rfl) hO ((by omega)) (rfl) (fun w5 hO F5 => ?_)
  replace hF := hF.thenDrew.thenO F5 (by first | exact .inr (by omega) | exact .inl rfl | exact .inl (by assumption) | assumption)
  replace hG := hG.thenDrew.thenO F5 (by first | exact .inr (by omega) | exact .inl rfl | exact .inl (by assumption) | assumption)
  replace hA := F5.blkO hA (by omega)
  replace h5 := F5.blkO h5 (by omega)
  refine ?_
  refine bp_end Tryz.results145 rfl ?_
  exact turn_fin hT hx hvo k1 hcap k2 k3 k4 hab hA (by show _ = l.take o ++ (tmc t).set 5 (i64c (deadN t.R.dead (decide (x.2.T = 0)) (decide (v.T = 0)))) ++ l.drop (o + 6); rw [hwas, hnow, show deadN t.R.dead false true = t.R.dead + 1 from rfl]; first | rfl | (rw [show ((t.R.dead : Int) - 1) = ((t.R.dead - 1 : Nat) : Int) by omega]; rfl)) hO hF hG
set_option maxHeartbeats 4000000 in
theorem turn145FF {w : World} {ow : Nat → Nat} {ab o tag p : Nat} {l : List Value} {t : TM} {v : PV} {x : PV × PV} (hA : Blk w.heap ab l 251) (hl : (l.drop o).take 6 = tmc t) (hT : TV w ow tag t) (hx : t.R.ord[p]? = some x) (hxw : wfV x.2 = true) (hv : wfV v = true)
    (hd : t.R.dead < 1000 ∧ (x.2.T = 0 → 0 < t.R.dead)) (hwas : decide (x.2.T = 0) = false) (hnow : decide (v.T = 0) = false) (hab : ∀ b, tag ≤ ow b → ow b < tag + 5 → b < w.heap.size → b ≠ ab) : Ret Tryz.prog 145 [ptrAt ab o, i64c p, pv v] w (fun r w' => Blk w'.heap ab (rowS l o (tmc (turnT t p v (decide (x.2.T = 0))))) 251 ∧ TV w' ow tag (turnT t p v (decide (x.2.T = 0))) ∧ Fram (tbF ab ow tag) w w') := by
  have hF : Fram (tbF ab ow tag) w w := Fram.refl _ _
  have hG : Fram (one ab) w w := Fram.refl _ _
  have hAl := hA.lt
  have hma : tbF ab ow tag ab := .inl rfl
  obtain ⟨g, cap, lo, hvo, hO, k1, k2, k3, k4, k5⟩ := hT.o.at enc_len hx
  have hOl := hO.lt
  have hmg : tbF ab ow tag g := .inr (by omega)
  have hne : g ≠ ab := Blk.ne_ty hO hA (by decide)
  have hcap := hT.o.cap hvo
  have e2 : (lo.drop (0 + p * 6 + 3)).take 3 = pvc x.2 := by
    have := congrArg (fun x => (List.drop 3 x).take 3) (k5 p x hx)
    simp only [List.drop_take, List.drop_drop, List.take_take] at this
    simpa [enc, pvc] using this
  have hpl := (List.getElem?_eq_some_iff.1 hx).1
  have hb6 := Nat.mul_le_mul_right 6 (show p + 1 ≤ t.R.ord.length from hpl)
  have hb7 := Nat.mul_le_mul_right 6 k1
  have hol := row_len hl rfl (by omega)
  have hwas' := hwas
  simp only [decide_eq_true_eq, decide_eq_false_iff_not] at hwas'
  have hG : Fram (fun b => b = ab ∨ b = g) w w := Fram.refl _ _
  have hm1 : ab = ab ∨ ab = g := .inl rfl
  have hm2 : g = ab ∨ g = g := .inr rfl
  refine ret_of Tryz.func145 rfl Tryz.ntmps145 rfl ?_
  refine c_seq (fun K1 hK1 => ?_)
  refine c_reg ?_ -- region 0 index.go:66
  refine wl_box rfl rfl (fun b5 w1 hbb5 h5 F1 => ?_)
  have hbsb5 := Nat.le_trans hF.size hbb5
  have hbsb5 := Nat.le_trans hG.size hbb5
  have hneabb5 : ab < b5 := Nat.lt_of_lt_of_le hA.lt hbb5
  have hnegb5 : g < b5 := Nat.lt_of_lt_of_le hO.lt hbb5
  replace hF := hF.thenDrew.thenN F1
  replace hG := hG.thenDrew.thenN F1
  replace hA := F1.blkN hA
  replace hO := F1.blkN hO
  refine wl_nil (x_then (hK1 _ _ ?_))
  clear hK1 K1
  refine forget [(0, _), (1, _), (5, _)] ⟨rfl, rfl, rfl, trivial⟩ (fun e => ?_)
  refine c_seq (fun K2 hK2 => ?_)
  refine c_reg ?_ -- region 1 index.go:67
  refine wl (ro_move rfl) ?_
  refine wl (ro_nilCheck rfl) ?_
  refine wl (ro_fieldAddr (k := 0) rfl fo_251_0) ?_
  refine wl (ro_loadB rfl sc_246 (hA) ((row_cell3 (j := 0) hl (by show some t.vo = _; rw [hvo])))) ?_
  refine wl (ro_move rfl) ?_
  refine wl (ro_indexAddr (et := 263) (k := 6) rfl rfl se_246 rfl (by omega)) ?_
  refine wl (ro_fieldAddr (k := 3) rfl fo_263_1) ?_
  refine wl (ro_loadAggB rfl ag_119 (hO) (rfl) (e2)) ?_
  refine wl_call rfl en_146 (isNil146 (v := x.2)) ?_
  rintro _ w2 ⟨rfl, F2⟩
  rw [eqV_nil hxw, hwas]
  replace hF := hF.thenDrew.thenN F2
  replace hG := hG.thenDrew.thenN F2
  replace hA := F2.blkN hA
  replace hO := F2.blkN hO
  replace h5 := F2.blkN h5
  refine wl (ro_assign rfl) ?_
  refine wl_nil (x_then (hK2 _ _ ?_))
  clear hK2 K2
  refine forget [(0, _), (1, _), (5, _), (6, _)] ⟨rfl, rfl, rfl, rfl, trivial⟩ (fun e => ?_)
  refine c_seq (fun K3 hK3 => ?_)
  refine c_reg ?_ -- region 2 index.go:68
  refine wl (ro_loadAggB rfl ag_119 (by assumption) rfl rfl) ?_
  refine wl_call rfl en_146 (isNil146 (v := v)) ?_
  rintro _ w3 ⟨rfl, F3⟩
  rw [eqV_nil hv, hnow]
  replace hF := hF.thenDrew.thenN F3
  replace hG := hG.thenDrew.thenN F3
  replace hA := F3.blkN hA
  replace hO := F3.blkN hO
  replace h5 := F3.blkN h5
  refine wl (ro_assign rfl) ?_
  refine wl_nil (x_then (hK3 _ _ ?_))
  clear hK3 K3
  refine c_seq (fun K4 hK4 => ?_)
  refine c_seq (fun K5 hK5 => ?_)
  refine c_reg ?_ -- region 3 index.go:69
  refine wl (ro_move rfl) ?_
  refine wl (ro_move rfl) ?_
  refine wlg_no rfl ?_
  refine wlg_no rfl ?_
  refine wl (ro_pick rfl rfl rfl) ?_
  refine wl_nil (x_then (hK5 _ _ ?_))
  clear hK5 K5
  refine wc_condF rfl ?_
  refine c_skip (x_then (hK4 _ _ ?_))
  clear hK4 K4
  refine c_seq (fun K6 hK6 => ?_)
  refine c_seq (fun K7 hK7 => ?_)
  refine c_reg ?_ -- region 5 index.go:72
  refine wl (ro_move rfl) ?_
  refine wl (ro_move rfl) ?_
  refine wlg_no rfl ?_
  refine wlg_no rfl ?_
  refine wl (ro_pick rfl rfl rfl) ?_
  refine wl_nil (x_then (hK7 _ _ ?_))
  clear hK7 K7
  refine wc_condF rfl ?_
  refine c_skip (x_then (hK6 _ _ ?_))
  clear hK6 K6
  refine c_piL 8 [(0, false), (1, false), (2, false), (3, false), (4, false), (5, false), (6, false), (7, false)] (SameH _) mixed (by kernel_rfl) rfl (by kernel_rfl) (po_bp) (sameH_now _ _) ?_ -- region 7 index.go:75
  refine ql_ro rfl (fun w hS => ro_move rfl) ?_
  refine ql_ro rfl (fun w hS => ro_nilCheck rfl) ?_
  refine ql_ro rfl (fun w hS => ro_fieldAddr (k := 0) rfl fo_251_0) ?_
  refine ql_ro rfl (fun w hS => ro_loadB rfl sc_246 (Blk.of_heap hA hS) ((row_cell3 (j := 0) hl (by show some t.vo = _; rw [hvo])))) ?_
  refine ql_ro rfl (fun w hS => ro_move rfl) ?_
  refine ql_ro rfl (fun w hS => ro_loadAggB rfl ag_119 (Blk.of_heap (by assumption) hS) rfl rfl) ?_
  refine ql_ro rfl (fun w hS => ro_indexAddr (et := 263) (k := 6) rfl rfl se_246 rfl (by omega)) ?_
  refine ql_ro rfl (fun w hS => ro_fieldAddr (k := 3) rfl fo_263_1) ?_
  refine ql_puta rfl rfl rfl ((pvc_one _)) sz_119 (rfl) hO ((by omega)) (rfl) (fun w4 hO F4 => ?_)
  replace hF := hF.thenDrew.thenO F4 (by first | exact .inr (by omega) | exact .inl rfl | exact .inl (by assumption) | assumption)
  replace hG := hG.thenDrew.thenO F4 (by first | exact .inr (by omega) | exact .inl rfl | exact .inl (by assumption) | assumption)
  replace hA := F4.blkO hA (by omega)
  replace h5 := F4.blkO h5 (by omega)
  refine ?_
  refine bp_end Tryz.results145 rfl ?_
  exact turn_fin hT hx hvo k1 hcap k2 k3 k4 hab hA (by show _ = l.take o ++ (tmc t).set 5 (i64c (deadN t.R.dead (decide (x.2.T = 0)) (decide (v.T = 0)))) ++ l.drop (o + 6); rw [hwas, hnow, show deadN t.R.dead false false = t.R.dead from rfl]; exact row_split hl) hO hF hG
theorem turn145 {w : World} {ow : Nat → Nat} {ab o tag p : Nat} {l : List Value} {t : TM} {v : PV} {x : PV × PV} (hA : Blk w.heap ab l 251) (hl : (l.drop o).take 6 = tmc t) (hT : TV w ow tag t) (hx : t.R.ord[p]? = some x) (hxw : wfV x.2 = true) (hv : wfV v = true)
    (hd : t.R.dead < 1000 ∧ (x.2.T = 0 → 0 < t.R.dead)) (hab : ∀ b, tag ≤ ow b → ow b < tag + 5 → b < w.heap.size → b ≠ ab) : Ret Tryz.prog 145 [ptrAt ab o, i64c p, pv v] w (fun r w' => Blk w'.heap ab (rowS l o (tmc (turnT t p v (decide (x.2.T = 0))))) 251 ∧ TV w' ow tag (turnT t p v (decide (x.2.T = 0))) ∧ Fram (tbF ab ow tag) w w') := by
  cases h1 : decide (x.2.T = 0) <;> cases h2 : decide (v.T = 0)
  · have := turn145FF hA hl hT hx hxw hv hd h1 h2 hab; rwa [h1] at this
  · have := turn145FT hA hl hT hx hxw hv hd h1 h2 hab; rwa [h1] at this
  · have := turn145TF hA hl hT hx hxw hv hd h1 h2 hab; rwa [h1] at this
  · have := turn145TT hA hl hT hx hxw hv hd h1 h2 hab; rwa [h1] at this

end Go.Proofs.Qxb6500568aGreatDoor
