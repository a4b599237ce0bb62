import Derived.Test.Qxb6500568aGreatDoorRg
/- The check of a table: all its places. -/
namespace Go.Proofs.Qxb6500568aGreatDoor
open Ieee
set_option linter.unusedVariables false
set_option linter.unusedSimpArgs false
set_option linter.unusedSectionVars false

abbrev PlM (ord : Tb) := { x : Plx // x.2 ∈ ord }
def encM (ord : Tb) (x : PlM ord) : Array Value := encP x.1
def plA (ord : Tb) (xs : List (PlM ord)) : Prop := xs.map (fun x => x.1.2) = ord
def plB {ord : Tb} (xs : List (PlM ord)) : Prop := True
/-- all blocks below n but b stay. -/
structure BX (n b : Nat) (w w' : World) : Prop where
  os : w'.os = w.os
  tape : w'.tape = w.tape
  output : w'.output = w.output
  size : w.heap.size ≤ w'.heap.size
  block : ∀ k, k < n → k ≠ b → w'.heap[k]? = w.heap[k]?
theorem BX.trans {n b : Nat} {w w' w'' : World} (h : BX n b w w') (k : BX n b w' w'') : BX n b w w'' := ⟨k.os.trans h.os, k.tape.trans h.tape, k.output.trans h.output, Nat.le_trans h.size k.size, fun i h1 h2 => (k.block i h1 h2).trans (h.block i h1 h2)⟩
theorem BX.of {n b : Nat} {w w' : World} (h : Go.RowKit.Below n w w') : BX n b w w' := ⟨h.os, h.tape, h.output, h.size, fun i h1 _ => h.block i h1⟩
theorem BX.blk {n b : Nat} {w w' : World} (h : BX n b w w') {c : Nat} {l : List Value} {t : TypeId} (hB : Blk w.heap c l t) (hc : c < n) (hn : c ≠ b) : Blk w'.heap c l t := hB.of_eq (h.block c hc hn)
theorem BX.put {n b : Nat} {W : World} {l : Nat} {o' : Obj} (hl : n ≤ l) : BX n b W (W.putObj l o') := ⟨rfl, rfl, rfl, by simp, fun k hk _ => World.putObj_heap_other (fun q => by omega)⟩
set_option maxHeartbeats 4000000 in
theorem places_all {w0 : World} {c1 c2 c3 ab o g cap fr bd : Nat} {lb : List Value} (hbd : Blk w0.heap bd lb 3) {l lo : List Value} {t : TM} (h1 : Blk w0.heap c1 [i64c fr] 3) (h2 : Blk w0.heap c2 [ptrAt ab o] 245) (h3 : Blk w0.heap c3 [.bool true] 4) (hA0 : Blk w0.heap ab l 251) (hl : (l.drop o).take 6 = tmc t) (hok : TOK t.R.ord)
    {a : Option Addr} (hvo : t.vo = .slice a t.R.ord.length cap) (hO0 : ∀ i x, t.R.ord[i]? = some x → a = some ⟨g, 0, none⟩ ∧ Blk w0.heap g lo 263 ∧ (lo.drop (0 + i * 6)).take 6 = enc x) (hfr : fr = 0) :
    SeqStopsK Fence.wide 2 Tryz.prog 295 #[ptr c1, ptr c2, ptr c3] (encM t.R.ord) (BX w0.heap.size bd) (plA t.R.ord) plB 50 w0 := by
  subst hfr
  intro ly J Jx W hB hJ hJx hY h0
  refine callsIn_wide.2 (Calls.mono (R := fun en W' => ∃ v, en = .returned v ∧ ((∃ xs, plA t.R.ord xs ∧ J xs W') ∨ ∃ pre, plB pre ∧ Jx pre W')) ?_ (fun en W' ⟨v, e1, e2⟩ => ⟨⟨v, e1⟩, e2⟩))
  show Ret Tryz.prog 295 [.func (.yield ly) #[] #[], ptr c1, ptr c2, ptr c3] W (fun v W' => (∃ xs, plA t.R.ord xs ∧ J xs W') ∨ ∃ pre, plB pre ∧ Jx pre W')
  have hz0 := hB.size
  have l1 := h1.lt
  have l2 := h2.lt
  have l3 := h3.lt
  have lA := hA0.lt
  have h32 := hok.len
  have hc1 := blw hB h1 l1
  have hF : Fram none' W W := Fram.refl _ _
  refine ret_of Tryz.func295 rfl Tryz.ntmps295 rfl ?_
  refine c_seq (fun K1 hK1 => ?_)
  refine c_reg ?_ -- region 0 index.go:104
  refine wl (ro_loadB rfl sc_3 (hc1) (rfl)) ?_
  refine wl (ro_assign rfl) ?_
  refine wl_nil (x_then (hK1 _ _ ?_))
  clear hK1 K1
  refine c_block ?_
  -- loop@r1: live slots [0, 2, 3, 5]
  refine c_loopG (fun n a' w' => ∃ p pre, n = 50 - p ∧ p ≤ t.R.ord.length ∧ pre.map (fun x => x.1.2) = t.R.ord.take p ∧ J pre w' ∧ BX w0.heap.size bd w0 w' ∧ W.heap.size ≤ w'.heap.size ∧ ∃ e, a' = Fr 36 (upds e [(0, .func (.yield ly) #[] #[]), (2, ptr c2), (3, ptr c3), (5, i64c p)]) []) 50 ⟨0, [], rfl, Nat.zero_le _, rfl, h0, .of hB, Nat.le_refl _, kp _ ⟨rfl, rfl, rfl, rfl, trivial⟩⟩ ?_
  clear hF hc1
  rintro n a' u1 ⟨p, pre, rfl, hp1, hpl, hJp, hB1, hz1, e, rfl⟩
  have hple : pre.length = p := by
    have := congrArg List.length hpl
    rw [List.length_map, List.length_take] at this
    omega
  have hF : Fram none' u1 u1 := Fram.refl _ _
  have hc2 := hB1.blk h2 l2 (h2.ne_type hbd (by decide))
  have hc3 := hB1.blk h3 l3 (h3.ne_type hbd (by decide))
  have hA := hB1.blk hA0 lA (hA0.ne_type hbd (by decide))
  have hz2 := hB1.size
  refine c_seq (fun K2 hK2 => ?_)
  refine c_seq (fun K3 hK3 => ?_)
  refine c_reg ?_ -- region 1 index.go:104
  refine wl (ro_move rfl) ?_
  refine wl (ro_loadB rfl sc_245 (hc2) (rfl)) ?_
  refine wl (ro_nilCheck rfl) ?_
  refine wl (ro_fieldAddr (k := 0) rfl fo_251_0) ?_
  refine wl (ro_loadB rfl sc_246 (hA) ((row_cell3 (j := 0) hl (by show some t.vo = _; rw [hvo])))) ?_
  refine wl (ro_lenL rfl se_246) ?_
  refine wl (ro_cmp rfl rfl rfl) ?_
  refine wl_nil (x_then (hK3 _ _ ?_))
  clear hK3 K3
  refine wc_cond rfl (fun hc14 => ?_) (fun hc14 => ?_)
  · try simp only [decide_eq_true_eq, decide_eq_false_iff_not, Bool.not_eq_true', Bool.not_eq_false', Bool.not_eq_eq_eq_not, Bool.not_true, Bool.not_false, beq_iff_eq, bne_iff_ne, ne_eq, beq_eq_false_iff_ne, bne_eq_false_iff_eq, gt_iff_lt, ge_iff_le, Int.not_lt, Int.not_le] at hc14
    obtain ⟨x, hx⟩ : ∃ x, t.R.ord[p]? = some x := ⟨_, List.getElem?_eq_getElem (by omega)⟩
    obtain ⟨rfl, hOb, hxr⟩ := hO0 p x hx
    have lO := hOb.lt
    have hO := hB1.blk hOb lO (hOb.ne_type hbd (by decide))
    have hxm := List.mem_of_getElem? hx
    refine c_skip (x_then (hK2 _ _ ?_))
    clear hK2 K2
    refine forget [(0, _), (2, _), (3, _), (5, _)] ⟨rfl, rfl, rfl, rfl, trivial⟩ (fun e => ?_)
    refine c_seq (fun K4 hK4 => ?_)
    refine c_block ?_
    refine c_seq (fun K5 hK5 => ?_)
    refine c_reg ?_ -- region 3 index.go:105
    refine wl (ro_loadB rfl sc_245 (hc2) (rfl)) ?_
    refine wl (ro_nilCheck rfl) ?_
    refine wl (ro_fieldAddr (k := 0) rfl fo_251_0) ?_
    refine wl (ro_loadB rfl sc_246 (hA) ((row_cell3 (j := 0) hl (by show some t.vo = _; rw [hvo])))) ?_
    refine wl (ro_move rfl) ?_
    refine wl (ro_indexAddr (et := 263) (k := 6) rfl rfl se_246 rfl (by omega)) ?_
    refine wl (ro_loadAggB rfl ag_263 (hO) (rfl) (hxr)) ?_
    refine wl_new (ze_263) (fun b6 w1 hbb6 h6 F1 => ?_)
    have hbsb6 := Nat.le_trans hF.size hbb6
    have hnec2b6 : c2 < b6 := Nat.lt_of_lt_of_le hc2.lt hbb6
    have hnec3b6 : c3 < b6 := Nat.lt_of_lt_of_le hc3.lt hbb6
    have hneabb6 : ab < b6 := Nat.lt_of_lt_of_le hA.lt hbb6
    have hnegb6 : g < b6 := Nat.lt_of_lt_of_le hO.lt hbb6
    replace hF := hF.thenDrew.thenN F1
    replace hc2 := F1.blkN hc2
    replace hc3 := F1.blkN hc3
    replace hA := F1.blkN hA
    replace hO := F1.blkN hO
    refine wl_puta rfl rfl ((enc_one _)) sz_263 (rfl) h6 ((by simp)) (rfl) (fun w2 h6 F2 => ?_)
    replace hF := hF.thenDrew.thenO F2 (by first | exact .inr (by omega) | exact .inl rfl | exact .inl (by assumption) | assumption)
    replace hc2 := F2.blkO hc2 (by omega)
    replace hc3 := F2.blkO hc3 (by omega)
    replace hA := F2.blkO hA (by omega)
    replace hO := F2.blkO hO (by omega)
    refine wl_nil (x_then (hK5 _ _ ?_))
    clear hK5 K5
    refine c_seq (fun K6 hK6 => ?_)
    refine c_seq (fun K7 hK7 => ?_)
    refine c_reg ?_ -- region 4 index.go:106
    refine wl (ro_loadB rfl sc_4 (hc3) (rfl)) ?_
    refine wl (ro_not rfl) ?_
    refine wl (ro_move rfl) ?_
    refine wlg_no rfl ?_
    refine wlg_no rfl ?_
    refine wlg_no rfl ?_
    refine wl (ro_pick rfl rfl rfl) ?_
    refine wl_nil (x_then (hK7 _ _ ?_))
    clear hK7 K7
    refine wc_condF rfl ?_
    refine c_skip (x_then (hK6 _ _ ?_))
    clear hK6 K6
    refine forget [(0, _), (2, _), (3, _), (5, _), (6, _)] ⟨rfl, rfl, rfl, rfl, rfl, trivial⟩ (fun e => ?_)
    refine c_seq (fun K8 hK8 => ?_)
    refine c_regY (n := 2) ?_
    refine wy (ro_move rfl) ?_
    refine wy (ro_move rfl) ?_
    refine wy (ro_loadAggB rfl ag_263 h6 rfl rfl) ?_
    refine wy_yield (vs := (encP (p, x)).toList) rfl rfl (hY pre ⟨(p, x), hxm⟩ _ (hJ pre u1 _ none hJp hF.grn (fun r h => by cases h)) (by omega)) ?_
    rintro en u3 hR
    obtain ⟨b, rfl, hb1, hb2⟩ : ∃ b : Bool, en = .returned (.bool b) ∧ (b = true → J (pre ++ [⟨(p, x), hxm⟩]) u3 ∧ BX w0.heap.size bd w2 u3) ∧ (b = false → Jx (pre ++ [⟨(p, x), hxm⟩]) u3) := by
      rcases hR with ⟨r1, r2, r3⟩ | ⟨r1, r2⟩
      · exact ⟨true, r1, fun _ => ⟨r2, r3⟩, fun h => by cases h⟩
      · exact ⟨false, r1, fun h => (by cases h), fun _ => r2⟩
    refine ⟨_, rfl, ?_⟩
    refine wy (ro_not rfl) ?_
    refine wy_nil ?_
    refine x_then (hK8 _ _ ?_)
    clear hK8 K8
    refine wc_cond rfl (fun hc35 => ?_) (fun hc35 => ?_)
    · try simp only [decide_eq_true_eq, decide_eq_false_iff_not, Bool.not_eq_true', Bool.not_eq_false', Bool.not_eq_eq_eq_not, Bool.not_true, Bool.not_false, beq_iff_eq, bne_iff_ne, ne_eq, beq_eq_false_iff_ne, bne_eq_false_iff_eq, gt_iff_lt, ge_iff_le, Int.not_lt, Int.not_le] at hc35
      refine c_ret (x_blkR (x_thenR (x_thenR (x_blkR ?_))))
      refine bp_ret Tryz.results295 rfl ?_
      exact .inr ⟨pre ++ [⟨(p, x), hxm⟩], trivial, hb2 hc35⟩
    · try simp only [decide_eq_true_eq, decide_eq_false_iff_not, Bool.not_eq_true', Bool.not_eq_false', Bool.not_eq_eq_eq_not, Bool.not_true, Bool.not_false, beq_iff_eq, bne_iff_ne, ne_eq, beq_eq_false_iff_ne, bne_eq_false_iff_eq, gt_iff_lt, ge_iff_le, Int.not_lt, Int.not_le] at hc35
      refine c_skip (x_blk (x_then (hK4 _ _ ?_)))
      clear hK4 K4
      refine c_reg ?_ -- region 2 index.go:104
      refine wl (ro_move rfl) ?_
      refine wl (ro_arith rfl rfl rfl (Go.IntWalk.i64_in _ (by omega))) ?_
      refine wl (ro_assign rfl) ?_
      refine wl_nil (x_then ?_)
      refine ⟨50 - (p + 1), by omega, p + 1, pre ++ [⟨(p, x), hxm⟩], rfl, by omega, ?_, (hb1 hc35).1, ?_, ?_, kp _ ⟨rfl, rfl, rfl, rfl, trivial⟩⟩
      · rw [List.map_append, hpl, List.take_add_one, hx]; rfl
      · exact (hB1.trans (.of (hF.blw _ hz2))).trans (hb1 hc35).2
      · have := hF.size; have := (hb1 hc35).2.size; omega
  · try simp only [decide_eq_true_eq, decide_eq_false_iff_not, Bool.not_eq_true', Bool.not_eq_false', Bool.not_eq_eq_eq_not, Bool.not_true, Bool.not_false, beq_iff_eq, bne_iff_ne, ne_eq, beq_eq_false_iff_ne, bne_eq_false_iff_eq, gt_iff_lt, ge_iff_le, Int.not_lt, Int.not_le] at hc14
    refine c_exit (x_thenX (x_thenX (x_blkX ?_)))
    refine bp_end Tryz.results295 rfl ?_
    refine .inl ⟨pre, ?_, hJ pre u1 _ none hJp hF.grn (fun r h => by cases h)⟩
    show pre.map (fun x => x.1.2) = t.R.ord
    rw [hpl, List.take_of_length_le (by omega)]

theorem placesT278 {w : World} {ab o fr : Nat} : Ret Tryz.prog 278 [ptrAt ab o, i64c fr, .bool true] w (fun r w' => (∃ c1 c2 c3, r = .func (.func 295) #[] #[ptr c1, ptr c2, ptr c3] ∧ Blk w'.heap c1 [i64c fr] 3 ∧ Blk w'.heap c2 [ptrAt ab o] 245 ∧ Blk w'.heap c3 [.bool true] 4 ∧ w.heap.size ≤ c1 ∧ w.heap.size ≤ c2 ∧ w.heap.size ≤ c3) ∧ Fram none' w w') := by
  have hF : Fram none' w w := Fram.refl _ _
  refine ret_of Tryz.func278 rfl Tryz.ntmps278 rfl ?_
  refine c_seq (fun K1 hK1 => ?_)
  refine c_reg ?_ -- region 0 index.go:102
  refine wl_box rfl rfl (fun b3 w1 hbb3 h3 F1 => ?_)
  have hbsb3 := Nat.le_trans hF.size hbb3
  replace hF := hF.thenDrew.thenN F1
  refine wl_box rfl rfl (fun b4 w2 hbb4 h4 F2 => ?_)
  have hbsb4 := Nat.le_trans hF.size hbb4
  have hneb3b4 : b3 < b4 := Nat.lt_of_lt_of_le h3.lt hbb4
  replace hF := hF.thenDrew.thenN F2
  replace h3 := F2.blkN h3
  refine wl_box rfl rfl (fun b5 w3 hbb5 h5 F3 => ?_)
  have hbsb5 := Nat.le_trans hF.size hbb5
  have hneb3b5 : b3 < b5 := Nat.lt_of_lt_of_le h3.lt hbb5
  have hneb4b5 : b4 < b5 := Nat.lt_of_lt_of_le h4.lt hbb5
  replace hF := hF.thenDrew.thenN F3
  replace h3 := F3.blkN h3
  replace h4 := F3.blkN h4
  refine wl (ro_assign rfl) ?_
  refine wl_nil (x_then (hK1 _ _ ?_))
  clear hK1 K1
  refine forget [(3, _), (4, _), (5, _)] ⟨rfl, rfl, rfl, trivial⟩ (fun e => ?_)
  refine c_seq (fun K2 hK2 => ?_)
  refine c_reg ?_ -- region 1 index.go:103
  refine wl (ro_makeFunc (vs := [ptr b4, ptr b3, ptr b5]) rfl) ?_
  refine wl (ro_assign rfl) ?_
  refine wl_nil (x_then (hK2 _ _ ?_))
  clear hK2 K2
  refine c_ret ?_
  refine bp_ret Tryz.results278 rfl ?_
  exact ⟨⟨b4, b3, b5, rfl, h4, h3, h5, by omega, by omega, by omega⟩, hF⟩
end Go.Proofs.Qxb6500568aGreatDoor
