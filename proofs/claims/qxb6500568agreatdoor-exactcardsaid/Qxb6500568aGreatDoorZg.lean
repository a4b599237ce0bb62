import Derived.Test.Qxb6500568aGreatDoorZf
/- The compiler: bind, param, leave, slot. -/
namespace Go.Proofs.Qxb6500568aGreatDoor
open Ieee
set_option linter.unusedVariables false
set_option linter.unusedSimpArgs false
set_option linter.unusedSectionVars false

theorem Own.le {H : Array Obj} {a : Option Addr} {n c e k : Nat} {xs : List Value} (h : Own H (.slice a n c) e k n xs) : n ≤ c := by
  rcases h.2 with ⟨h1, h2⟩ | ⟨g, cap, l, h1, h2, h3, -⟩
  · omega
  · cases h1; exact h3
section
variable {E : ZEnv} {w : World} {ow : Nat → Nat} {O : List Nat} {S : Fns} {f : ZAct} {q : List ZAct}

set_option maxHeartbeats 4000000 in
theorem bind187 (hR : CM E w ow O S (f :: q)) {nm : Str} (hb : f.L.length ≤ 100) (hl : f.j < S.length) (hc : f.code.length ≤ 50000) :
    Ret Tryz.prog 187 [fptr E f.j, Go.Proofs.Qxb6500568aGreatDoor.S nm] w (fun r w' => r = .tuple #[] ∧ ZP E w ow O (declF f.j (f.L.length + 1) S) ({ f with L := f.L ++ [nm], code := f.code ++ [(6, f.L.length)] } :: q) w') := by
  have hF : Fram (tg ow cpT) w w := Fram.refl _ _
  have hX : Xt w ow ow := Xt.refl _ _
  refine ret_of Tryz.func187 rfl Tryz.ntmps187 rfl ?_
  refine c_seq (fun K1 hK1 => ?_)
  refine c_reg ?_ -- region 0 fn.go:85
  refine wl (ro_move rfl) ?_
  refine wl (ro_move rfl) ?_
  refine wl_call rfl en_189 (declare189 hR.dr hb hl) ?_
  rintro _ u1 ⟨rfl, ow1, x1, f1, r1⟩
  have hs1 := hF.size
  replace hF := cp_trans hX hF f1
  replace hX := hX.trans hs1 x1
  replace hR := r1
  refine wl (ro_assign rfl) ?_
  refine wl_nil (x_then (hK1 _ _ ?_))
  clear hK1 K1
  refine c_reg ?_ -- region 1 fn.go:86
  refine wl (ro_move rfl) ?_
  refine wl (ro_move rfl) ?_
  refine wl (ro_conv rfl sc_3 in_201 (Go.IntWalk.u16_in _ (by omega))) ?_
  refine wl (ro_build rfl bld_203_0_1) ?_
  refine wl_em (is := [(6, f.L.length)]) (eo_bsI1 rfl se_196 zx_203) rfl hR rfl (by simp; omega) ?_
  intro u2 ow2 x2 f2 r2
  have hs2 := hF.size
  replace hF := cp_trans' hX hF f2
  replace hX := hX.trans hs2 x2
  replace hR := r2
  refine wl_nil ?_
  refine bp_end Tryz.results187 rfl ?_
  exact ⟨rfl, _, hX, hF, hR⟩
set_option maxHeartbeats 4000000 in
theorem leave137W (hR : CM E w ow O S (f :: q)) {base : Nat} (hb : f.L.length ≤ 100) (hc : f.code.length ≤ 50000) :
    RetW Tryz.prog 137 [fptr E f.j, i64c base] w (fun r w' => r = .tuple #[] ∧ ZP E w ow O S ({ f with L := f.L.take base, code := f.code ++ (if base < f.L.length then [(29, base)] else []) } :: q) w') := by
  have hF : Fram (tg ow cpT) w w := Fram.refl _ _
  have hX : Xt w ow ow := Xt.refl _ _
  refine retw_of Tryz.func137 rfl Tryz.ntmps137 rfl ?_
  refine c_seq (fun K1 hK1 => ?_)
  obtain ⟨R_, z_, op⟩ := hR.open (f := f) (by simp)
  have hG := op.B
  have hC := hR.cb
  have khG := hR.ta
  have khC := hR.tc
  refine c_reg ?_ -- region 0 fn.go:94
  refine wl (ro_move rfl) ?_
  refine wl (ro_nilCheck rfl) ?_
  refine wl (ro_fieldAddr (k := 3) rfl fo_199_3) ?_
  refine wl (ro_loadB rfl sc_192 hG (op.row 3 (by decide))) ?_
  refine wl (ro_lenL rfl se_192) ?_
  refine wl (ro_move rfl) ?_
  refine wl (ro_cmp rfl rfl rfl) ?_
  refine wl_nil (x_then (hK1 _ _ ?_))
  clear hK1 K1
  refine wc_cond rfl (fun hc10 => ?_) (fun hc10 => ?_)
  · try simp only [decide_eq_true_eq, decide_eq_false_iff_not, Bool.not_eq_true', Bool.not_eq_false', Bool.not_eq_eq_eq_not, Bool.not_true, Bool.not_false, beq_iff_eq, bne_iff_ne, ne_eq, beq_eq_false_iff_ne, bne_eq_false_iff_eq, gt_iff_lt, ge_iff_le, Int.not_lt, Int.not_le] at hc10
    refine c_seq (fun K2 hK2 => ?_)
    refine c_reg ?_ -- region 1 fn.go:95
    refine wl (ro_move rfl) ?_
    refine wl (ro_move rfl) ?_
    refine wl (ro_conv rfl sc_3 in_201 (Go.IntWalk.u16_in _ (by omega))) ?_
    refine wl (ro_build rfl bld_203_0_1) ?_
    refine wl_em (is := [(29, base)]) (eo_bsI1 rfl se_196 zx_203) rfl hR rfl (by simp; omega) ?_
    intro u1 ow1 x1 f1 r1
    have hs1 := hF.size
    replace hF := cp_trans' hX hF f1
    replace hX := hX.trans hs1 x1
    replace hR := r1
    refine wl_nil (x_then (hK2 _ _ ?_))
    clear hK2 K2
    obtain ⟨f2, hf2⟩ : ∃ f2 : ZAct, f2 = { f with code := f.code ++ [(29, base)] } := ⟨_, rfl⟩
    rw [← hf2] at hR
    have e1 : f2.j = f.j := by rw [hf2]
    have e2 : f2.L = f.L := by rw [hf2]
    obtain ⟨R2, z2, op2⟩ := hR.open (f := f2) (by simp)
    have hG := op2.B
    have hrow := op2.row
    rw [e1] at hrow
    have hcl := op2.loc.o.le
    rw [e2] at hcl
    have hL0 : Fram none' _ _ := Fram.refl none' u1
    refine c_reg ?_ -- region 2 fn.go:96
    refine wl (ro_move rfl) ?_
    refine wl (ro_move rfl) ?_
    refine wl (ro_nilCheck rfl) ?_
    refine wl (ro_fieldAddr (k := 3) rfl fo_199_3) ?_
    refine wl (ro_loadB rfl sc_192 (hG) (hrow 3 (by decide))) ?_
    refine wl (ro_move rfl) ?_
    refine wl (ro_sliceH (h := base) rfl rfl se_192 rfl (by omega)) ?_
    refine wl (ro_nilCheck rfl) ?_
    refine wl (ro_fieldAddr (k := 3) rfl fo_199_3) ?_
    refine wl_put rfl rfl rfl sz_192 hG ((by show _ < (rws fnc R2).length; rw [rws_len fnc_len, op2.l]; have := op2.j; omega)) (rfl) (fun w2 hG F2 => ?_)
    have hF4 := (F2)
    refine wl_nil ?_
    refine bp_end Tryz.results137 rfl ?_
    refine ⟨rfl, ?_⟩
    rw [if_pos (by omega)]
    have hbl : base ≤ f2.L.length := by rw [e2]; omega
    have hlt : (f2.L.take base).length = base := by rw [List.length_take]; omega
    have hon := (op2.loc.take hbl).o
    rw [Nat.mul_one, ← List.map_take] at hon
    have hlo := hR.locS (L' := f2.L.take base) (va := z2.la) (vc := z2.lc) op2 hL0 (by rw [hlt]; exact hon) (Fram.refl _ _) (by rw [hlt]; intro b q; refine .inl ?_; revert q; cases z2.la <;> exact id) hF4 (by rw [hlt, e1]; exact hG)
    rw [hf2] at hlo
    exact ZP.tr hX hF hlo
  · try simp only [decide_eq_true_eq, decide_eq_false_iff_not, Bool.not_eq_true', Bool.not_eq_false', Bool.not_eq_eq_eq_not, Bool.not_true, Bool.not_false, beq_iff_eq, bne_iff_ne, ne_eq, beq_eq_false_iff_ne, bne_eq_false_iff_eq, gt_iff_lt, ge_iff_le, Int.not_lt, Int.not_le] at hc10
    refine c_skip ?_
    refine bp_end Tryz.results137 rfl ?_
    rw [if_neg (by omega), List.append_nil, List.take_of_length_le (by omega)]
    exact ⟨rfl, _, hX, hF, hR⟩
theorem leave137 (hR : CM E w ow O S (f :: q)) {base : Nat} (hb : f.L.length ≤ 100) (hc : f.code.length ≤ 50000) :
    Ret Tryz.prog 137 [fptr E f.j, i64c base] w (fun r w' => r = .tuple #[] ∧ ZP E w ow O S ({ f with L := f.L.take base, code := f.code ++ (if base < f.L.length then [(29, base)] else []) } :: q) w') := (leave137W hR hb hc).ret
set_option maxHeartbeats 4000000 in
theorem param257 (hR : CM E w ow O S (f :: q)) {n : Nat} (hn : n < E.G.length) (hb : f.L.length ≤ 100) (hl : f.j < S.length) :
    Ret Tryz.prog 257 [fptr E f.j, i64c n] w (fun r w' => r = .tuple #[] ∧ ZP E w ow O (declF f.j (f.L.length + 1) S) ({ f with L := f.L ++ [(nd E.G n).S] } :: q) w') := by
  have hF : Fram (tg ow cpT) w w := Fram.refl _ _
  have hX : Xt w ow ow := Xt.refl _ _
  obtain ⟨gn, capn, ln, env, hN, khN, hcapn, hrow⟩ := hR.nodes (by omega)
  obtain ⟨pn, hpn⟩ := hrow _ hn
  refine ret_of Tryz.func257 rfl Tryz.ntmps257 rfl ?_
  obtain ⟨R_, z_, op⟩ := hR.open (f := f) (by simp)
  have hG := op.B
  have hC := hR.cb
  have khG := hR.ta
  have khC := hR.tc
  rw [env] at hC
  refine c_reg ?_ -- region 0 fn.go:90
  refine wl (ro_move rfl) ?_
  refine wl (ro_move rfl) ?_
  refine wl (ro_nilCheck rfl) ?_
  refine wl (ro_fieldAddr (k := 0) rfl fo_199_0) ?_
  refine wl (ro_loadB rfl sc_22 hG (op.row 0 (by decide))) ?_
  refine wl (ro_nilCheck rfl) ?_
  refine wl (ro_fieldAddr (k := 2) rfl fo_94_2) ?_
  refine wl (ro_loadB rfl sc_77 (hC) rfl) ?_
  refine wl (ro_move rfl) ?_
  refine wl (ro_indexAddr (et := 148) (k := 8) rfl rfl se_77 (rfl) (hn)) ?_
  refine wl (ro_fieldAddr (k := 6) rfl fo_148_6) ?_
  refine wl (ro_loadB rfl sc_9 (hN) (row_get hpn (by decide))) ?_
  refine wl_call rfl en_189 (declare189 hR.dr hb hl) ?_
  rintro _ u1 ⟨rfl, ow1, x1, f1, r1⟩
  obtain ⟨hN, khN⟩ := cp_loc x1 f1 hN khN
  have hs1 := hF.size
  replace hF := cp_trans hX hF f1
  replace hX := hX.trans hs1 x1
  replace hR := r1
  refine wl_nil ?_
  refine bp_end Tryz.results257 rfl ?_
  exact ⟨rfl, _, hX, hF, hR⟩
/-- the answer of slot. -/
def slV (L : List Str) (nm : Str) : Value := match lookA (vis L) nm with
  | some s => i64c s
  | none => icv (-1)
theorem visF_snoc {x : Str} : ∀ (L : List Str) (i : Nat) (acc : List (Str × Nat)), visF (L ++ [x]) i acc = if x = [] then visF L i acc else (x, i + L.length) :: visF L i acc
  | [], i, acc => by simp [visF]
  | s :: L, i, acc => by
    rw [List.cons_append]
    unfold visF
    rw [visF_snoc L]
    split
    · rfl
    · rw [List.length_cons]; congr 2; omega
theorem vis_snoc {x : Str} (L : List Str) : vis (L ++ [x]) = if x = [] then vis L else (x, L.length) :: vis L := by
  unfold vis
  rw [visF_snoc, Nat.zero_add]
theorem look_snoc {x nm : Str} (hn : nm ≠ []) (L : List Str) : lookA (vis (L ++ [x])) nm = if x = nm then some L.length else lookA (vis L) nm := by
  rw [vis_snoc]
  by_cases h : x = []
  · rw [if_pos h, if_neg (by rw [h]; exact fun e => hn e.symm)]
  · rw [if_neg h]; rfl
set_option maxHeartbeats 4000000 in
theorem slot255 {A : List ZAct} (hR : CM E w ow O S A) (hf : f ∈ A) {nm : Str} (hn : nm ≠ []) (hb : f.L.length ≤ 1000) :
    Ret Tryz.prog 255 [fptr E f.j, Go.Proofs.Qxb6500568aGreatDoor.S nm] w (fun r w' => r = slV f.L nm ∧ w' = w) := by
  obtain ⟨R_, z_, op⟩ := hR.open hf
  have hG := op.B
  refine ret_of Tryz.func255 rfl Tryz.ntmps255 rfl ?_
  refine c_seq (fun K1 hK1 => ?_)
  refine c_reg ?_ -- region 0 fn.go:113
  refine wl (ro_assign rfl) ?_
  refine wl_nil (x_then (hK1 _ _ ?_))
  clear hK1 K1
  refine c_seq (fun K2 hK2 => ?_)
  refine c_seq (fun K3 hK3 => ?_)
  refine c_reg ?_ -- region 1 fn.go:114
  refine wl (ro_move rfl) ?_
  refine wl (ro_nilCheck rfl) ?_
  refine wl (ro_fieldAddr (k := 3) rfl fo_199_3) ?_
  refine wl (ro_loadB rfl sc_192 hG (op.row 3 (by decide))) ?_
  refine wl (ro_lenL rfl se_192) ?_
  refine wl (ro_arith rfl rfl rfl (Go.IntWalk.i64_in _ (by omega))) ?_
  refine wl (ro_assign rfl) ?_
  refine wl_nil (x_then (hK3 _ _ ?_))
  clear hK3 K3
  refine c_block ?_
  -- loop@r2: live slots [0, 1, 5]
  refine c_loopG (fun m a u => ∃ k, m = k ∧ k ≤ f.L.length ∧ lookA (vis (f.L.take k)) nm = lookA (vis f.L) nm ∧ u = w ∧ ∃ e, a = Fr 26 (upds e [(0, fptr E f.j), (1, Go.Proofs.Qxb6500568aGreatDoor.S nm), (5, icv ((k : Int) - 1))]) []) f.L.length ⟨_, rfl, Nat.le_refl _, by rw [List.take_length], rfl, kp _ ⟨rfl, rfl, rfl, trivial⟩⟩ ?_
  rintro m a u ⟨k, rfl, hk, hlk, rfl, e, rfl⟩
  refine c_seq (fun K4 hK4 => ?_)
  refine c_seq (fun K5 hK5 => ?_)
  refine c_reg ?_ -- region 2 fn.go:114
  refine wl (ro_move rfl) ?_
  refine wl (ro_cmp rfl rfl rfl) ?_
  refine wl_nil (x_then (hK5 _ _ ?_))
  clear hK5 K5
  refine wc_cond rfl (fun hc13 => ?_) (fun hc13 => ?_)
  · try simp only [decide_eq_true_eq, decide_eq_false_iff_not, Bool.not_eq_true', Bool.not_eq_false', Bool.not_eq_eq_eq_not, Bool.not_true, Bool.not_false, beq_iff_eq, bne_iff_ne, ne_eq, beq_eq_false_iff_ne, bne_eq_false_iff_eq, gt_iff_lt, ge_iff_le, Int.not_lt, Int.not_le] at hc13
    obtain ⟨i, rfl⟩ : ∃ i, m = i + 1 := ⟨m - 1, by omega⟩
    obtain ⟨x, hx⟩ : ∃ x, f.L[i]? = some x := ⟨_, List.getElem?_eq_getElem (by omega)⟩
    obtain ⟨gl, capl, ll, e1, hL, q1, q2, q3, q4⟩ := op.loc.o.pos (by omega)
    have hxl : ll[0 + i * 1]? = some (Go.Proofs.Qxb6500568aGreatDoor.S x) := by rw [Nat.zero_add]; exact own_get q4 (by rw [List.getElem?_map, Nat.mul_one, hx]; rfl)
    rw [List.take_add_one, hx, Option.toList_some, look_snoc hn, List.length_take, Nat.min_eq_left (by omega)] at hlk
    refine c_skip (x_then (hK4 _ _ ?_))
    clear hK4 K4
    refine forget [(0, _), (1, _), (5, _)] ⟨rfl, rfl, rfl, trivial⟩ (fun e => ?_)
    refine c_seq (fun K6 hK6 => ?_)
    refine c_block ?_
    refine c_seq (fun K7 hK7 => ?_)
    refine c_reg ?_ -- region 4 fn.go:115
    refine wl (ro_move rfl) ?_
    refine wl (ro_nilCheck rfl) ?_
    refine wl (ro_fieldAddr (k := 3) rfl fo_199_3) ?_
    refine wl (ro_loadB rfl sc_192 (hG) ((by rw [op.row 3 (by decide)]; show some (Value.slice z_.la f.L.length z_.lc) = _; rw [e1]))) ?_
    refine wl (ro_move rfl) ?_
    refine wl (ro_indexAddr (et := 9) (k := 1) rfl rfl se_192 ((show ((i + 1 : Nat) : Int) - 1 = (i : Nat) by omega)) ((by omega))) ?_
    refine wl (ro_loadB rfl sc_9 (hL) (hxl)) ?_
    refine wl (ro_move rfl) ?_
    refine wl (ro_eqS rfl rfl rfl) ?_
    refine wl_nil (x_then (hK7 _ _ ?_))
    clear hK7 K7
    refine wc_cond rfl (fun hc24 => ?_) (fun hc24 => ?_)
    · try simp only [decide_eq_true_eq, decide_eq_false_iff_not, Bool.not_eq_true', Bool.not_eq_false', Bool.not_eq_eq_eq_not, Bool.not_true, Bool.not_false, beq_iff_eq, bne_iff_ne, ne_eq, beq_eq_false_iff_ne, bne_eq_false_iff_eq, gt_iff_lt, ge_iff_le, Int.not_lt, Int.not_le] at hc24
      rw [if_pos hc24] at hlk
      refine c_seq (fun K8 hK8 => ?_)
      refine c_reg ?_ -- region 5 fn.go:116
      refine wl (ro_move rfl) ?_
      refine wl (ro_assign rfl) ?_
      refine wl_nil (x_then (hK8 _ _ ?_))
      clear hK8 K8
      refine c_ret (x_blkR (x_thenR (x_thenR (x_blkR (x_thenR ?_)))))
      refine bp_ret Tryz.results255 rfl ?_
      refine ⟨?_, rfl⟩
      unfold slV
      rw [← hlk]
      show Value.int .i64 _ = Value.int .i64 _
      congr 1
      omega
    · try simp only [decide_eq_true_eq, decide_eq_false_iff_not, Bool.not_eq_true', Bool.not_eq_false', Bool.not_eq_eq_eq_not, Bool.not_true, Bool.not_false, beq_iff_eq, bne_iff_ne, ne_eq, beq_eq_false_iff_ne, bne_eq_false_iff_eq, gt_iff_lt, ge_iff_le, Int.not_lt, Int.not_le] at hc24
      rw [if_neg hc24] at hlk
      refine c_skip (x_blk (x_then (hK6 _ _ ?_)))
      clear hK6 K6
      refine c_reg ?_ -- region 3 fn.go:114
      refine wl (ro_move rfl) ?_
      refine wl (ro_arith (r := (i : Int) - 1) rfl rfl (congrArg some (by show ((i + 1 : Nat) : Int) - 1 - 1 = _; omega)) (Go.IntWalk.i64_in _ (by omega))) ?_
      refine wl (ro_assign rfl) ?_
      refine wl_nil (x_then ?_)
      exact ⟨i, by omega, i, rfl, by omega, hlk, rfl, kp _ ⟨rfl, rfl, rfl, trivial⟩⟩
  · try simp only [decide_eq_true_eq, decide_eq_false_iff_not, Bool.not_eq_true', Bool.not_eq_false', Bool.not_eq_eq_eq_not, Bool.not_true, Bool.not_false, beq_iff_eq, bne_iff_ne, ne_eq, beq_eq_false_iff_ne, bne_eq_false_iff_eq, gt_iff_lt, ge_iff_le, Int.not_lt, Int.not_le] at hc13
    refine c_exit (x_thenX (x_thenX (x_blkX (x_then (hK2 _ _ ?_)))))
    clear hK4 K4 hK2 K2
    refine forget [] trivial (fun e => ?_)
    refine c_seq (fun K9 hK9 => ?_)
    refine c_reg ?_ -- region 6 fn.go:119
    refine wl (ro_assign rfl) ?_
    refine wl_nil (x_then (hK9 _ _ ?_))
    clear hK9 K9
    refine c_ret ?_
    refine bp_ret Tryz.results255 rfl ?_
    refine ⟨?_, rfl⟩
    have : m = 0 := by omega
    subst this
    unfold slV
    rw [← hlk]; rfl
end
end Go.Proofs.Qxb6500568aGreatDoor
