import Derived.Test.Qxb6500568aGreatDoorKe
/- A constant read. -/
namespace Go.Proofs.Qxb6500568aGreatDoor
open Ieee
set_option linter.unusedVariables false
set_option linter.unusedSimpArgs false
set_option linter.unusedSectionVars false

theorem ro_toSz {P : Program} {n : Nat} {e : Nat → Option Value} {w : World} {src dst b N c q : Nat} {x : Operand} {o : List UInt8} {l : List Value} {t : TypeId} (hx : evO n e x = some (.slice (some ⟨b, q, none⟩) N c)) (hs : selB P src 5 1 = true) (he : P.underlying 5 = some (.int .u8)) (hd : strB P dst = true) (hB : FzB w.heap b l t) (ho : o.length = N) (hl : ∀ (k : Nat) (y : UInt8), o[k]? = some y → l[q + k]? = some (u8c y)) : RO P n e w (.convert src dst x) (S o) := by
  intro ds dst' ty ps af g
  have hd' := strB_spec hd
  obtain ⟨t1, t2⟩ := selB_spec hs
  subst ho
  have hsrc : ∀ j v, ((o.map (fun y : UInt8 => (y.toNat : Int))).map (Value.int .u8))[j]? = some v → w.cell? ((⟨b, q, none⟩ : Addr).add j) = some v := by
    intro j v hv
    rw [addr_add, hB.cell]
    rw [List.map_map, List.getElem?_map] at hv
    cases hj : o[j]? with
    | none => rw [hj] at hv; cases hv
    | some y =>
      rw [hj] at hv
      cases hv
      exact hl j y hj
  have hld := run_loadCells_list (P := P) w ⟨b, q, none⟩ _ hsrc
  rw [List.length_map, List.length_map] at hld
  have h1 := run_bytesToString (P := P) w ⟨b, q, none⟩ o.length c (o.map (fun y : UInt8 => (y.toNat : Int))) hld
  have h2 := run_convert_bytes_string (P := P) w src dst 5 (some ⟨b, q, none⟩) o.length c t1 he hd'
  rw [fold_bytes] at h1
  simp [execOp, evO_eval hx, h2, h1, S]
/-- the bytes bs stand at place i of s. -/
def Bts (s : Str) (i : Nat) (bs : Str) : Prop := ∀ (k : Nat) (x : UInt8), bs[k]? = some x → s[i + k]? = some x
section
variable {s a b bs : Str} {i : Nat}
theorem Bts.l (h : Bts s i (a ++ b)) : Bts s i a := fun k x hk => h k x (by rw [List.getElem?_append_left (List.getElem?_eq_some_iff.1 hk).1]; exact hk)
theorem Bts.r (h : Bts s i (a ++ b)) : Bts s (i + a.length) b := fun k x hk => by
  have := h (a.length + k) x (by rw [List.getElem?_append_right (by omega), Nat.add_sub_cancel_left]; exact hk)
  rw [Nat.add_assoc]
  exact this
theorem Bts.le (h : Bts s i bs) (h0 : bs ≠ []) : i + bs.length ≤ s.length := by
  have hl : 0 < bs.length := List.length_pos_iff.2 h0
  have := h (bs.length - 1) _ (List.getElem?_eq_getElem (by omega))
  have := (List.getElem?_eq_some_iff.1 this).1
  omega
theorem Bts.cons {x : UInt8} (h : Bts s i (x :: bs)) : s[i]? = some x ∧ Bts s (i + 1) bs := ⟨h 0 x rfl, Bts.r (a := [x]) h⟩
theorem Bts.drop {u : World} {rb gb cap q : Nat} {l : List Value} (h : Bts s i bs) (hr : RdV u rb gb cap l s q) : (l.drop i).take bs.length = bs.map u8c := by
  refine List.ext_getElem? fun k => ?_
  by_cases hk : k < bs.length
  · rw [List.getElem?_take_of_lt hk, List.getElem?_drop, List.getElem?_map, List.getElem?_eq_getElem hk]
    exact hr.at (h k _ (List.getElem?_eq_getElem hk))
  · have h2 : ((l.drop i).take bs.length).length ≤ bs.length := by rw [List.length_take]; omega
    rw [List.getElem?_eq_none (by omega), List.getElem?_eq_none (by rw [List.length_map]; omega)]
end
/-- one more in list i. -/
def VL.addA (L : VL) (i : Nat) (cs : List Value) : VL := { L with A := up1 L.A i ((L.A i).1 + 1, (L.A i).2 ++ cs) }
/-- what a reader's step leaves. -/
structure RdK (E : VE) (w : World) (ow : Nat → Nat) (L : VL) (rb gb cap : Nat) (l : List Value) (s : Str) (i : Nat) (u : World) : Prop where
  ex : ∃ ow', Xt w ow ow' ∧ VMV E u ow' L ∧ RdV u rb gb cap l s i ∧ Fram (fun b => vmT (ow b) ∨ b = rb) w u
theorem by_step {x j : Nat} : x / 256 ^ (j + 1) * 2 ^ 8 + x / 256 ^ j % 256 = x / 256 ^ j := by
  have h : x / 256 ^ (j + 1) = x / 256 ^ j / 256 := by rw [Nat.pow_succ, Nat.div_div_eq_div_mul]
  rw [h]
  omega
theorem ro_shl8 {P : Program} {n : Nat} {e : Nat → Option Value} {w : World} {t t' : TypeId} {x y : Operand} {a : Nat} (hx : evO n e x = some (u64c a)) (hy : evO n e y = some (.int .u64 8)) (h : a < 2 ^ 56) : RO P n e w (.binOp .shl t x y t') (u64c (a * 2 ^ 8)) := by
  have k := ro_shlU (P := P) (w := w) (t := t) (t' := t') (b := 8) hx hy (by decide)
  rw [Nat.mod_eq_of_lt (by omega)] at k
  exact k
section
variable {E : VE} {w : World} {ow : Nat → Nat} {L : VL} {rb gb cap i : Nat} {l : List Value} {s : Str}
set_option maxHeartbeats 8000000 in
theorem constN198 (h : VMV E w ow L) (hr : RdV w rb gb cap l s i) (trb : ow rb = 66) (tgb : ow gb = 66) {x : Nat} (hx : W64 x) (hnan : isNaNW x = true → x = nanB) (hb : Bts s i (kby (vNum x))) (hn : (L.A 4).1 ≤ 100000) :
    Ret Tryz.prog 198 [ptr E.mb, ptr rb] w (fun r w' => r = .tuple #[] ∧ RdK E w ow (L.addA 4 (pvc (vNum x))) rb gb cap l s (i + 9) w') := by
  have hb : Bts s i (1 :: (List.range 8).map (fun i => by8 (x / 256 ^ i))) := hb
  obtain ⟨hb0, hb1⟩ := hb.cons
  have hle := hb1.le (by simp)
  rw [List.length_map, List.length_range] at hle
  have hmr : E.mb ≠ rb := fun e => by obtain ⟨V, U, op⟩ := h; have := op.tm; rw [e, trb] at this; omega
  refine ret_of Tryz.func198 rfl Tryz.ntmps198 rfl ?_
  refine c_seq (fun K1 hK1 => ?_)
  refine c_reg ?_ -- region 0 vm.go:148
  refine wl (ro_move rfl) ?_
  refine wl_call rfl en_140 (u8140 hr hb0) ?_
  rintro v1 u1 ⟨rfl, hr1, f1⟩
  have h1 := h.hbput f1 trb
  refine wl (ro_assign rfl) ?_
  refine wl_nil (x_then (hK1 _ _ ?_))
  clear hK1 K1
  refine forget [(0, _), (1, _), (4, _)] ⟨rfl, rfl, rfl, trivial⟩ (fun e => ?_)
  refine c_seq (fun K2 hK2 => ?_)
  refine c_reg ?_ -- region 1 vm.go:149
  refine wl (ro_move rfl) ?_
  refine wl_nil (x_then (hK2 _ _ ?_))
  clear hK2 K2
  refine c_block ?_
  refine forget [(0, _), (1, _), (14, _)] ⟨rfl, rfl, rfl, trivial⟩ (fun e => ?_)
  refine c_seq (fun K3 hK3 => ?_)
  refine c_reg ?_ -- region 3 vm.go:150
  refine wl (ro_cmp rfl rfl rfl) ?_
  refine wl (ro_assign rfl) ?_
  refine wl_nil (x_then (hK3 _ _ ?_))
  clear hK3 K3
  refine wc_condT rfl ?_
  refine c_seq (fun K4 hK4 => ?_)
  refine c_reg ?_ -- region 4 vm.go:151
  refine wl (ro_move rfl) ?_
  refine wl_call rfl en_196 (take196 hr1 (n := 8) (by omega) (by omega)) ?_
  rintro v2 u2 ⟨rfl, hr2, f2⟩
  have h2 := h1.hbput f2 trb
  have hR := hr2.r
  have hg := hr2.g
  have hgl := hg.lt
  have hRl := hR.lt
  have hF : Fram none' u2 u2 := Fram.refl _ _
  have hd8 := hb1.drop hr2
  rw [List.length_map, List.length_range] at hd8
  refine wl (ro_assign rfl) ?_
  refine wl_nil (x_then (hK4 _ _ ?_))
  clear hK4 K4
  refine c_seq (fun K5 hK5 => ?_)
  refine c_seq (fun K6 hK6 => ?_)
  refine c_reg ?_ -- region 5 vm.go:152
  refine wl (ro_move rfl) ?_
  refine wl (ro_nilCheck rfl) ?_
  refine wl (ro_fieldAddr (k := 2) rfl fo_254_2) ?_
  refine wl (ro_loadB rfl sc_4 (hR) rfl) ?_
  refine wl_nil (x_then (hK6 _ _ ?_))
  clear hK6 K6
  refine wc_cond rfl (fun hc25 => ?_) (fun hc25 => ?_)
  · try simp only [decide_eq_true_eq, decide_eq_false_iff_not, Bool.not_eq_true', Bool.not_eq_false', Bool.not_eq_eq_eq_not, Bool.not_true, Bool.not_false, beq_iff_eq, bne_iff_ne, ne_eq, beq_eq_false_iff_ne, bne_eq_false_iff_eq, gt_iff_lt, ge_iff_le, Int.not_lt, Int.not_le] at hc25
    cases hc25
  · try simp only [decide_eq_true_eq, decide_eq_false_iff_not, Bool.not_eq_true', Bool.not_eq_false', Bool.not_eq_eq_eq_not, Bool.not_true, Bool.not_false, beq_iff_eq, bne_iff_ne, ne_eq, beq_eq_false_iff_ne, bne_eq_false_iff_eq, gt_iff_lt, ge_iff_le, Int.not_lt, Int.not_le] at hc25
    refine c_skip (x_then (hK5 _ _ ?_))
    clear hK5 K5
    refine forget [(0, _), (1, _), (5, _)] ⟨rfl, rfl, rfl, trivial⟩ (fun e => ?_)
    refine c_seq (fun K7 hK7 => ?_)
    refine c_reg ?_ -- region 6 vm.go:155
    refine wl (ro_move rfl) ?_
    refine wl (ro_s2ap rfl ar_399 (by omega)) ?_
    refine wl (ro_loadAggZ rfl ag_399 (hg) (rfl) (hd8)) ?_
    refine wl_new (ze_399) (fun b6 w1 hbb6 h6 F1 => ?_)
    have hnerbb6 : rb < b6 := Nat.lt_of_lt_of_le hR.lt hbb6
    have hbsb6 := Nat.le_trans hF.size hbb6
    replace hR := F1.blkN hR
    replace hg := F1.fzN hg
    replace hF := hF.thenDrew.thenN F1
    refine wl_puta rfl rfl ((by intro u hu; obtain ⟨y, _, rfl⟩ := List.mem_map.1 hu; rfl)) sz_399 (rfl) h6 ((by simp)) (rfl) (fun w2 h6 F2 => ?_)
    replace hR := F2.blkO hR (by omega)
    replace hg := F2.fzO hg (by omega)
    replace hF := hF.thenDrew.thenO F2 (by first | exact .inr (by omega) | exact .inl rfl | exact .inl (by assumption) | assumption)
    refine wl_nil (x_then (hK7 _ _ ?_))
    clear hK7 K7
    refine forget [(0, _), (1, _), (6, _)] ⟨rfl, rfl, rfl, trivial⟩ (fun e => ?_)
    refine c_seq (fun K8 hK8 => ?_)
    refine c_reg ?_ -- region 7 vm.go:156
    refine wl (ro_assign rfl) ?_
    refine wl_nil (x_then (hK8 _ _ ?_))
    clear hK8 K8
    refine c_seq (fun K9 hK9 => ?_)
    refine c_seq (fun K10 hK10 => ?_)
    refine c_reg ?_ -- region 8 vm.go:157
    refine wl (ro_assign rfl) ?_
    refine wl_nil (x_then (hK10 _ _ ?_))
    clear hK10 K10
    refine c_block ?_
    -- loop@r9: live slots [0, 1, 6, 7, 8]
    refine c_loopG (fun m a u => ∃ j, m = j ∧ j ≤ 8 ∧ Fram none' u2 u ∧ Blk u.heap b6 (((List.range 8).map (fun i => by8 (x / 256 ^ i))).map u8c) 399 ∧ ∃ e, a = Fr 91 (upds e [(0, ptr E.mb), (1, ptr rb), (6, ptr b6), (7, u64c (x / 256 ^ j)), (8, icv ((j : Int) - 1))]) []) _ ⟨8, rfl, by omega, hF, h6, by rw [Nat.div_eq_of_lt (show x < 256 ^ 8 from hx)]; exact kp _ ⟨rfl, rfl, rfl, rfl, rfl, trivial⟩⟩ ?_
    clear hF h6
    rintro m a u ⟨j, rfl, hj8, hF, h6, e, rfl⟩
    refine c_seq (fun K11 hK11 => ?_)
    refine c_seq (fun K12 hK12 => ?_)
    refine c_reg ?_ -- region 9 vm.go:157
    refine wl (ro_move rfl) ?_
    refine wl (ro_cmp rfl rfl rfl) ?_
    refine wl_nil (x_then (hK12 _ _ ?_))
    clear hK12 K12
    refine wc_cond rfl (fun hc30 => ?_) (fun hc30 => ?_)
    · try simp only [decide_eq_true_eq, decide_eq_false_iff_not, Bool.not_eq_true', Bool.not_eq_false', Bool.not_eq_eq_eq_not, Bool.not_true, Bool.not_false, beq_iff_eq, bne_iff_ne, ne_eq, beq_eq_false_iff_ne, bne_eq_false_iff_eq, gt_iff_lt, ge_iff_le, Int.not_lt, Int.not_le] at hc30
      obtain ⟨q, rfl⟩ : ∃ q, m = q + 1 := ⟨m - 1, by omega⟩
      have hq8 : (by8 (x / 256 ^ q)).toNat < 256 := UInt8.toNat_lt _
      have hq56 : x / 256 ^ (q + 1) < 2 ^ 56 := by
        have h1 : x / 256 ^ (q + 1) ≤ x / 256 := Nat.div_le_div_left (by have := Nat.pow_le_pow_right (show 1 ≤ 256 by decide) (show 1 ≤ q + 1 by omega); omega) (by decide)
        have h2 : x < 18446744073709551616 := hx
        omega
      have e7 : x / 256 ^ (q + 1) * 2 ^ 8 + (by8 (x / 256 ^ q)).toNat = x / 256 ^ q := by rw [by8_nat]; exact by_step
      refine c_skip (x_then (hK11 _ _ ?_))
      clear hK11 K11
      refine forget [(0, _), (1, _), (6, _), (7, _), (8, _)] ⟨rfl, rfl, rfl, rfl, rfl, trivial⟩ (fun e => ?_)
      refine c_seq (fun K13 hK13 => ?_)
      refine c_block ?_
      refine c_reg ?_ -- region 11 vm.go:158
      refine wl (ro_move rfl) ?_
      refine wl (ro_shl8 rfl rfl hq56) ?_
      refine wl (ro_move rfl) ?_
      refine wl (ro_indexAddrA (et := 5) (k := 1) rfl rfl ar_399 ((show (((q + 1 : Nat) : Int) - 1) = ((q : Nat) : Int) by omega)) ((by omega))) ?_
      refine wl (ro_loadB rfl sc_5 (h6) ((show _ = some (u8c (by8 (x / 256 ^ q))) by rw [Nat.zero_add, Nat.mul_one, List.getElem?_map, List.getElem?_map, List.getElem?_range (by omega)]; rfl))) ?_
      refine wl (ro_conv rfl sc_5 in_117 (Go.IntWalk.u64_in _ (by omega))) ?_
      refine wl (ro_orHi (k := 8) rfl rfl (by show _ < 18446744073709551616; omega) (by show _ < 18446744073709551616; omega) (by omega)) ?_
      refine wl (ro_assign rfl) ?_
      refine wl_nil (x_blk (x_then (hK13 _ _ ?_)))
      clear hK13 K13
      rw [e7]
      refine c_reg ?_ -- region 10 vm.go:157
      refine wl (ro_move rfl) ?_
      refine wl (ro_arith rfl rfl rfl (Go.IntWalk.i64_in _ (by omega))) ?_
      refine wl (ro_assign rfl) ?_
      refine wl_nil (x_then ?_)
      exact ⟨_, by omega, q, rfl, by omega, hF, h6, by rw [show (((q + 1 : Nat) : Int) - 1 - 1) = ((q : Nat) : Int) - 1 by omega]; exact kp _ ⟨rfl, rfl, rfl, rfl, rfl, trivial⟩⟩
    · try simp only [decide_eq_true_eq, decide_eq_false_iff_not, Bool.not_eq_true', Bool.not_eq_false', Bool.not_eq_eq_eq_not, Bool.not_true, Bool.not_false, beq_iff_eq, bne_iff_ne, ne_eq, beq_eq_false_iff_ne, bne_eq_false_iff_eq, gt_iff_lt, ge_iff_le, Int.not_lt, Int.not_le] at hc30
      obtain rfl : m = 0 := by omega
      rw [Nat.pow_zero, Nat.div_one]
      have h3 := h2.thruN hF
      have hr3 := hr2.thruN hF
      obtain ⟨V, U, op⟩ := h3
      have hM := op.m
      unfold mbc at hM
      have a4 := op.a 4 (.inl (by decide))
      obtain ⟨g4, c4, e4⟩ := a4.form
      rw [e4] at hM
      refine c_exit (x_thenX (x_thenX (x_blkX (x_then (hK9 _ _ ?_)))))
      clear hK11 K11 hK9 K9
      refine forget [(0, _), (1, _), (7, _)] ⟨rfl, rfl, rfl, trivial⟩ (fun e => ?_)
      refine c_seq (fun K14 hK14 => ?_)
      refine c_reg ?_ -- region 12 vm.go:160
      refine wl (ro_move rfl) ?_
      refine wl (ro_nilCheck rfl) ?_
      refine wl (ro_fieldAddr (k := 0) rfl fo_89_0) ?_
      refine wl (ro_loadB rfl sc_36 (hM) rfl) ?_
      refine wl (ro_move rfl) ?_
      refine wl (ro_move rfl) ?_
      refine wl_call rfl en_142 (Cmp142 (op := 2) hx hx) ?_
      rintro v5 u5 ⟨rfl, rfl⟩
      rw [cmp_self]
      refine wl (ro_assign rfl) ?_
      refine wl_nil (x_then (hK14 _ _ ?_))
      clear hK14 K14
      refine c_seq (fun K15 hK15 => ?_)
      refine c_seq (fun K16 hK16 => ?_)
      refine c_reg ?_ -- region 13 vm.go:161
      refine wl (ro_move rfl) ?_
      refine wl_fork rfl (fun hg48 => ?_) (fun hg48 => ?_)
      · try simp only [decide_eq_true_eq, decide_eq_false_iff_not, Bool.not_eq_true', Bool.not_eq_false', Bool.not_eq_eq_eq_not, Bool.not_true, Bool.not_false, beq_iff_eq, bne_iff_ne, ne_eq, beq_eq_false_iff_ne, bne_eq_false_iff_eq, gt_iff_lt, ge_iff_le, Int.not_lt, Int.not_le] at hg48
        refine wlg_yes rfl (ro_move rfl) ?_
        refine wlg_yes rfl (ro_cmpU rfl rfl rfl) ?_
        refine wl (ro_pick rfl rfl rfl) ?_
        refine wl_nil (x_then (hK16 _ _ ?_))
        clear hK16 K16
        refine wc_cond rfl (fun hc51 => ?_) (fun hc51 => ?_)
        · try simp only [decide_eq_true_eq, decide_eq_false_iff_not, Bool.not_eq_true', Bool.not_eq_false', Bool.not_eq_eq_eq_not, Bool.not_true, Bool.not_false, beq_iff_eq, bne_iff_ne, ne_eq, beq_eq_false_iff_ne, bne_eq_false_iff_eq, gt_iff_lt, ge_iff_le, Int.not_lt, Int.not_le] at hc51
          exfalso; have := hnan hg48; unfold nanB at this; omega
        · try simp only [decide_eq_true_eq, decide_eq_false_iff_not, Bool.not_eq_true', Bool.not_eq_false', Bool.not_eq_eq_eq_not, Bool.not_true, Bool.not_false, beq_iff_eq, bne_iff_ne, ne_eq, beq_eq_false_iff_ne, bne_eq_false_iff_eq, gt_iff_lt, ge_iff_le, Int.not_lt, Int.not_le] at hc51
          refine c_skip (x_then (hK15 _ _ ?_))
          clear hK15 K15
          refine c_reg ?_ -- region 15 vm.go:164
          refine wl (ro_move rfl) ?_
          refine wl (ro_move rfl) ?_
          refine wl (ro_nilCheck rfl) ?_
          refine wl (ro_fieldAddr (k := 4) rfl fo_89_4) ?_
          refine wl (ro_loadB rfl sc_83 (hM) rfl) ?_
          refine wl (ro_move rfl) ?_
          refine wl (ro_build rfl bld_119_0_1) ?_
          refine wl_bsapp (t := 83) (et := 119) (k := 3) (m := (L.A 4).1) (cs := pvc (vNum x)) rfl rfl (by rw [← e4]; rfl) rfl se_83 zx_119 by_119 rfl rfl rfl (pvc_one _) a4.o (by omega) (by omega) ?_
          intro v' u6 hon G1 hnb
          obtain ⟨va, vc, rfl⟩ := hon.form
          replace hM := G1.blkF hM (fun y => by have := a4.t _ y; rw [op.tm] at this; omega)
          skip
          refine wl (ro_nilCheck rfl) ?_
          refine wl (ro_fieldAddr (k := 4) rfl fo_89_4) ?_
          refine wl_put rfl rfl rfl sz_83 hM (by simp) (rfl) (fun w3 hM F3 => ?_)
          have hF9 := (F3)
          refine wl_nil (x_blk ?_)
          refine bp_end Tryz.results198 rfl ?_
          refine ⟨rfl, ?_⟩
          obtain ⟨ow6, x6, f6, op6⟩ := op.growA (i := 4) (.inl (by decide)) hon G1 hnb hF9 hM
          have z1 := f1.size
          have z2 := f2.size
          have z3 := hF.size
          exact ⟨ow6, fun b hb ↦ x6 b (by omega), ⟨_, _, op6⟩, hr3.far f6 (fun z ↦ by have z : vmT (ow rb) := z; rw [trb] at z; unfold vmT at z; omega) (fun z ↦ by have z : vmT (ow gb) := z; rw [tgb] at z; unfold vmT at z; omega), (((f1.mono (fun b _ z ↦ Or.inr z)).trans' f2 (fun b _ z ↦ Or.inr z)).trans' hF (fun b _ z ↦ z.elim)).trans' f6 (fun b _ z ↦ Or.inl z)⟩
      · try simp only [decide_eq_true_eq, decide_eq_false_iff_not, Bool.not_eq_true', Bool.not_eq_false', Bool.not_eq_eq_eq_not, Bool.not_true, Bool.not_false, beq_iff_eq, bne_iff_ne, ne_eq, beq_eq_false_iff_ne, bne_eq_false_iff_eq, gt_iff_lt, ge_iff_le, Int.not_lt, Int.not_le] at hg48
        refine wlg_no rfl ?_
        refine wlg_no rfl ?_
        refine wl (ro_pick rfl rfl rfl) ?_
        refine wl_nil (x_then (hK16 _ _ ?_))
        clear hK16 K16
        refine wc_condF rfl ?_
        refine c_skip (x_then (hK15 _ _ ?_))
        clear hK15 K15
        refine c_reg ?_ -- region 15 vm.go:164
        refine wl (ro_move rfl) ?_
        refine wl (ro_move rfl) ?_
        refine wl (ro_nilCheck rfl) ?_
        refine wl (ro_fieldAddr (k := 4) rfl fo_89_4) ?_
        refine wl (ro_loadB rfl sc_83 (hM) rfl) ?_
        refine wl (ro_move rfl) ?_
        refine wl (ro_build rfl bld_119_0_1) ?_
        refine wl_bsapp (t := 83) (et := 119) (k := 3) (m := (L.A 4).1) (cs := pvc (vNum x)) rfl rfl (by rw [← e4]; rfl) rfl se_83 zx_119 by_119 rfl rfl rfl (pvc_one _) a4.o (by omega) (by omega) ?_
        intro v' u6 hon G1 hnb
        obtain ⟨va, vc, rfl⟩ := hon.form
        replace hM := G1.blkF hM (fun y => by have := a4.t _ y; rw [op.tm] at this; omega)
        skip
        refine wl (ro_nilCheck rfl) ?_
        refine wl (ro_fieldAddr (k := 4) rfl fo_89_4) ?_
        refine wl_put rfl rfl rfl sz_83 hM (by simp) (rfl) (fun w4 hM F4 => ?_)
        have hF9 := (F4)
        refine wl_nil (x_blk ?_)
        refine bp_end Tryz.results198 rfl ?_
        refine ⟨rfl, ?_⟩
        obtain ⟨ow6, x6, f6, op6⟩ := op.growA (i := 4) (.inl (by decide)) hon G1 hnb hF9 hM
        have z1 := f1.size
        have z2 := f2.size
        have z3 := hF.size
        exact ⟨ow6, fun b hb ↦ x6 b (by omega), ⟨_, _, op6⟩, hr3.far f6 (fun z ↦ by have z : vmT (ow rb) := z; rw [trb] at z; unfold vmT at z; omega) (fun z ↦ by have z : vmT (ow gb) := z; rw [tgb] at z; unfold vmT at z; omega), (((f1.mono (fun b _ z ↦ Or.inr z)).trans' f2 (fun b _ z ↦ Or.inr z)).trans' hF (fun b _ z ↦ z.elim)).trans' f6 (fun b _ z ↦ Or.inl z)⟩
set_option maxHeartbeats 8000000 in
theorem constS198 (h : VMV E w ow L) (hr : RdV w rb gb cap l s i) (trb : ow rb = 66) (tgb : ow gb = 66) {t : Str} (ht : t.length ≤ 40) (hb : Bts s i (kby (vStr t))) (hmo : i + 2 + t.length < s.length) (hn : (L.A 4).1 ≤ 100000) :
    Ret Tryz.prog 198 [ptr E.mb, ptr rb] w (fun r w' => r = .tuple #[] ∧ RdK E w ow (L.addA 4 (pvc (vStr t))) rb gb cap l s (i + 2 + t.length) w') := by
  have hb : Bts s i (2 :: by8 t.length :: t) := hb
  obtain ⟨hb0, hb1⟩ := hb.cons
  obtain ⟨hb1, hb2⟩ := hb1.cons
  have e9 : (by8 t.length).toNat = t.length := by rw [by8_nat]; omega
  have hl8 : (by8 t.length).toNat < 256 := UInt8.toNat_lt _
  refine ret_of Tryz.func198 rfl Tryz.ntmps198 rfl ?_
  refine c_seq (fun K1 hK1 => ?_)
  refine c_reg ?_ -- region 0 vm.go:148
  refine wl (ro_move rfl) ?_
  refine wl_call rfl en_140 (u8140 hr hb0) ?_
  rintro v1 u1 ⟨rfl, hr1, f1⟩
  have h1 := h.hbput f1 trb
  refine wl (ro_assign rfl) ?_
  refine wl_nil (x_then (hK1 _ _ ?_))
  clear hK1 K1
  refine forget [(0, _), (1, _), (4, _)] ⟨rfl, rfl, rfl, trivial⟩ (fun e => ?_)
  refine c_seq (fun K2 hK2 => ?_)
  refine c_reg ?_ -- region 1 vm.go:149
  refine wl (ro_move rfl) ?_
  refine wl_nil (x_then (hK2 _ _ ?_))
  clear hK2 K2
  refine c_block ?_
  refine forget [(0, _), (1, _), (14, _)] ⟨rfl, rfl, rfl, trivial⟩ (fun e => ?_)
  refine c_seq (fun K3 hK3 => ?_)
  refine c_reg ?_ -- region 3 vm.go:150
  refine wl (ro_cmp rfl rfl rfl) ?_
  refine wl (ro_assign rfl) ?_
  refine wl_nil (x_then (hK3 _ _ ?_))
  clear hK3 K3
  refine wc_condF rfl ?_
  refine c_seq (fun K4 hK4 => ?_)
  refine c_reg ?_ -- region 16 vm.go:165
  refine wl (ro_cmp rfl rfl rfl) ?_
  refine wl (ro_assign rfl) ?_
  refine wl_nil (x_then (hK4 _ _ ?_))
  clear hK4 K4
  refine wc_condT rfl ?_
  refine c_seq (fun K5 hK5 => ?_)
  refine c_reg ?_ -- region 17 vm.go:166
  refine wl (ro_move rfl) ?_
  refine wl_call rfl en_140 (u8140 hr1 hb1) ?_
  rintro v2 u2 ⟨rfl, hr2, f2⟩
  have h2 := h1.hbput f2 trb
  refine wl (ro_assign rfl) ?_
  refine wl_nil (x_then (hK5 _ _ ?_))
  clear hK5 K5
  refine c_seq (fun K6 hK6 => ?_)
  refine c_seq (fun K7 hK7 => ?_)
  refine c_reg ?_ -- region 18 vm.go:167
  refine wl (ro_move rfl) ?_
  refine wl (ro_cmp rfl rfl rfl) ?_
  refine wl_nil (x_then (hK7 _ _ ?_))
  clear hK7 K7
  refine wc_cond rfl (fun hc71 => ?_) (fun hc71 => ?_)
  · try simp only [decide_eq_true_eq, decide_eq_false_iff_not, Bool.not_eq_true', Bool.not_eq_false', Bool.not_eq_eq_eq_not, Bool.not_true, Bool.not_false, beq_iff_eq, bne_iff_ne, ne_eq, beq_eq_false_iff_ne, bne_eq_false_iff_eq, gt_iff_lt, ge_iff_le, Int.not_lt, Int.not_le] at hc71
    exfalso; rw [e9] at hc71; omega
  · try simp only [decide_eq_true_eq, decide_eq_false_iff_not, Bool.not_eq_true', Bool.not_eq_false', Bool.not_eq_eq_eq_not, Bool.not_true, Bool.not_false, beq_iff_eq, bne_iff_ne, ne_eq, beq_eq_false_iff_ne, bne_eq_false_iff_eq, gt_iff_lt, ge_iff_le, Int.not_lt, Int.not_le] at hc71
    refine c_skip (x_then (hK6 _ _ ?_))
    clear hK6 K6
    refine forget [(0, _), (1, _), (10, _)] ⟨rfl, rfl, rfl, trivial⟩ (fun e => ?_)
    refine c_seq (fun K8 hK8 => ?_)
    refine c_reg ?_ -- region 20 vm.go:170
    refine wl (ro_move rfl) ?_
    refine wl (ro_move rfl) ?_
    refine wl (ro_conv rfl sc_5 in_3 (Go.IntWalk.i64_in _ (by omega))) ?_
    refine wl_call rfl en_196 (take196 hr2 (n := (by8 t.length).toNat) (by omega) (by omega)) ?_
    rintro v3 u3 ⟨rfl, hr3, f3⟩
    have h3 := h2.hbput f3 trb
    rw [e9] at hr3
    rw [e9]
    obtain ⟨V, U, op⟩ := h3
    have hM := op.m
    have hg := hr3.g
    unfold mbc at hM
    have a4 := op.a 4 (.inl (by decide))
    obtain ⟨g4, c4, e4⟩ := a4.form
    rw [e4] at hM
    have hM4 : ¬ own1 (V 4) E.mb := fun y => by have := a4.t _ y; rw [op.tm] at this; omega
    have hg4 : ¬ own1 (V 4) gb := fun y => by have := a4.t _ y; rw [tgb] at this; omega
    refine wl (ro_assign rfl) ?_
    refine wl_nil (x_then (hK8 _ _ ?_))
    clear hK8 K8
    refine c_piL 12 [(0, false), (1, false), (2, false), (3, false), (4, false), (5, false), (6, false), (7, false), (8, true), (9, true), (10, false), (11, false)] (fun u => Blk u.heap E.mb [E.np, E.tp, V 2, V 3, .slice g4 (L.A 4).1 c4, V 5, V 6, V 7, V 8, .slice (some ⟨E.tb, 0, none⟩) L.nt 5, L.fu, V 11, L.en] 89 ∧ FzB u.heap gb l 5) mixed (by kernel_rfl) rfl (by kernel_rfl) (po_blk (po_bp)) (⟨hM, hg⟩) ?_ -- region 21 vm.go:171
    refine ql_ro rfl (fun w hS => ro_move rfl) ?_
    refine ql_ro rfl (fun w hS => ro_move rfl) ?_
    refine ql_ro rfl (fun w hS => ro_nilCheck rfl) ?_
    refine ql_ro rfl (fun w hS => ro_fieldAddr (k := 4) rfl fo_89_4) ?_
    refine ql_ro rfl (fun w hS => ro_loadB rfl sc_83 (hS.1) rfl) ?_
    refine ql_ro rfl (fun w hS => ro_move rfl) ?_
    refine ql_ro rfl (fun w hS => ro_toSz (o := t) rfl se_70 (by kernel_rfl) st_9 hS.2 rfl (fun k y hy ↦ hr3.at (hb2 k y hy))) ?_
    refine ql_ro rfl (fun w hS => ro_build rfl bld_119_0_2) ?_
    refine ql_bsapp (t := 83) (et := 119) (k := 3) (m := (L.A 4).1) (cs := pvc (vStr t)) rfl rfl rfl rfl (by rw [← e4]; rfl) rfl se_83 zx_119 by_119 rfl rfl rfl (pvc_one _) (a4.o.fram (Fram.refl none' _).thenDrew (fun _ _ h => h)) (by omega) (by omega) (fun w1 F ↦ ⟨F.blkN hM, F.fzN hg⟩) (fun w1 F ↦ ⟨F.blkF hM hM4, F.fzF hg hg4⟩) ?_
    intro v' u6 hon G1 hnb
    obtain ⟨va, vc, rfl⟩ := hon.form
    replace hM := G1.blkF hM hM4
    skip
    refine ql_ro rfl (fun w hS => ro_nilCheck rfl) ?_
    refine ql_ro rfl (fun w hS => ro_fieldAddr (k := 4) rfl fo_89_4) ?_
    refine ql_put rfl rfl rfl rfl sz_83 hM (by simp) (rfl) (fun w1 hM F1 => ?_)
    have hF9 := (F1)
    refine x_blk ?_
    refine bp_end Tryz.results198 rfl ?_
    refine ⟨rfl, ?_⟩
    obtain ⟨ow6, x6, f6, op6⟩ := op.growA (i := 4) (.inl (by decide)) hon ((Fram.refl (own1 (V 4)) _).thenDrew.trans' G1 (fun _ _ h ↦ h)) hnb hF9 hM
    have z1 := f1.size
    have z2 := f2.size
    have z3 := f3.size
    exact ⟨ow6, fun b hb ↦ x6 b (by omega), ⟨_, _, op6⟩, hr3.far f6 (fun z ↦ by have z : vmT (ow rb) := z; rw [trb] at z; unfold vmT at z; omega) (fun z ↦ by have z : vmT (ow gb) := z; rw [tgb] at z; unfold vmT at z; omega), (((f1.mono (fun b _ z ↦ Or.inr z)).trans' f2 (fun b _ z ↦ Or.inr z)).trans' f3 (fun b _ z ↦ Or.inr z)).trans' f6 (fun b _ z ↦ Or.inl z)⟩
end
end Go.Proofs.Qxb6500568aGreatDoor
