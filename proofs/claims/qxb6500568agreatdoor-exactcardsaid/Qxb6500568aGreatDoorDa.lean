import Derived.Test.Qxb6500568aGreatDoorCf
/- The real tables: the views; one, find. -/
namespace Go.Proofs.Qxb6500568aGreatDoor
open Ieee
set_option linter.unusedVariables false
set_option linter.unusedSimpArgs false

def i32c (x : Nat) : Value := .int .i32 x
structure TM where
  vo : Value
  va : Value
  mn : Nat
  ms : Nat
  mr : Nat
  R : RT
def tmc (t : TM) : List Value := [t.vo, t.va, .map (some t.mn), .map (some t.ms), .map (some t.mr), i64c t.R.dead]
theorem tmc_len (t : TM) : (tmc t).length = 6 := rfl
/-- One table in memory. -/
structure TV (w : World) (ow : Nat → Nat) (tag : Nat) (t : TM) : Prop where
  o : OwT w ow tag t.vo 263 6 t.R.ord.length (rws enc t.R.ord)
  a : OwT w ow (tag + 1) t.va 21 1 t.R.arr.length (t.R.arr.map i32c)
  n : MF u64c i32c w.heap t.mn t.R.nums
  s : MF S i32c w.heap t.ms t.R.strs
  r : MF u64c i32c w.heap t.mr t.R.refs
  nt : ow t.mn = tag + 2
  st : ow t.ms = tag + 3
  rt : ow t.mr = tag + 4
theorem TV.far {w w' : World} {ow ow' : Nat → Nat} {tag : Nat} {t : TM} {G : Nat → Prop} (h : TV w ow tag t) (f : Fram G w w') (hn : ∀ b, tag ≤ ow b → ow b < tag + 5 → b < w.heap.size → ¬ G b) (hE : Xt w ow ow') : TV w' ow' tag t :=
  ⟨h.o.far f (fun b hb hl => hn b (by omega) (by omega) hl) hE, h.a.far f (fun b hb hl => hn b (by omega) (by omega) hl) hE, h.n.fram f (hn _ (by rw [h.nt]; omega) (by rw [h.nt]; omega) h.n.lt), h.s.fram f (hn _ (by rw [h.st]; omega) (by rw [h.st]; omega) h.s.lt), h.r.fram f (hn _ (by rw [h.rt]; omega) (by rw [h.rt]; omega) h.r.lt),
    by rw [hE _ h.n.lt]; exact h.nt, by rw [hE _ h.s.lt]; exact h.st, by rw [hE _ h.r.lt]; exact h.rt⟩
theorem TV.farN {w w' : World} {ow : Nat → Nat} {tag : Nat} {t : TM} (h : TV w ow tag t) (f : Fram none' w w') : TV w' ow tag t := h.far f (fun _ _ _ _ h => h) (Xt.refl _ _)
theorem MF.of_heap {α : Type} [DecidableEq α] {kv : α → Value} {vv : Nat → Value} {H : Array Obj} {w' : World} {r : Nat} {f : α → Option Nat} (h : MF kv vv H r f) (hs : SameH H w') : MF kv vv w'.heap r f := by unfold SameH at hs; rw [hs]; exact h

theorem toI_nz : toI 9223372036854775808 = some 0 := by kernel_rfl
theorem keyU248 : KeyT Tryz.prog 117 u64c := keyU (by kernel_rfl)
theorem keyS249 : KeyT Tryz.prog 9 S := keyStr (by kernel_rfl)
theorem one143 {w : World} {xb : Nat} {k : PV} {np V C : Value} (hX : Blk w.heap xb [np, V, C] 75) (hk : W64 k.N) : Ret Tryz.prog 143 [ptr xb, pv k] w (fun r w' => r = .tuple #[pv (nrmK k), icv (whoK k)] ∧ Fram none' w w') := by
  have hF : Fram none' w w := Fram.refl _ _
  refine ret_of Tryz.func143 rfl Tryz.ntmps143 rfl ?_
  refine c_seq (fun K1 hK1 => ?_)
  refine c_reg ?_ -- region 0 index.go:18
  refine wl_box rfl rfl (fun b3 w1 hbb3 h3 F1 => ?_)
  have hbsb3 := Nat.le_trans hF.size hbb3
  have hnexbb3 : xb < b3 := Nat.lt_of_lt_of_le hX.lt hbb3
  replace hF := hF.thenDrew.thenN F1
  replace hX := F1.blkN hX
  refine wl_new (ze_119) (fun b4 w2 hbb4 h4 F2 => ?_)
  have hbsb4 := Nat.le_trans hF.size hbb4
  have hnexbb4 : xb < b4 := Nat.lt_of_lt_of_le hX.lt hbb4
  have hneb3b4 : b3 < b4 := Nat.lt_of_lt_of_le h3.lt hbb4
  replace hF := hF.thenDrew.thenN F2
  replace hX := F2.blkN hX
  replace h3 := F2.blkN h3
  refine wl (ro_assign rfl) ?_
  refine wl_nil (x_then (hK1 _ _ ?_))
  clear hK1 K1
  refine c_seq (fun K2 hK2 => ?_)
  refine c_seq (fun K3 hK3 => ?_)
  refine c_reg ?_ -- region 1 index.go:19
  refine wl (ro_fieldAddr (k := 0) rfl fo_119_0) ?_
  refine wl (ro_loadB rfl sc_3 (by assumption) rfl) ?_
  refine wl (ro_cmp rfl rfl rfl) ?_
  refine wl_nil (x_then (hK3 _ _ ?_))
  clear hK3 K3
  refine wc_cond rfl (fun hc10 => ?_) (fun hc10 => ?_)
  · try simp only [decide_eq_true_eq, decide_eq_false_iff_not, Bool.not_eq_true', Bool.not_eq_false', Bool.not_eq_eq_eq_not, Bool.not_true, Bool.not_false, beq_iff_eq, bne_iff_ne, ne_eq, beq_eq_false_iff_ne, bne_eq_false_iff_eq, gt_iff_lt, ge_iff_le, Int.not_lt, Int.not_le] at hc10
    refine c_seq (fun K4 hK4 => ?_)
    refine c_reg ?_ -- region 2 index.go:20
    refine wl (ro_loadAggB rfl ag_119 (by assumption) rfl rfl) ?_
    refine wl_puta rfl rfl ((pvc_one _)) sz_119 (rfl) h4 ((by simp)) (rfl) (fun w3 h4 F3 => ?_)
    replace hF := hF.thenDrew.thenO F3 (by first | exact .inr (by omega) | exact .inl rfl | exact .inl (by assumption) | assumption)
    replace hX := F3.blkO hX (by omega)
    replace h3 := F3.blkO h3 (by omega)
    refine wl (ro_assign rfl) ?_
    refine wl_nil (x_then (hK4 _ _ ?_))
    clear hK4 K4
    refine c_ret (x_thenR ?_)
    refine bq_ret (res2 Tryz.results143 (rv_c rfl ag_119 (h4) (rfl)) (rv_t rfl)) ?_
    exact ⟨by unfold nrmK whoK; rw [if_neg (fun h => by omega), if_neg (by omega)]; rfl, hF⟩
  · try simp only [decide_eq_true_eq, decide_eq_false_iff_not, Bool.not_eq_true', Bool.not_eq_false', Bool.not_eq_eq_eq_not, Bool.not_true, Bool.not_false, beq_iff_eq, bne_iff_ne, ne_eq, beq_eq_false_iff_ne, bne_eq_false_iff_eq, gt_iff_lt, ge_iff_le, Int.not_lt, Int.not_le] at hc10
    refine c_skip (x_then (hK2 _ _ ?_))
    clear hK2 K2
    refine forget [(0, _), (3, _), (4, _)] ⟨rfl, rfl, rfl, trivial⟩ (fun e => ?_)
    refine c_seq (fun K5 hK5 => ?_)
    refine c_pi [(0, false), (1, false), (2, false), (3, false), (4, false), (5, false), (6, true), (7, false), (8, false), (9, false), (10, false), (11, false)] (SameH _) mixed (by kernel_rfl) rfl (by kernel_rfl) (po_then (po_bp)) (sameH_now _ _) ?_ -- region 3 index.go:22
    refine pi_ro rfl (fun w hS => ro_move rfl) ?_
    refine pi_ro rfl (fun w hS => ro_nilCheck rfl) ?_
    refine pi_ro rfl (fun w hS => ro_fieldAddr (k := 0) rfl fo_75_0) ?_
    refine pi_ro rfl (fun w hS => ro_loadB rfl sc_36 (Blk.of_heap (by assumption) hS) rfl) ?_
    refine pi_ro rfl (fun w hS => ro_fieldAddr (k := 1) rfl fo_119_1) ?_
    refine pi_ro rfl (fun w hS => ro_loadB rfl sc_117 (Blk.of_heap (by assumption) hS) rfl) ?_
    refine pi_call rfl rfl en_200 (ToInt200 hk) ?_
    rintro _ _ ⟨rfl, rfl⟩
    refine ⟨rfl, ?_⟩
    refine pi_ro rfl (fun w hS => ro_move rfl) ?_
    refine pi_ro rfl (fun w hS => ro_extract rfl rfl) ?_
    refine pi_ro rfl (fun w hS => ro_extract rfl rfl) ?_
    refine pi_ro rfl (fun w hS => ro_assign rfl) ?_
    refine pi_ro rfl (fun w hS => ro_assign rfl) ?_
    refine pi_nil (x_then (hK5 _ _ ?_))
    clear hK5 K5
    refine c_seq (fun K6 hK6 => ?_)
    refine c_seq (fun K7 hK7 => ?_)
    refine c_reg ?_ -- region 4 index.go:23
    refine wl (ro_move rfl) ?_
    refine wl (ro_not rfl) ?_
    refine wl_nil (x_then (hK7 _ _ ?_))
    clear hK7 K7
    refine wc_cond rfl (fun hc23 => ?_) (fun hc23 => ?_)
    · try simp only [decide_eq_true_eq, decide_eq_false_iff_not, Bool.not_eq_true', Bool.not_eq_false', Bool.not_eq_eq_eq_not, Bool.not_true, Bool.not_false, beq_iff_eq, bne_iff_ne, ne_eq, beq_eq_false_iff_ne, bne_eq_false_iff_eq, gt_iff_lt, ge_iff_le, Int.not_lt, Int.not_le] at hc23
      have hno : toI k.N = none := by cases hq : toI k.N with | none => rfl | some p => rw [hq] at hc23; cases hc23
      have hnz : k.N ≠ 9223372036854775808 := fun h => by rw [h] at hno; rw [toI_nz] at hno; cases hno
      refine c_seq (fun K8 hK8 => ?_)
      refine c_reg ?_ -- region 5 index.go:24
      refine wl (ro_loadAggB rfl ag_119 (by assumption) rfl rfl) ?_
      refine wl_puta rfl rfl ((pvc_one _)) sz_119 (rfl) h4 ((by simp)) (rfl) (fun w4 h4 F4 => ?_)
      replace hF := hF.thenDrew.thenO F4 (by first | exact .inr (by omega) | exact .inl rfl | exact .inl (by assumption) | assumption)
      replace hX := F4.blkO hX (by omega)
      replace h3 := F4.blkO h3 (by omega)
      refine wl (ro_assign rfl) ?_
      refine wl_nil (x_then (hK8 _ _ ?_))
      clear hK8 K8
      refine c_ret (x_thenR ?_)
      refine bq_ret (res2 Tryz.results143 (rv_c rfl ag_119 (h4) (rfl)) (rv_t rfl)) ?_
      exact ⟨by unfold nrmK whoK; rw [if_neg (fun h => hnz h.2), if_pos (by omega), hno]; rfl, hF.thenDrew⟩
    · try simp only [decide_eq_true_eq, decide_eq_false_iff_not, Bool.not_eq_true', Bool.not_eq_false', Bool.not_eq_eq_eq_not, Bool.not_true, Bool.not_false, beq_iff_eq, bne_iff_ne, ne_eq, beq_eq_false_iff_ne, bne_eq_false_iff_eq, gt_iff_lt, ge_iff_le, Int.not_lt, Int.not_le] at hc23
      obtain ⟨p, hpp⟩ : ∃ p, toI k.N = some p := by cases hq : toI k.N with | none => (rw [hq] at hc23; cases hc23) | some p => exact ⟨p, rfl⟩
      have hw : whoK k = p := by unfold whoK; rw [if_pos (by omega), hpp]; rfl
      have hgd : (toI k.N).getD 0 = p := by rw [hpp]; rfl
      rw [hgd]
      refine c_skip (x_then (hK6 _ _ ?_))
      clear hK6 K6
      refine c_seq (fun K9 hK9 => ?_)
      refine c_seq (fun K10 hK10 => ?_)
      refine c_reg ?_ -- region 6 index.go:26
      refine wl (ro_move rfl) ?_
      refine wl (ro_cmp rfl rfl rfl) ?_
      refine wl_nil (x_then (hK10 _ _ ?_))
      clear hK10 K10
      refine wc_cond rfl (fun hc26 => ?_) (fun hc26 => ?_)
      · try simp only [decide_eq_true_eq, decide_eq_false_iff_not, Bool.not_eq_true', Bool.not_eq_false', Bool.not_eq_eq_eq_not, Bool.not_true, Bool.not_false, beq_iff_eq, bne_iff_ne, ne_eq, beq_eq_false_iff_ne, bne_eq_false_iff_eq, gt_iff_lt, ge_iff_le, Int.not_lt, Int.not_le] at hc26
        refine c_reg ?_ -- region 7 index.go:27
        refine wl (ro_fieldAddr (k := 1) rfl fo_119_1) ?_
        refine wl_put rfl rfl rfl sz_117 h3 (by simp) (rfl) (fun w5 h3 F5 => ?_)
        replace hF := hF.thenDrew.thenO F5 (by first | exact .inr (by omega) | exact .inl rfl | exact .inl (by assumption) | assumption)
        replace hX := F5.blkO hX (by omega)
        replace h4 := F5.blkO h4 (by omega)
        refine wl_nil (x_then (hK9 _ _ ?_))
        clear hK9 K9
        refine forget [(3, _), (4, _), (6, _)] ⟨rfl, rfl, rfl, trivial⟩ (fun e => ?_)
        refine c_seq (fun K11 hK11 => ?_)
        refine c_reg ?_ -- region 8 index.go:29
        refine wl (ro_loadAggB rfl ag_119 (by assumption) rfl rfl) ?_
        refine wl (ro_move rfl) ?_
        refine wl_puta rfl rfl ((by simp [pvc, Value.oneCell', i64c, u64c, S])) sz_119 (rfl) h4 ((by simp)) (rfl) (fun w6 h4 F6 => ?_)
        replace hF := hF.thenDrew.thenO F6 (by first | exact .inr (by omega) | exact .inl rfl | exact .inl (by assumption) | assumption)
        replace hX := F6.blkO hX (by omega)
        replace h3 := F6.blkO h3 (by omega)
        refine wl (ro_assign rfl) ?_
        refine wl_nil (x_then (hK11 _ _ ?_))
        clear hK11 K11
        refine c_ret ?_
        refine bq_ret (res2 Tryz.results143 (rv_c rfl ag_119 (h4) (rfl)) (rv_t rfl)) ?_
        refine ⟨?_, hF⟩
        rw [hw]
        have h0 : k.N = 0 ∨ k.N = 9223372036854775808 := toI_zro hk (by rw [hpp, hc26])
        rcases h0 with h0 | h0
        · have : nrmK k = k := by unfold nrmK; rw [if_neg (fun h => by omega)]
          rw [this]
          show _ = Value.tuple #[.agg #[i64c k.T, u64c k.N, S k.S], icv p]
          rw [h0]; rfl
        · have : nrmK k = ⟨k.T, 0, k.S⟩ := by unfold nrmK; rw [if_pos ⟨by omega, h0⟩, show k.T = 2 by omega]
          rw [this]; rfl
      · try simp only [decide_eq_true_eq, decide_eq_false_iff_not, Bool.not_eq_true', Bool.not_eq_false', Bool.not_eq_eq_eq_not, Bool.not_true, Bool.not_false, beq_iff_eq, bne_iff_ne, ne_eq, beq_eq_false_iff_ne, bne_eq_false_iff_eq, gt_iff_lt, ge_iff_le, Int.not_lt, Int.not_le] at hc26
        refine c_skip (x_then (hK9 _ _ ?_))
        clear hK9 K9
        refine forget [(3, _), (4, _), (6, _)] ⟨rfl, rfl, rfl, trivial⟩ (fun e => ?_)
        refine c_seq (fun K12 hK12 => ?_)
        refine c_reg ?_ -- region 8 index.go:29
        refine wl (ro_loadAggB rfl ag_119 (by assumption) rfl rfl) ?_
        refine wl (ro_move rfl) ?_
        refine wl_puta rfl rfl ((by simp [pvc, Value.oneCell', i64c, u64c, S])) sz_119 (rfl) h4 ((by simp)) (rfl) (fun w7 h4 F7 => ?_)
        replace hF := hF.thenDrew.thenO F7 (by first | exact .inr (by omega) | exact .inl rfl | exact .inl (by assumption) | assumption)
        replace hX := F7.blkO hX (by omega)
        replace h3 := F7.blkO h3 (by omega)
        refine wl (ro_assign rfl) ?_
        refine wl_nil (x_then (hK12 _ _ ?_))
        clear hK12 K12
        refine c_ret ?_
        refine bq_ret (res2 Tryz.results143 (rv_c rfl ag_119 (h4) (rfl)) (rv_t rfl)) ?_
        refine ⟨?_, hF⟩
        have : nrmK k = k := by
          unfold nrmK
          rw [if_neg (fun h => by rw [h.2, toI_nz] at hpp; cases hpp; exact hc26 rfl)]
        rw [hw, this]; rfl
/-- A place, or -1. -/
def plI (q : Option Nat) : Int := match q with | some p => (p : Int) | none => -1
/-- A key as 'one' gives it. -/
structure K1 (k : PV) : Prop where
  n : W64 k.N
  r : k.T ≠ 2 → k.T ≠ 3 → k.T ≤ 7 ∧ k.N < 4294967296
set_option maxHeartbeats 4000000 in
theorem find144 {w : World} {ow : Nat → Nat} {ab o tag : Nat} {l : List Value} {t : TM} {k : PV} {i : Int} (hA : Blk w.heap ab l 251) (hl : (l.drop o).take 6 = tmc t) (hT : TV w ow tag t) (hI : t.R.arr.length ≤ 32 ∧ (∀ p ∈ t.R.arr, p < 2147483648)) (hk : K1 k) (hp : ∀ p, findR t.R k i = some p → p < 2147483648) :
    Ret Tryz.prog 144 [ptrAt ab o, pv k, icv i] w (fun r w' => r = icv (plI (findR t.R k i)) ∧ Fram none' w w') := by
  have hF : Fram none' w w := Fram.refl _ _
  have hAl := hA.lt
  obtain ⟨a, cap, hva⟩ := hT.a.form
  refine ret_of Tryz.func144 rfl Tryz.ntmps144 rfl ?_
  refine c_seq (fun K1 hK1 => ?_)
  refine c_reg ?_ -- region 0 index.go:33
  refine wl_box rfl rfl (fun b4 w1 hbb4 h4 F1 => ?_)
  have hbsb4 := Nat.le_trans hF.size hbb4
  have hneabb4 : ab < b4 := Nat.lt_of_lt_of_le hA.lt hbb4
  replace hF := hF.thenDrew.thenN F1
  replace hA := F1.blkN hA
  refine wl (ro_assign rfl) ?_
  refine wl_nil (x_then (hK1 _ _ ?_))
  clear hK1 K1
  refine c_seq (fun K2 hK2 => ?_)
  refine c_seq (fun K3 hK3 => ?_)
  refine c_reg ?_ -- region 1 index.go:34
  refine wl (ro_move rfl) ?_
  refine wl (ro_cmp rfl rfl rfl) ?_
  refine wl_fork rfl (fun hg11 => ?_) (fun hg11 => ?_)
  · try simp only [decide_eq_true_eq, decide_eq_false_iff_not, Bool.not_eq_true', Bool.not_eq_false', Bool.not_eq_eq_eq_not, Bool.not_true, Bool.not_false, beq_iff_eq, bne_iff_ne, ne_eq, beq_eq_false_iff_ne, bne_eq_false_iff_eq, gt_iff_lt, ge_iff_le, Int.not_lt, Int.not_le] at hg11
    refine wlg_yes rfl (ro_move rfl) ?_
    refine wlg_yes rfl (ro_move rfl) ?_
    refine wlg_yes rfl (ro_nilCheck rfl) ?_
    refine wlg_yes rfl (ro_fieldAddr (k := 1) rfl fo_251_1) ?_
    refine wlg_yes rfl (ro_loadB rfl sc_247 (hA) ((row_cell3 hl (by show some t.va = _; rw [hva])))) ?_
    refine wlg_yes rfl (ro_lenL rfl se_247) ?_
    refine wlg_yes rfl (ro_cmp rfl rfl rfl) ?_
    refine wl (ro_pick rfl rfl rfl) ?_
    refine wl_nil (x_then (hK3 _ _ ?_))
    clear hK3 K3
    refine wc_cond rfl (fun hc19 => ?_) (fun hc19 => ?_)
    · try simp only [decide_eq_true_eq, decide_eq_false_iff_not, Bool.not_eq_true', Bool.not_eq_false', Bool.not_eq_eq_eq_not, Bool.not_true, Bool.not_false, beq_iff_eq, bne_iff_ne, ne_eq, beq_eq_false_iff_ne, bne_eq_false_iff_eq, gt_iff_lt, ge_iff_le, Int.not_lt, Int.not_le] at hc19
      obtain ⟨g, cap2, l2, hva2, hB2, q1, q2, q3, q4⟩ := hT.a.o.pos (by omega)
      obtain ⟨p, hpp⟩ : ∃ p, t.R.arr[(i - 1).toNat]? = some p := ⟨_, List.getElem?_eq_getElem (by omega)⟩
      have hpl := hI.2 p (List.mem_of_getElem? hpp)
      have hB2l := hB2.lt
      replace hB2 := hF.blkN hB2
      have hfr : findR t.R k i = some p := by unfold findR; rw [if_pos (by omega)]; exact hpp
      refine c_seq (fun K4 hK4 => ?_)
      refine c_reg ?_ -- region 2 index.go:35
      refine wl (ro_move rfl) ?_
      refine wl (ro_nilCheck rfl) ?_
      refine wl (ro_fieldAddr (k := 1) rfl fo_251_1) ?_
      refine wl (ro_loadB rfl sc_247 (hA) ((row_cell3 hl (by show some t.va = _; rw [hva2])))) ?_
      refine wl (ro_move rfl) ?_
      refine wl (ro_arith rfl rfl rfl (Go.IntWalk.i64_in _ (by omega))) ?_
      refine wl (ro_indexAddr (et := 21) (k := 1) rfl rfl se_247 ((show i - 1 = (((i - 1).toNat : Nat) : Int) by omega)) ((by omega))) ?_
      refine wl (ro_loadB rfl sc_21 (hB2) ((own_get (v := i32c p) q4 (by rw [Nat.zero_add, Nat.mul_one, List.getElem?_map, hpp]; rfl)))) ?_
      refine wl (ro_conv (a := (p : Int)) rfl sc_21 in_3 (Go.IntWalk.i64_in _ (by omega))) ?_
      refine wl (ro_assign rfl) ?_
      refine wl_nil (x_then (hK4 _ _ ?_))
      clear hK4 K4
      refine c_ret (x_thenR ?_)
      refine bp_ret Tryz.results144 rfl ?_
      exact ⟨by rw [hfr]; rfl, hF⟩
    · try simp only [decide_eq_true_eq, decide_eq_false_iff_not, Bool.not_eq_true', Bool.not_eq_false', Bool.not_eq_eq_eq_not, Bool.not_true, Bool.not_false, beq_iff_eq, bne_iff_ne, ne_eq, beq_eq_false_iff_ne, bne_eq_false_iff_eq, gt_iff_lt, ge_iff_le, Int.not_lt, Int.not_le] at hc19
      refine c_skip (x_then (hK2 _ _ ?_))
      clear hK2 K2
      refine forget [(0, _), (4, _)] ⟨rfl, rfl, trivial⟩ (fun e => ?_)
      refine c_seq (fun K5 hK5 => ?_)
      refine c_reg ?_ -- region 3 index.go:37
      refine wl (ro_assign rfl) ?_
      refine wl_nil (x_then (hK5 _ _ ?_))
      clear hK5 K5
      refine forget [(0, _), (4, _)] ⟨rfl, rfl, trivial⟩ (fun e => ?_)
      refine c_seq (fun K6 hK6 => ?_)
      refine c_reg ?_ -- region 4 index.go:38
      refine wl (ro_assign rfl) ?_
      refine wl_nil (x_then (hK6 _ _ ?_))
      clear hK6 K6
      refine c_mid (fun a' w' => Fram none' w w' ∧ ∃ e, a' = Fr 69 (upds e [(7, ((findR t.R k i).map i32c).getD (.int .i32 0)), (8, .bool (findR t.R k i).isSome)]) []) ?_ ?_
      · skip
        refine c_seq (fun K7 hK7 => ?_)
        refine c_reg ?_ -- region 5 index.go:39
        refine wl (ro_fieldAddr (k := 0) rfl fo_119_0) ?_
        refine wl (ro_loadB rfl sc_3 (by assumption) rfl) ?_
        refine wl_nil (x_then (hK7 _ _ ?_))
        clear hK7 K7
        refine c_block ?_
        refine forget [(0, _), (4, _), (30, _)] ⟨rfl, rfl, rfl, trivial⟩ (fun e => ?_)
        refine c_seq (fun K8 hK8 => ?_)
        refine c_reg ?_ -- region 7 index.go:40
        refine wl (ro_cmp rfl rfl rfl) ?_
        refine wl (ro_assign rfl) ?_
        refine wl_nil (x_then (hK8 _ _ ?_))
        clear hK8 K8
        refine wc_cond rfl (fun hc41 => ?_) (fun hc41 => ?_)
        · try simp only [decide_eq_true_eq, decide_eq_false_iff_not, Bool.not_eq_true', Bool.not_eq_false', Bool.not_eq_eq_eq_not, Bool.not_true, Bool.not_false, beq_iff_eq, bne_iff_ne, ne_eq, beq_eq_false_iff_ne, bne_eq_false_iff_eq, gt_iff_lt, ge_iff_le, Int.not_lt, Int.not_le] at hc41
          have hfr : findR t.R k i = t.R.nums k.N := by unfold findR; rw [if_neg (by omega), if_pos (by omega)]
          refine c_pi [(0, false), (1, false), (2, false), (3, false), (4, false), (5, false), (6, false), (7, false), (8, false), (9, false), (10, false), (11, false)] (SameH _) mixed (by kernel_rfl) rfl (by kernel_rfl) (po_blk (po_then (po_bp))) (sameH_now _ _) ?_ -- region 8 index.go:41
          refine pi_ro rfl (fun w hS => ro_move rfl) ?_
          refine pi_ro rfl (fun w hS => ro_nilCheck rfl) ?_
          refine pi_ro rfl (fun w hS => ro_fieldAddr (k := 2) rfl fo_251_2) ?_
          refine pi_ro rfl (fun w hS => ro_loadB rfl sc_248 (Blk.of_heap hA hS) ((row_cell3 hl rfl))) ?_
          refine pi_ro rfl (fun w hS => ro_fieldAddr (k := 1) rfl fo_119_1) ?_
          refine pi_ro rfl (fun w hS => ro_loadB rfl sc_117 (Blk.of_heap (by assumption) hS) rfl) ?_
          refine pi_ro rfl (fun w hS => ro_mfLook (et := 21) (z := .int .i32 0) (vv := i32c) (f := t.R.nums) (a := k.N) keyU248 rfl rfl (by kernel_rfl) (by kernel_rfl) (MF.of_heap (hT.n.framN hF) hS)) ?_
          refine pi_ro rfl (fun w hS => ro_move rfl) ?_
          refine pi_ro rfl (fun w hS => ro_extract rfl rfl) ?_
          refine pi_ro rfl (fun w hS => ro_extract rfl rfl) ?_
          refine pi_ro rfl (fun w hS => ro_assign rfl) ?_
          refine pi_ro rfl (fun w hS => ro_assign rfl) ?_
          refine pi_nil (x_blk (x_then ?_))
          rw [hfr]
          first | exact ⟨hF, kp _ ⟨rfl, rfl, trivial⟩⟩ | exact ⟨hF.thenDrew, kp _ ⟨rfl, rfl, trivial⟩⟩
        · try simp only [decide_eq_true_eq, decide_eq_false_iff_not, Bool.not_eq_true', Bool.not_eq_false', Bool.not_eq_eq_eq_not, Bool.not_true, Bool.not_false, beq_iff_eq, bne_iff_ne, ne_eq, beq_eq_false_iff_ne, bne_eq_false_iff_eq, gt_iff_lt, ge_iff_le, Int.not_lt, Int.not_le] at hc41
          refine c_seq (fun K9 hK9 => ?_)
          refine c_reg ?_ -- region 9 index.go:42
          refine wl (ro_cmp rfl rfl rfl) ?_
          refine wl (ro_assign rfl) ?_
          refine wl_nil (x_then (hK9 _ _ ?_))
          clear hK9 K9
          refine wc_cond rfl (fun hc53 => ?_) (fun hc53 => ?_)
          · try simp only [decide_eq_true_eq, decide_eq_false_iff_not, Bool.not_eq_true', Bool.not_eq_false', Bool.not_eq_eq_eq_not, Bool.not_true, Bool.not_false, beq_iff_eq, bne_iff_ne, ne_eq, beq_eq_false_iff_ne, bne_eq_false_iff_eq, gt_iff_lt, ge_iff_le, Int.not_lt, Int.not_le] at hc53
            have hfr : findR t.R k i = t.R.strs k.S := by unfold findR; rw [if_neg (by omega), if_neg (by omega), if_pos (by omega)]
            refine c_pi [(0, false), (1, false), (2, false), (3, false), (4, false), (5, false), (6, false), (7, false), (8, false), (9, false), (10, false), (11, false)] (SameH _) mixed (by kernel_rfl) rfl (by kernel_rfl) (po_blk (po_then (po_bp))) (sameH_now _ _) ?_ -- region 10 index.go:43
            refine pi_ro rfl (fun w hS => ro_move rfl) ?_
            refine pi_ro rfl (fun w hS => ro_nilCheck rfl) ?_
            refine pi_ro rfl (fun w hS => ro_fieldAddr (k := 3) rfl fo_251_3) ?_
            refine pi_ro rfl (fun w hS => ro_loadB rfl sc_249 (Blk.of_heap hA hS) ((row_cell3 hl rfl))) ?_
            refine pi_ro rfl (fun w hS => ro_fieldAddr (k := 2) rfl fo_119_2) ?_
            refine pi_ro rfl (fun w hS => ro_loadB rfl sc_9 (Blk.of_heap (by assumption) hS) rfl) ?_
            refine pi_ro rfl (fun w hS => ro_mfLook (et := 21) (z := .int .i32 0) (vv := i32c) (f := t.R.strs) (a := k.S) keyS249 rfl rfl (by kernel_rfl) (by kernel_rfl) (MF.of_heap (hT.s.framN hF) hS)) ?_
            refine pi_ro rfl (fun w hS => ro_move rfl) ?_
            refine pi_ro rfl (fun w hS => ro_extract rfl rfl) ?_
            refine pi_ro rfl (fun w hS => ro_extract rfl rfl) ?_
            refine pi_ro rfl (fun w hS => ro_assign rfl) ?_
            refine pi_ro rfl (fun w hS => ro_assign rfl) ?_
            refine pi_nil (x_blk (x_then ?_))
            rw [hfr]
            first | exact ⟨hF, kp _ ⟨rfl, rfl, trivial⟩⟩ | exact ⟨hF.thenDrew, kp _ ⟨rfl, rfl, trivial⟩⟩
          · try simp only [decide_eq_true_eq, decide_eq_false_iff_not, Bool.not_eq_true', Bool.not_eq_false', Bool.not_eq_eq_eq_not, Bool.not_true, Bool.not_false, beq_iff_eq, bne_iff_ne, ne_eq, beq_eq_false_iff_ne, bne_eq_false_iff_eq, gt_iff_lt, ge_iff_le, Int.not_lt, Int.not_le] at hc53
            have hT2 : k.T ≠ 2 := by omega
            have hT3 : k.T ≠ 3 := by omega
            have hfr : findR t.R k i = t.R.refs (packV k) := by unfold findR; rw [if_neg (by omega), if_neg (by omega), if_neg (by omega)]
            refine c_pi [(0, false), (1, false), (2, false), (3, false), (4, false), (5, true), (6, false), (7, false), (8, false), (9, false), (10, false), (11, false)] (fun u => Blk u.heap ab l 251 ∧ Fram none' w u ∧ Blk u.heap b4 (pvc k) 119) mixed (by kernel_rfl) rfl (by kernel_rfl) (po_blk (po_then (po_bp))) (⟨hA, hF.thenDrew, h4⟩) ?_ -- region 6 index.go:45
            refine pi_ro rfl (fun w hS => ro_move rfl) ?_
            refine pi_ro rfl (fun w hS => ro_nilCheck rfl) ?_
            refine pi_ro rfl (fun w hS => ro_fieldAddr (k := 4) rfl fo_251_4) ?_
            refine pi_ro rfl (fun w hS => ro_loadB rfl sc_248 (hS.1) ((row_cell3 hl rfl))) ?_
            refine pi_ro rfl (fun w hS => ro_loadAggB rfl ag_119 (hS.2.2) (rfl) (rfl)) ?_
            refine pi_call rfl rfl en_201 (pack201 (hk.r hT2 hT3).1 (hk.r hT2 hT3).2) ?_
            rintro _ u1 ⟨rfl, G1⟩
            refine ⟨⟨G1.blkN hA, hF.transD G1, G1.blkN h4⟩, ?_⟩
            replace hF := hF.transG G1 (by intro k hk h; simp only [none', one] at h ⊢ <;> omega)
            replace hA := G1.blkF hA (by intro h; simp only [none', one] at h <;> omega)
            replace h4 := G1.blkF h4 (by intro h; simp only [none', one] at h <;> omega)
            refine pi_ro rfl (fun w hS => ro_mfLook (et := 21) (z := .int .i32 0) (vv := i32c) (f := t.R.refs) (a := packV k) keyU248 rfl rfl (by kernel_rfl) (by kernel_rfl) (hT.r.framN hS.2.1)) ?_
            refine pi_ro rfl (fun w hS => ro_move rfl) ?_
            refine pi_ro rfl (fun w hS => ro_extract rfl rfl) ?_
            refine pi_ro rfl (fun w hS => ro_extract rfl rfl) ?_
            refine pi_ro rfl (fun w hS => ro_assign rfl) ?_
            refine pi_ro rfl (fun w hS => ro_assign rfl) ?_
            refine pi_nil (x_blk (x_then ?_))
            rw [hfr]
            first | exact ⟨hF, kp _ ⟨rfl, rfl, trivial⟩⟩ | exact ⟨hF.thenDrew, kp _ ⟨rfl, rfl, trivial⟩⟩
      rintro a' u1 ⟨hF, e, rfl⟩
      refine c_seq (fun K10 hK10 => ?_)
      refine c_seq (fun K11 hK11 => ?_)
      refine c_reg ?_ -- region 11 index.go:47
      refine wl (ro_move rfl) ?_
      refine wl (ro_not rfl) ?_
      refine wl_nil (x_then (hK11 _ _ ?_))
      clear hK11 K11
      refine wc_cond rfl (fun hc66 => ?_) (fun hc66 => ?_)
      · try simp only [decide_eq_true_eq, decide_eq_false_iff_not, Bool.not_eq_true', Bool.not_eq_false', Bool.not_eq_eq_eq_not, Bool.not_true, Bool.not_false, beq_iff_eq, bne_iff_ne, ne_eq, beq_eq_false_iff_ne, bne_eq_false_iff_eq, gt_iff_lt, ge_iff_le, Int.not_lt, Int.not_le] at hc66
        have hno : findR t.R k i = none := by cases hq : findR t.R k i with | none => rfl | some p => rw [hq] at hc66; cases hc66
        refine c_seq (fun K12 hK12 => ?_)
        refine c_reg ?_ -- region 12 index.go:48
        refine wl (ro_assign rfl) ?_
        refine wl_nil (x_then (hK12 _ _ ?_))
        clear hK12 K12
        refine c_ret (x_thenR ?_)
        refine bp_ret Tryz.results144 rfl ?_
        exact ⟨by rw [hno]; rfl, hF⟩
      · try simp only [decide_eq_true_eq, decide_eq_false_iff_not, Bool.not_eq_true', Bool.not_eq_false', Bool.not_eq_eq_eq_not, Bool.not_true, Bool.not_false, beq_iff_eq, bne_iff_ne, ne_eq, beq_eq_false_iff_ne, bne_eq_false_iff_eq, gt_iff_lt, ge_iff_le, Int.not_lt, Int.not_le] at hc66
        obtain ⟨p, hpp⟩ : ∃ p, findR t.R k i = some p := by cases hq : findR t.R k i with | none => (rw [hq] at hc66; cases hc66) | some p => exact ⟨p, rfl⟩
        have hpl := hp p hpp
        refine c_skip (x_then (hK10 _ _ ?_))
        clear hK10 K10
        refine forget [(7, _)] ⟨rfl, trivial⟩ (fun e => ?_)
        refine c_seq (fun K13 hK13 => ?_)
        refine c_reg ?_ -- region 13 index.go:50
        refine wl (ro_move rfl) ?_
        refine wl (ro_conv (k' := .i32) (a := (p : Int)) (by show some (((findR t.R k i).map i32c).getD _) = _; rw [hpp]; rfl) sc_21 in_3 (Go.IntWalk.i64_in _ (by omega))) ?_
        refine wl (ro_assign rfl) ?_
        refine wl_nil (x_then (hK13 _ _ ?_))
        clear hK13 K13
        refine c_ret ?_
        refine bp_ret Tryz.results144 rfl ?_
        exact ⟨by rw [hpp]; rfl, hF⟩
  · try simp only [decide_eq_true_eq, decide_eq_false_iff_not, Bool.not_eq_true', Bool.not_eq_false', Bool.not_eq_eq_eq_not, Bool.not_true, Bool.not_false, beq_iff_eq, bne_iff_ne, ne_eq, beq_eq_false_iff_ne, bne_eq_false_iff_eq, gt_iff_lt, ge_iff_le, Int.not_lt, Int.not_le] at hg11
    refine wlg_no rfl ?_
    refine wlg_no rfl ?_
    refine wlg_no rfl ?_
    refine wlg_no rfl ?_
    refine wlg_no rfl ?_
    refine wlg_no rfl ?_
    refine wlg_no rfl ?_
    refine wl (ro_pick rfl rfl rfl) ?_
    refine wl_nil (x_then (hK3 _ _ ?_))
    clear hK3 K3
    refine wc_condF rfl ?_
    refine c_skip (x_then (hK2 _ _ ?_))
    clear hK2 K2
    refine forget [(0, _), (4, _)] ⟨rfl, rfl, trivial⟩ (fun e => ?_)
    refine c_seq (fun K14 hK14 => ?_)
    refine c_reg ?_ -- region 3 index.go:37
    refine wl (ro_assign rfl) ?_
    refine wl_nil (x_then (hK14 _ _ ?_))
    clear hK14 K14
    refine forget [(0, _), (4, _)] ⟨rfl, rfl, trivial⟩ (fun e => ?_)
    refine c_seq (fun K15 hK15 => ?_)
    refine c_reg ?_ -- region 4 index.go:38
    refine wl (ro_assign rfl) ?_
    refine wl_nil (x_then (hK15 _ _ ?_))
    clear hK15 K15
    refine c_mid (fun a' w' => Fram none' w w' ∧ ∃ e, a' = Fr 69 (upds e [(7, ((findR t.R k i).map i32c).getD (.int .i32 0)), (8, .bool (findR t.R k i).isSome)]) []) ?_ ?_
    · skip
      refine c_seq (fun K16 hK16 => ?_)
      refine c_reg ?_ -- region 5 index.go:39
      refine wl (ro_fieldAddr (k := 0) rfl fo_119_0) ?_
      refine wl (ro_loadB rfl sc_3 (by assumption) rfl) ?_
      refine wl_nil (x_then (hK16 _ _ ?_))
      clear hK16 K16
      refine c_block ?_
      refine forget [(0, _), (4, _), (30, _)] ⟨rfl, rfl, rfl, trivial⟩ (fun e => ?_)
      refine c_seq (fun K17 hK17 => ?_)
      refine c_reg ?_ -- region 7 index.go:40
      refine wl (ro_cmp rfl rfl rfl) ?_
      refine wl (ro_assign rfl) ?_
      refine wl_nil (x_then (hK17 _ _ ?_))
      clear hK17 K17
      refine wc_cond rfl (fun hc41 => ?_) (fun hc41 => ?_)
      · try simp only [decide_eq_true_eq, decide_eq_false_iff_not, Bool.not_eq_true', Bool.not_eq_false', Bool.not_eq_eq_eq_not, Bool.not_true, Bool.not_false, beq_iff_eq, bne_iff_ne, ne_eq, beq_eq_false_iff_ne, bne_eq_false_iff_eq, gt_iff_lt, ge_iff_le, Int.not_lt, Int.not_le] at hc41
        have hfr : findR t.R k i = t.R.nums k.N := by unfold findR; rw [if_neg (by omega), if_pos (by omega)]
        refine c_pi [(0, false), (1, false), (2, false), (3, false), (4, false), (5, false), (6, false), (7, false), (8, false), (9, false), (10, false), (11, false)] (SameH _) mixed (by kernel_rfl) rfl (by kernel_rfl) (po_blk (po_then (po_bp))) (sameH_now _ _) ?_ -- region 8 index.go:41
        refine pi_ro rfl (fun w hS => ro_move rfl) ?_
        refine pi_ro rfl (fun w hS => ro_nilCheck rfl) ?_
        refine pi_ro rfl (fun w hS => ro_fieldAddr (k := 2) rfl fo_251_2) ?_
        refine pi_ro rfl (fun w hS => ro_loadB rfl sc_248 (Blk.of_heap hA hS) ((row_cell3 hl rfl))) ?_
        refine pi_ro rfl (fun w hS => ro_fieldAddr (k := 1) rfl fo_119_1) ?_
        refine pi_ro rfl (fun w hS => ro_loadB rfl sc_117 (Blk.of_heap (by assumption) hS) rfl) ?_
        refine pi_ro rfl (fun w hS => ro_mfLook (et := 21) (z := .int .i32 0) (vv := i32c) (f := t.R.nums) (a := k.N) keyU248 rfl rfl (by kernel_rfl) (by kernel_rfl) (MF.of_heap (hT.n.framN hF) hS)) ?_
        refine pi_ro rfl (fun w hS => ro_move rfl) ?_
        refine pi_ro rfl (fun w hS => ro_extract rfl rfl) ?_
        refine pi_ro rfl (fun w hS => ro_extract rfl rfl) ?_
        refine pi_ro rfl (fun w hS => ro_assign rfl) ?_
        refine pi_ro rfl (fun w hS => ro_assign rfl) ?_
        refine pi_nil (x_blk (x_then ?_))
        rw [hfr]
        first | exact ⟨hF, kp _ ⟨rfl, rfl, trivial⟩⟩ | exact ⟨hF.thenDrew, kp _ ⟨rfl, rfl, trivial⟩⟩
      · try simp only [decide_eq_true_eq, decide_eq_false_iff_not, Bool.not_eq_true', Bool.not_eq_false', Bool.not_eq_eq_eq_not, Bool.not_true, Bool.not_false, beq_iff_eq, bne_iff_ne, ne_eq, beq_eq_false_iff_ne, bne_eq_false_iff_eq, gt_iff_lt, ge_iff_le, Int.not_lt, Int.not_le] at hc41
        refine c_seq (fun K18 hK18 => ?_)
        refine c_reg ?_ -- region 9 index.go:42
        refine wl (ro_cmp rfl rfl rfl) ?_
        refine wl (ro_assign rfl) ?_
        refine wl_nil (x_then (hK18 _ _ ?_))
        clear hK18 K18
        refine wc_cond rfl (fun hc53 => ?_) (fun hc53 => ?_)
        · try simp only [decide_eq_true_eq, decide_eq_false_iff_not, Bool.not_eq_true', Bool.not_eq_false', Bool.not_eq_eq_eq_not, Bool.not_true, Bool.not_false, beq_iff_eq, bne_iff_ne, ne_eq, beq_eq_false_iff_ne, bne_eq_false_iff_eq, gt_iff_lt, ge_iff_le, Int.not_lt, Int.not_le] at hc53
          have hfr : findR t.R k i = t.R.strs k.S := by unfold findR; rw [if_neg (by omega), if_neg (by omega), if_pos (by omega)]
          refine c_pi [(0, false), (1, false), (2, false), (3, false), (4, false), (5, false), (6, false), (7, false), (8, false), (9, false), (10, false), (11, false)] (SameH _) mixed (by kernel_rfl) rfl (by kernel_rfl) (po_blk (po_then (po_bp))) (sameH_now _ _) ?_ -- region 10 index.go:43
          refine pi_ro rfl (fun w hS => ro_move rfl) ?_
          refine pi_ro rfl (fun w hS => ro_nilCheck rfl) ?_
          refine pi_ro rfl (fun w hS => ro_fieldAddr (k := 3) rfl fo_251_3) ?_
          refine pi_ro rfl (fun w hS => ro_loadB rfl sc_249 (Blk.of_heap hA hS) ((row_cell3 hl rfl))) ?_
          refine pi_ro rfl (fun w hS => ro_fieldAddr (k := 2) rfl fo_119_2) ?_
          refine pi_ro rfl (fun w hS => ro_loadB rfl sc_9 (Blk.of_heap (by assumption) hS) rfl) ?_
          refine pi_ro rfl (fun w hS => ro_mfLook (et := 21) (z := .int .i32 0) (vv := i32c) (f := t.R.strs) (a := k.S) keyS249 rfl rfl (by kernel_rfl) (by kernel_rfl) (MF.of_heap (hT.s.framN hF) hS)) ?_
          refine pi_ro rfl (fun w hS => ro_move rfl) ?_
          refine pi_ro rfl (fun w hS => ro_extract rfl rfl) ?_
          refine pi_ro rfl (fun w hS => ro_extract rfl rfl) ?_
          refine pi_ro rfl (fun w hS => ro_assign rfl) ?_
          refine pi_ro rfl (fun w hS => ro_assign rfl) ?_
          refine pi_nil (x_blk (x_then ?_))
          rw [hfr]
          first | exact ⟨hF, kp _ ⟨rfl, rfl, trivial⟩⟩ | exact ⟨hF.thenDrew, kp _ ⟨rfl, rfl, trivial⟩⟩
        · try simp only [decide_eq_true_eq, decide_eq_false_iff_not, Bool.not_eq_true', Bool.not_eq_false', Bool.not_eq_eq_eq_not, Bool.not_true, Bool.not_false, beq_iff_eq, bne_iff_ne, ne_eq, beq_eq_false_iff_ne, bne_eq_false_iff_eq, gt_iff_lt, ge_iff_le, Int.not_lt, Int.not_le] at hc53
          have hT2 : k.T ≠ 2 := by omega
          have hT3 : k.T ≠ 3 := by omega
          have hfr : findR t.R k i = t.R.refs (packV k) := by unfold findR; rw [if_neg (by omega), if_neg (by omega), if_neg (by omega)]
          refine c_pi [(0, false), (1, false), (2, false), (3, false), (4, false), (5, true), (6, false), (7, false), (8, false), (9, false), (10, false), (11, false)] (fun u => Blk u.heap ab l 251 ∧ Fram none' w u ∧ Blk u.heap b4 (pvc k) 119) mixed (by kernel_rfl) rfl (by kernel_rfl) (po_blk (po_then (po_bp))) (⟨hA, hF.thenDrew, h4⟩) ?_ -- region 6 index.go:45
          refine pi_ro rfl (fun w hS => ro_move rfl) ?_
          refine pi_ro rfl (fun w hS => ro_nilCheck rfl) ?_
          refine pi_ro rfl (fun w hS => ro_fieldAddr (k := 4) rfl fo_251_4) ?_
          refine pi_ro rfl (fun w hS => ro_loadB rfl sc_248 (hS.1) ((row_cell3 hl rfl))) ?_
          refine pi_ro rfl (fun w hS => ro_loadAggB rfl ag_119 (hS.2.2) (rfl) (rfl)) ?_
          refine pi_call rfl rfl en_201 (pack201 (hk.r hT2 hT3).1 (hk.r hT2 hT3).2) ?_
          rintro _ u1 ⟨rfl, G1⟩
          refine ⟨⟨G1.blkN hA, hF.transD G1, G1.blkN h4⟩, ?_⟩
          replace hF := hF.transG G1 (by intro k hk h; simp only [none', one] at h ⊢ <;> omega)
          replace hA := G1.blkF hA (by intro h; simp only [none', one] at h <;> omega)
          replace h4 := G1.blkF h4 (by intro h; simp only [none', one] at h <;> omega)
          refine pi_ro rfl (fun w hS => ro_mfLook (et := 21) (z := .int .i32 0) (vv := i32c) (f := t.R.refs) (a := packV k) keyU248 rfl rfl (by kernel_rfl) (by kernel_rfl) (hT.r.framN hS.2.1)) ?_
          refine pi_ro rfl (fun w hS => ro_move rfl) ?_
          refine pi_ro rfl (fun w hS => ro_extract rfl rfl) ?_
          refine pi_ro rfl (fun w hS => ro_extract rfl rfl) ?_
          refine pi_ro rfl (fun w hS => ro_assign rfl) ?_
          refine pi_ro rfl (fun w hS => ro_assign rfl) ?_
          refine pi_nil (x_blk (x_then ?_))
          rw [hfr]
          first | exact ⟨hF, kp _ ⟨rfl, rfl, trivial⟩⟩ | exact ⟨hF.thenDrew, kp _ ⟨rfl, rfl, trivial⟩⟩
    rintro a' u1 ⟨hF, e, rfl⟩
    refine c_seq (fun K19 hK19 => ?_)
    refine c_seq (fun K20 hK20 => ?_)
    refine c_reg ?_ -- region 11 index.go:47
    refine wl (ro_move rfl) ?_
    refine wl (ro_not rfl) ?_
    refine wl_nil (x_then (hK20 _ _ ?_))
    clear hK20 K20
    refine wc_cond rfl (fun hc66 => ?_) (fun hc66 => ?_)
    · try simp only [decide_eq_true_eq, decide_eq_false_iff_not, Bool.not_eq_true', Bool.not_eq_false', Bool.not_eq_eq_eq_not, Bool.not_true, Bool.not_false, beq_iff_eq, bne_iff_ne, ne_eq, beq_eq_false_iff_ne, bne_eq_false_iff_eq, gt_iff_lt, ge_iff_le, Int.not_lt, Int.not_le] at hc66
      have hno : findR t.R k i = none := by cases hq : findR t.R k i with | none => rfl | some p => rw [hq] at hc66; cases hc66
      refine c_seq (fun K21 hK21 => ?_)
      refine c_reg ?_ -- region 12 index.go:48
      refine wl (ro_assign rfl) ?_
      refine wl_nil (x_then (hK21 _ _ ?_))
      clear hK21 K21
      refine c_ret (x_thenR ?_)
      refine bp_ret Tryz.results144 rfl ?_
      exact ⟨by rw [hno]; rfl, hF⟩
    · try simp only [decide_eq_true_eq, decide_eq_false_iff_not, Bool.not_eq_true', Bool.not_eq_false', Bool.not_eq_eq_eq_not, Bool.not_true, Bool.not_false, beq_iff_eq, bne_iff_ne, ne_eq, beq_eq_false_iff_ne, bne_eq_false_iff_eq, gt_iff_lt, ge_iff_le, Int.not_lt, Int.not_le] at hc66
      obtain ⟨p, hpp⟩ : ∃ p, findR t.R k i = some p := by cases hq : findR t.R k i with | none => (rw [hq] at hc66; cases hc66) | some p => exact ⟨p, rfl⟩
      have hpl := hp p hpp
      refine c_skip (x_then (hK19 _ _ ?_))
      clear hK19 K19
      refine forget [(7, _)] ⟨rfl, trivial⟩ (fun e => ?_)
      refine c_seq (fun K22 hK22 => ?_)
      refine c_reg ?_ -- region 13 index.go:50
      refine wl (ro_move rfl) ?_
      refine wl (ro_conv (k' := .i32) (a := (p : Int)) (by show some (((findR t.R k i).map i32c).getD _) = _; rw [hpp]; rfl) sc_21 in_3 (Go.IntWalk.i64_in _ (by omega))) ?_
      refine wl (ro_assign rfl) ?_
      refine wl_nil (x_then (hK22 _ _ ?_))
      clear hK22 K22
      refine c_ret ?_
      refine bp_ret Tryz.results144 rfl ?_
      exact ⟨by rw [hpp]; rfl, hF⟩

end Go.Proofs.Qxb6500568aGreatDoor
