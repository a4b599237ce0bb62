import Derived.Test.Qxb6500570aGreatDc
import Derived.Test.Qxb6500570aGreatFw
/- The real evaluator: its stacks. -/
namespace Go.Proofs.Qxb6500570aGreat
set_option linter.unusedVariables false
set_option linter.unusedSimpArgs false

/-- The evaluator's blocks: itself, the code, the owners, the values, the tallies; f: its former. -/
structure EB where
  f : Nat
  e : Nat
  c : Nat
  o : Nat
  s : Nat
  t : Nat
def EBo (B : EB) : Prop := B.e < B.c ∧ B.c < B.o ∧ B.o < B.s ∧ B.s < B.t
abbrev tyc (t : Ty) : List Value := [icv t.bad.k, icv t.bad.n, S t.bad.s, icv t.acc, icv t.cnt]
abbrev inc (x : In) : List Value := [i64c x.d, i64c x.a, icv x.v.k, icv x.v.n, S x.v.s, u32c x.m]
abbrev onc (n : Nat) : List Value := [i64c n]
theorem vlc_len (v : Vl) : (vlc v).length = 3 := rfl
theorem tyc_len (v : Ty) : (tyc v).length = 5 := rfl
theorem inc_len (v : In) : (inc v).length = 6 := rfl
theorem onc_len (v : Nat) : (onc v).length = 1 := rfl
theorem tyc_cells (t : Ty) : ∀ u ∈ tyc t, u.oneCell' = true := by
  intro u hu
  simp only [tyc, List.mem_cons, List.not_mem_nil, or_false] at hu
  rcases hu with rfl | rfl | rfl | rfl | rfl <;> rfl
theorem inc_cells (t : In) : ∀ u ∈ inc t, u.oneCell' = true := by
  intro u hu
  simp only [inc, List.mem_cons, List.not_mem_nil, or_false] at hu
  rcases hu with rfl | rfl | rfl | rfl | rfl | rfl <;> rfl
abbrev evs (B : EB) (st cl top dp : Nat) : List Value := [ptr B.f, sl B.c 48, i64c st, u32c cl, sl B.o 24, sl B.s 24, i64c top, sl B.t 24, i64c dp]
def es (B : EB) : Nat → Prop := fun b => b = B.e ∨ b = B.s
def et (B : EB) : Nat → Prop := fun b => b = B.e ∨ b = B.t

theorem push206 {w : World} {B : EB} {st cl top dp : Nat} {SL : List Vl} {x : Vl} (ho : EBo B) (hB : Blk w.heap B.e (evs B st cl top dp) 89) (hK : Blk w.heap B.s (rws vlc SL) 104) (hl : SL.length = 24) (ht : top < 24) :
    Ret Tryz.prog 206 [ptr B.e, vlA x] w (fun _ w' => Blk w'.heap B.e (evs B st cl (top + 1) dp) 89 ∧ Blk w'.heap B.s (rws vlc (SL.set top x)) 104 ∧ Fram (es B) w w') := by
  have hF : Fram (es B) w w := Fram.refl _ _
  have hm1 : es B B.e := .inl rfl
  have hm2 : es B B.s := .inr rfl
  unfold EBo at ho
  refine ret_of Tryz.func206 rfl Tryz.ntmps206 rfl ?_
  refine c_seq (fun K1 hK1 => ?_)
  refine c_reg ?_ -- region 0 run.go:14
  refine wl_box rfl rfl (fun xb w1 hbxb hX F1 => ?_)
  have hbsxb := Nat.le_trans hF.size hbxb
  have hneB.exb : B.e < xb := Nat.lt_of_lt_of_le hB.lt hbxb
  have hneB.sxb : B.s < xb := Nat.lt_of_lt_of_le hK.lt hbxb
  replace hF := hF.thenDrew.thenN F1
  replace hB := F1.blkN hB
  replace hK := F1.blkN hK
  refine wl_nil (x_then (hK1 _ _ ?_))
  clear hK1 K1
  refine forget [(0, _), (3, _)] ⟨rfl, rfl, trivial⟩ (fun e => ?_)
  refine c_seq (fun K2 hK2 => ?_)
  refine c_piL 10 [(0, false), (1, false), (2, false), (3, false), (4, false), (5, false), (6, false), (7, false), (8, false), (9, false)] (SameH _) mixed (by kernel_rfl) rfl (by kernel_rfl) (po_then (po_bp)) (sameH_now _ _) ?_ -- region 1 run.go:15
  refine ql_ro rfl (fun w hS => ro_move rfl) ?_
  refine ql_ro rfl (fun w hS => ro_nilCheck rfl) ?_
  refine ql_ro rfl (fun w hS => ro_fieldAddr (k := 5) rfl fo_89_5) ?_
  refine ql_ro rfl (fun w hS => ro_loadB rfl sc_86 (Blk.of_heap (by assumption) hS) rfl) ?_
  refine ql_ro rfl (fun w hS => ro_move rfl) ?_
  refine ql_ro rfl (fun w hS => ro_nilCheck rfl) ?_
  refine ql_ro rfl (fun w hS => ro_fieldAddr (k := 6) rfl fo_89_6) ?_
  refine ql_ro rfl (fun w hS => ro_loadB rfl sc_3 (Blk.of_heap (by assumption) hS) rfl) ?_
  refine ql_ro rfl (fun w hS => ro_loadAggB rfl ag_104 (Blk.of_heap (by assumption) hS) rfl rfl) ?_
  refine ql_ro rfl (fun w hS => ro_indexAddr (et := 104) (k := 3) rfl rfl se_86 rfl (by omega)) ?_
  refine ql_puta rfl rfl rfl ((vlc_cells _)) sz_104 (rfl) hK ((rw_fit vlc_len (i := top) (j := 0) (by omega) (by omega) (by omega))) ((rw_puta vlc_len (i := top) (by omega) (by omega))) (fun w2 hK F2 => ?_)
  replace hF := hF.thenDrew.thenO F2 (by first | exact .inr (by omega) | exact .inl rfl | exact .inl (by assumption))
  replace hB := F2.blkO hB (by omega)
  replace hX := F2.blkO hX (by omega)
  refine x_then (hK2 _ _ ?_)
  clear hK2 K2
  refine c_reg ?_ -- region 2 run.go:16
  refine wl (ro_move rfl) ?_
  refine wl (ro_nilCheck rfl) ?_
  refine wl (ro_fieldAddr (k := 6) rfl fo_89_6) ?_
  refine wl (ro_loadB rfl sc_3 (by assumption) rfl) ?_
  refine wl (ro_arith rfl rfl rfl (Go.IntWalk.i64_in _ (by omega))) ?_
  refine wl (ro_nilCheck rfl) ?_
  refine wl (ro_fieldAddr (k := 6) rfl fo_89_6) ?_
  refine wl_put rfl rfl rfl sz_3 hB ((by simp)) ((show _ = evs B st cl (top + 1) dp from rfl)) (fun w3 hB F3 => ?_)
  replace hF := hF.thenDrew.thenO F3 (by first | exact .inr (by omega) | exact .inl rfl | exact .inl (by assumption))
  replace hK := F3.blkO hK (by omega)
  replace hX := F3.blkO hX (by omega)
  refine wl_nil ?_
  refine bp_end Tryz.results206 rfl ?_
  exact ⟨hB, hK, hF⟩
theorem pop189 {w : World} {B : EB} {st cl top dp : Nat} {SL : List Vl} {x : Vl} (ho : EBo B) (hB : Blk w.heap B.e (evs B st cl (top + 1) dp) 89) (hK : Blk w.heap B.s (rws vlc SL) 104) (hl : SL.length = 24) (ht : top < 24) (hx : SL[top]? = some x) :
    Ret Tryz.prog 189 [ptr B.e] w (fun v w' => v = vlA x ∧ Blk w'.heap B.e (evs B st cl top dp) 89 ∧ Fram (one B.e) w w') := by
  have hF : Fram (one B.e) w w := Fram.refl _ _
  unfold EBo at ho
  refine ret_of Tryz.func189 rfl Tryz.ntmps189 rfl ?_
  refine c_seq (fun K1 hK1 => ?_)
  refine c_reg ?_ -- region 0 run.go:19
  refine wl_new (ze_104) (fun b2 w1 hbb2 h2 F1 => ?_)
  have hbsb2 := Nat.le_trans hF.size hbb2
  have hneB.eb2 : B.e < b2 := Nat.lt_of_lt_of_le hB.lt hbb2
  have hneB.sb2 : B.s < b2 := Nat.lt_of_lt_of_le hK.lt hbb2
  replace hF := hF.thenDrew.thenN F1
  replace hB := F1.blkN hB
  replace hK := F1.blkN hK
  refine wl_nil (x_then (hK1 _ _ ?_))
  clear hK1 K1
  refine forget [(0, _), (2, _)] ⟨rfl, rfl, trivial⟩ (fun e => ?_)
  refine c_seq (fun K2 hK2 => ?_)
  refine c_reg ?_ -- region 1 run.go:20
  refine wl (ro_move rfl) ?_
  refine wl (ro_nilCheck rfl) ?_
  refine wl (ro_fieldAddr (k := 6) rfl fo_89_6) ?_
  refine wl (ro_loadB rfl sc_3 (by assumption) rfl) ?_
  refine wl (ro_arith (r := (top : Int)) rfl rfl (congrArg some (by omega)) (Go.IntWalk.i64_in _ (by omega))) ?_
  refine wl (ro_nilCheck rfl) ?_
  refine wl (ro_fieldAddr (k := 6) rfl fo_89_6) ?_
  refine wl_put rfl rfl rfl sz_3 hB ((by simp)) ((show _ = evs B st cl top dp from rfl)) (fun w2 hB F2 => ?_)
  replace hF := hF.thenDrew.thenO F2 (by first | exact .inr (by omega) | exact .inl rfl | exact .inl (by assumption))
  replace hK := F2.blkO hK (by omega)
  replace h2 := F2.blkO h2 (by omega)
  refine wl_nil (x_then (hK2 _ _ ?_))
  clear hK2 K2
  refine forget [(0, _), (2, _)] ⟨rfl, rfl, trivial⟩ (fun e => ?_)
  refine c_seq (fun K3 hK3 => ?_)
  refine c_piL 10 [(0, false), (1, false), (2, false), (3, false), (4, false), (5, false), (6, false), (7, false), (8, false), (9, false)] (SameH _) mixed (by kernel_rfl) rfl (by kernel_rfl) (po_then (po_bp)) (sameH_now _ _) ?_ -- region 2 run.go:21
  refine ql_ro rfl (fun w hS => ro_move rfl) ?_
  refine ql_ro rfl (fun w hS => ro_nilCheck rfl) ?_
  refine ql_ro rfl (fun w hS => ro_fieldAddr (k := 5) rfl fo_89_5) ?_
  refine ql_ro rfl (fun w hS => ro_loadB rfl sc_86 (Blk.of_heap (by assumption) hS) rfl) ?_
  refine ql_ro rfl (fun w hS => ro_move rfl) ?_
  refine ql_ro rfl (fun w hS => ro_nilCheck rfl) ?_
  refine ql_ro rfl (fun w hS => ro_fieldAddr (k := 6) rfl fo_89_6) ?_
  refine ql_ro rfl (fun w hS => ro_loadB rfl sc_3 (Blk.of_heap (by assumption) hS) rfl) ?_
  refine ql_ro rfl (fun w hS => ro_indexAddr (et := 104) (k := 3) rfl rfl se_86 rfl (by omega)) ?_
  refine ql_ro rfl (fun w hS => ro_loadAggB rfl ag_104 (Blk.of_heap hK hS) ((vlc_len x)) ((rw_agg vlc_len hx (by omega)))) ?_
  refine ql_puta rfl rfl rfl ((vlc_cells _)) sz_104 (rfl) h2 ((by simp)) (rfl) (fun w3 h2 F3 => ?_)
  replace hF := hF.thenDrew.thenO F3 (by first | exact .inr (by omega) | exact .inl rfl | exact .inl (by assumption))
  replace hB := F3.blkO hB (by omega)
  replace hK := F3.blkO hK (by omega)
  refine x_then (hK3 _ _ ?_)
  clear hK3 K3
  refine c_ret ?_
  refine bq_ret (res1 Tryz.results189 (rv_c rfl ag_104 (h2) rfl)) ?_
  exact ⟨rfl, hB, hF⟩

theorem set_self {α : Type} {L : List α} {i : Nat} {x : α} (h : L[i]? = some x) : L.set i x = L := by
  apply List.ext_getElem?
  intro j
  by_cases e : i = j
  · subst e
    rw [List.getElem?_set_self ((List.getElem?_eq_some_iff.1 h).1), h]
  · rw [List.getElem?_set_ne e]
theorem tk_eq {n : Int} {f : Nat} (h : (n == 1) = ((f : Int) == 7)) : decide (n = 1) = decide (f = 7) := by
  have h1 : (n == 1) = decide (n = 1) := by by_cases e : n = 1 <;> simp [e]
  have h2 : ((f : Int) == 7) = decide (f = 7) := beqc f 7
  rw [h1, h2] at h
  exact h
theorem tk_ne {n : Int} {f : Nat} (h : ¬ (n == 1) = ((f : Int) == 7)) : ¬ decide (n = 1) = decide (f = 7) := by
  have h1 : (n == 1) = decide (n = 1) := by by_cases e : n = 1 <;> simp [e]
  have h2 : ((f : Int) == 7) = decide (f = 7) := beqc f 7
  rw [h1, h2] at h
  exact h
set_option maxHeartbeats 8000000 in
theorem take210 {w : World} {B : EB} {st cl top d f : Nat} {TL : List Ty} {x : Vl} {t : Ty} {inR : Bool} (ho : EBo B) (hB : Blk w.heap B.e (evs B st cl top (d + 1)) 89) (hT : Blk w.heap B.t (rws tyc TL) 228) (hl : TL.length = 24) (hd : TL[d]? = some t) (hx : Lw x) (hok : TyOK f 1100 t) :
    Ret Tryz.prog 210 [ptr B.e, i64c f, vlA x, .bool inR] w (fun _ w' => Blk w'.heap B.t (rws tyc (TL.set d (takeT f x inR t))) 228 ∧ Fram (one B.t) w w') := by
  have hF : Fram (one B.t) w w := Fram.refl _ _
  have hm1 : one B.t B.t := rfl
  unfold EBo at ho
  have hd24 : d < 24 := by have := (List.getElem?_eq_some_iff.1 hd).1; omega
  have hbx := hx.bd
  have ho1 := hok.c0
  have ho2 := hok.c1
  have ho3 := hok.a0
  have ho4 := hok.a1
  refine ret_of Tryz.func210 rfl Tryz.ntmps210 rfl ?_
  refine c_seq (fun K1 hK1 => ?_)
  refine c_reg ?_ -- region 0 run.go:75
  refine wl_box rfl rfl (fun b6 w1 hbb6 h6 F1 => ?_)
  have hbsb6 := Nat.le_trans hF.size hbb6
  have hneB.eb6 : B.e < b6 := Nat.lt_of_lt_of_le hB.lt hbb6
  have hneB.tb6 : B.t < b6 := Nat.lt_of_lt_of_le hT.lt hbb6
  replace hF := hF.thenDrew.thenN F1
  replace hB := F1.blkN hB
  replace hT := F1.blkN hT
  refine wl_nil (x_then (hK1 _ _ ?_))
  clear hK1 K1
  refine forget [(0, _), (1, _), (3, _), (6, _)] ⟨rfl, rfl, rfl, rfl, trivial⟩ (fun e => ?_)
  refine c_seq (fun K2 hK2 => ?_)
  refine c_reg ?_ -- region 1 run.go:76
  refine wl (ro_move rfl) ?_
  refine wl (ro_nilCheck rfl) ?_
  refine wl (ro_fieldAddr (k := 8) rfl fo_89_8) ?_
  refine wl (ro_loadB rfl sc_3 (by assumption) rfl) ?_
  refine wl (ro_arith (r := (d : Int)) rfl rfl (congrArg some (by omega)) (Go.IntWalk.i64_in _ (by omega))) ?_
  refine wl (ro_assign rfl) ?_
  refine wl_nil (x_then (hK2 _ _ ?_))
  clear hK2 K2
  refine c_seq (fun K3 hK3 => ?_)
  refine c_seq (fun K4 hK4 => ?_)
  refine c_reg ?_ -- region 2 run.go:77
  refine wl (ro_move rfl) ?_
  refine wl (ro_nilCheck rfl) ?_
  refine wl (ro_fieldAddr (k := 7) rfl fo_89_7) ?_
  refine wl (ro_loadB rfl sc_87 (by assumption) rfl) ?_
  refine wl (ro_move rfl) ?_
  refine wl (ro_indexAddr (et := 228) (k := 5) rfl rfl se_87 rfl (by omega)) ?_
  refine wl (ro_fieldAddr (k := 0) rfl fo_228_0) ?_
  refine wl (ro_fieldAddr (k := 0) rfl fo_104_0) ?_
  refine wl (ro_loadB rfl sc_3 (hT) ((rw_get tyc_len hd (j := 0) (by omega) rfl))) ?_
  refine wl (ro_cmp rfl rfl rfl) ?_
  refine wl_nil (x_then (hK4 _ _ ?_))
  clear hK4 K4
  refine wc_cond rfl (fun hc24 => ?_) (fun hc24 => ?_)
  · try simp only [decide_eq_true_eq, decide_eq_false_iff_not, Bool.not_eq_true', Bool.not_eq_false', Bool.not_eq_eq_eq_not, Bool.not_true, Bool.not_false, beq_iff_eq, bne_iff_ne, ne_eq, beq_eq_false_iff_ne, bne_eq_false_iff_eq, gt_iff_lt, ge_iff_le, Int.not_lt, Int.not_le] at hc24
    refine c_ret (x_thenR ?_)
    refine bp_ret Tryz.results210 rfl ?_
    refine ⟨?_, hF⟩
    rw [show takeT f x inR t = t by unfold takeT; rw [if_pos (by omega)], set_self hd]
    exact hT
  · try simp only [decide_eq_true_eq, decide_eq_false_iff_not, Bool.not_eq_true', Bool.not_eq_false', Bool.not_eq_eq_eq_not, Bool.not_true, Bool.not_false, beq_iff_eq, bne_iff_ne, ne_eq, beq_eq_false_iff_ne, bne_eq_false_iff_eq, gt_iff_lt, ge_iff_le, Int.not_lt, Int.not_le] at hc24
    refine c_skip (x_then (hK3 _ _ ?_))
    clear hK3 K3
    refine c_seq (fun K5 hK5 => ?_)
    refine c_seq (fun K6 hK6 => ?_)
    refine c_reg ?_ -- region 3 run.go:80
    refine wl (ro_fieldAddr (k := 0) rfl fo_104_0) ?_
    refine wl (ro_loadB rfl sc_3 (by assumption) rfl) ?_
    refine wl (ro_cmp rfl rfl rfl) ?_
    refine wl_nil (x_then (hK6 _ _ ?_))
    clear hK6 K6
    refine wc_cond rfl (fun hc27 => ?_) (fun hc27 => ?_)
    · try simp only [decide_eq_true_eq, decide_eq_false_iff_not, Bool.not_eq_true', Bool.not_eq_false', Bool.not_eq_eq_eq_not, Bool.not_true, Bool.not_false, beq_iff_eq, bne_iff_ne, ne_eq, beq_eq_false_iff_ne, bne_eq_false_iff_eq, gt_iff_lt, ge_iff_le, Int.not_lt, Int.not_le] at hc27
      refine c_seq (fun K7 hK7 => ?_)
      refine c_piL 8 [(0, false), (1, false), (2, false), (3, false), (4, false), (5, false), (6, false), (7, false)] (SameH _) mixed (by kernel_rfl) rfl (by kernel_rfl) (po_then (po_then (po_bp))) (sameH_now _ _) ?_ -- region 4 run.go:81
      refine ql_ro rfl (fun w hS => ro_move rfl) ?_
      refine ql_ro rfl (fun w hS => ro_nilCheck rfl) ?_
      refine ql_ro rfl (fun w hS => ro_fieldAddr (k := 7) rfl fo_89_7) ?_
      refine ql_ro rfl (fun w hS => ro_loadB rfl sc_87 (Blk.of_heap (by assumption) hS) rfl) ?_
      refine ql_ro rfl (fun w hS => ro_move rfl) ?_
      refine ql_ro rfl (fun w hS => ro_loadAggB rfl ag_104 (Blk.of_heap (by assumption) hS) rfl rfl) ?_
      refine ql_ro rfl (fun w hS => ro_indexAddr (et := 228) (k := 5) rfl rfl se_87 rfl (by omega)) ?_
      refine ql_ro rfl (fun w hS => ro_fieldAddr (k := 0) rfl fo_228_0) ?_
      refine ql_puta rfl rfl rfl ((vlc_cells _)) sz_104 (rfl) hT ((rw_fit tyc_len (i := d) (j := 0) (by omega) (by omega) (by omega))) ((rw_puts tyc_len (i := d) (j := 0) (m := 3) (x' := { t with bad := x }) hd (by omega) (by omega) rfl)) (fun w2 hT F2 => ?_)
      replace hF := hF.thenDrew.thenO F2 (by first | exact .inr (by omega) | exact .inl rfl | exact .inl (by assumption))
      replace hB := F2.blkO hB (by omega)
      replace h6 := F2.blkO h6 (by omega)
      refine x_then (hK7 _ _ ?_)
      clear hK7 K7
      refine c_ret (x_thenR ?_)
      refine bp_ret Tryz.results210 rfl ?_
      refine ⟨?_, hF⟩
      rw [show takeT f x inR t = { t with bad := x } by unfold takeT; rw [if_neg (by omega), if_pos (by omega)]]
      exact hT
    · try simp only [decide_eq_true_eq, decide_eq_false_iff_not, Bool.not_eq_true', Bool.not_eq_false', Bool.not_eq_eq_eq_not, Bool.not_true, Bool.not_false, beq_iff_eq, bne_iff_ne, ne_eq, beq_eq_false_iff_ne, bne_eq_false_iff_eq, gt_iff_lt, ge_iff_le, Int.not_lt, Int.not_le] at hc27
      refine c_skip (x_then (hK5 _ _ ?_))
      clear hK5 K5
      refine c_seq (fun K8 hK8 => ?_)
      refine c_seq (fun K9 hK9 => ?_)
      refine c_reg ?_ -- region 5 run.go:84
      refine wl (ro_move rfl) ?_
      refine wl (ro_cmp rfl rfl rfl) ?_
      refine wl_fork rfl (fun hg38 => ?_) (fun hg38 => ?_)
      · try simp only [decide_eq_true_eq, decide_eq_false_iff_not, Bool.not_eq_true', Bool.not_eq_false', Bool.not_eq_eq_eq_not, Bool.not_true, Bool.not_false, beq_iff_eq, bne_iff_ne, ne_eq, beq_eq_false_iff_ne, bne_eq_false_iff_eq, gt_iff_lt, ge_iff_le, Int.not_lt, Int.not_le] at hg38
        refine wlg_no rfl ?_
        refine wlg_no rfl ?_
        refine wl (ro_pick rfl rfl rfl) ?_
        refine wl_nil (x_then (hK9 _ _ ?_))
        clear hK9 K9
        refine wc_condT rfl ?_
        refine c_seq (fun K10 hK10 => ?_)
        refine c_seq (fun K11 hK11 => ?_)
        refine c_reg ?_ -- region 6 run.go:85
        refine wl (ro_fieldAddr (k := 0) rfl fo_104_0) ?_
        refine wl (ro_loadB rfl sc_3 (by assumption) rfl) ?_
        refine wl (ro_cmp rfl rfl rfl) ?_
        refine wl_nil (x_then (hK11 _ _ ?_))
        clear hK11 K11
        refine wc_cond rfl (fun hc44 => ?_) (fun hc44 => ?_)
        · try simp only [decide_eq_true_eq, decide_eq_false_iff_not, Bool.not_eq_true', Bool.not_eq_false', Bool.not_eq_eq_eq_not, Bool.not_true, Bool.not_false, beq_iff_eq, bne_iff_ne, ne_eq, beq_eq_false_iff_ne, bne_eq_false_iff_eq, gt_iff_lt, ge_iff_le, Int.not_lt, Int.not_le] at hc44
          refine c_seq (fun K12 hK12 => ?_)
          refine c_piL 8 [(0, false), (1, false), (2, false), (3, false), (4, false), (5, true), (6, false), (7, false)] (fun w' => Blk w'.heap B.e (evs B st cl top (d + 1)) 89) mixed (by kernel_rfl) rfl (by kernel_rfl) (po_then (po_then (po_then (po_bp)))) (hB) ?_ -- region 7 run.go:86
          refine ql_ro rfl (fun w hS => ro_move rfl) ?_
          refine ql_ro rfl (fun w hS => ro_nilCheck rfl) ?_
          refine ql_ro rfl (fun w hS => ro_fieldAddr (k := 7) rfl fo_89_7) ?_
          refine ql_ro rfl (fun w hS => ro_loadB rfl sc_87 (hS) (rfl)) ?_
          refine ql_ro rfl (fun w hS => ro_move rfl) ?_
          refine ql_call rfl rfl en_116 (Err116) ?_
          rintro _ u7 ⟨rfl, G7⟩
          replace hF := hF.transG G7 (by intro k hk h; simp only [one, none', es, et] at h ⊢ <;> omega)
          replace hB := G7.blkF hB (by intro h; simp only [one, none', es, et] at h <;> omega)
          replace hT := G7.blkF hT (by intro h; simp only [one, none', es, et] at h <;> omega)
          replace h6 := G7.blkF h6 (by intro h; simp only [one, none', es, et] at h <;> omega)
          refine ⟨hB, ?_⟩
          refine ql_ro rfl (fun w hS => ro_indexAddr (et := 228) (k := 5) rfl rfl se_87 rfl (by omega)) ?_
          refine ql_ro rfl (fun w hS => ro_fieldAddr (k := 0) rfl fo_228_0) ?_
          refine ql_puta rfl rfl rfl ((vlc_cells _)) sz_104 (rfl) hT ((rw_fit tyc_len (i := d) (j := 0) (by omega) (by omega) (by omega))) ((rw_puts tyc_len (i := d) (j := 0) (m := 3) (x' := { t with bad := vE 5 }) hd (by omega) (by omega) rfl)) (fun w3 hT F3 => ?_)
          replace hF := hF.thenDrew.thenO F3 (by first | exact .inr (by omega) | exact .inl rfl | exact .inl (by assumption))
          replace hB := F3.blkO hB (by omega)
          replace h6 := F3.blkO h6 (by omega)
          refine x_then (hK12 _ _ ?_)
          clear hK12 K12
          refine c_ret (x_thenR (x_thenR ?_))
          refine bp_ret Tryz.results210 rfl ?_
          refine ⟨?_, hF⟩
          rw [show takeT f x inR t = { t with bad := vE 5 } by unfold takeT; rw [if_neg (by omega), if_neg (by omega), if_pos (by omega), if_neg (by omega)]]
          exact hT
        · try simp only [decide_eq_true_eq, decide_eq_false_iff_not, Bool.not_eq_true', Bool.not_eq_false', Bool.not_eq_eq_eq_not, Bool.not_true, Bool.not_false, beq_iff_eq, bne_iff_ne, ne_eq, beq_eq_false_iff_ne, bne_eq_false_iff_eq, gt_iff_lt, ge_iff_le, Int.not_lt, Int.not_le] at hc44
          refine c_skip (x_then (hK10 _ _ ?_))
          clear hK10 K10
          refine c_seq (fun K13 hK13 => ?_)
          refine c_seq (fun K14 hK14 => ?_)
          refine c_reg ?_ -- region 8 run.go:89
          refine wl (ro_fieldAddr (k := 1) rfl fo_104_1) ?_
          refine wl (ro_loadB rfl sc_3 (by assumption) rfl) ?_
          refine wl (ro_cmp rfl rfl rfl) ?_
          refine wl (ro_move rfl) ?_
          refine wl (ro_cmp rfl rfl rfl) ?_
          refine wl (ro_eqBool rfl rfl (by kernel_rfl) rfl) ?_
          refine wl_nil (x_then (hK14 _ _ ?_))
          clear hK14 K14
          refine wc_cond rfl (fun hc58 => ?_) (fun hc58 => ?_)
          · try simp only [decide_eq_true_eq, decide_eq_false_iff_not, Bool.not_eq_true', Bool.not_eq_false', Bool.not_eq_eq_eq_not, Bool.not_true, Bool.not_false, beq_iff_eq, bne_iff_ne, ne_eq, beq_eq_false_iff_ne, bne_eq_false_iff_eq, gt_iff_lt, ge_iff_le, Int.not_lt, Int.not_le] at hc58
            refine c_reg ?_ -- region 9 run.go:90
            refine wl (ro_move rfl) ?_
            refine wl (ro_nilCheck rfl) ?_
            refine wl (ro_fieldAddr (k := 7) rfl fo_89_7) ?_
            refine wl (ro_loadB rfl sc_87 (by assumption) rfl) ?_
            refine wl (ro_move rfl) ?_
            refine wl (ro_indexAddr (et := 228) (k := 5) rfl rfl se_87 rfl (by omega)) ?_
            refine wl (ro_fieldAddr (k := 3) rfl fo_228_1) ?_
            refine wl_put rfl rfl rfl sz_3 hT ((rw_fit tyc_len (i := d) (j := 3) (m := 1) (by omega) (by omega) (by omega))) ((rw_put tyc_len (i := d) (j := 3) (x' := { t with acc := 1 }) hd (by omega) (by omega) rfl)) (fun w4 hT F4 => ?_)
            replace hF := hF.thenDrew.thenO F4 (by first | exact .inr (by omega) | exact .inl rfl | exact .inl (by assumption))
            replace hB := F4.blkO hB (by omega)
            replace h6 := F4.blkO h6 (by omega)
            refine wl_nil (x_then (hK13 _ _ ?_))
            clear hK13 K13
            refine c_ret (x_thenR ?_)
            refine bp_ret Tryz.results210 rfl ?_
            refine ⟨?_, hF⟩
            rw [show takeT f x inR t = { t with acc := 1 } by unfold takeT; rw [if_neg (by omega), if_neg (by omega), if_pos (by omega), if_pos (by omega), if_pos (tk_eq hc58)]]
            exact hT
          · try simp only [decide_eq_true_eq, decide_eq_false_iff_not, Bool.not_eq_true', Bool.not_eq_false', Bool.not_eq_eq_eq_not, Bool.not_true, Bool.not_false, beq_iff_eq, bne_iff_ne, ne_eq, beq_eq_false_iff_ne, bne_eq_false_iff_eq, gt_iff_lt, ge_iff_le, Int.not_lt, Int.not_le] at hc58
            refine c_skip (x_then (hK13 _ _ ?_))
            clear hK13 K13
            refine c_ret (x_thenR ?_)
            refine bp_ret Tryz.results210 rfl ?_
            refine ⟨?_, hF⟩
            rw [show takeT f x inR t = t by unfold takeT; rw [if_neg (by omega), if_neg (by omega), if_pos (by omega), if_pos (by omega), if_neg (tk_ne hc58)], set_self hd]
            exact hT
      · try simp only [decide_eq_true_eq, decide_eq_false_iff_not, Bool.not_eq_true', Bool.not_eq_false', Bool.not_eq_eq_eq_not, Bool.not_true, Bool.not_false, beq_iff_eq, bne_iff_ne, ne_eq, beq_eq_false_iff_ne, bne_eq_false_iff_eq, gt_iff_lt, ge_iff_le, Int.not_lt, Int.not_le] at hg38
        refine wlg_yes rfl (ro_move rfl) ?_
        refine wlg_yes rfl (ro_cmp rfl rfl rfl) ?_
        refine wl (ro_pick rfl rfl rfl) ?_
        refine wl_nil (x_then (hK9 _ _ ?_))
        clear hK9 K9
        refine wc_cond rfl (fun hc41 => ?_) (fun hc41 => ?_)
        · try simp only [decide_eq_true_eq, decide_eq_false_iff_not, Bool.not_eq_true', Bool.not_eq_false', Bool.not_eq_eq_eq_not, Bool.not_true, Bool.not_false, beq_iff_eq, bne_iff_ne, ne_eq, beq_eq_false_iff_ne, bne_eq_false_iff_eq, gt_iff_lt, ge_iff_le, Int.not_lt, Int.not_le] at hc41
          refine c_seq (fun K15 hK15 => ?_)
          refine c_seq (fun K16 hK16 => ?_)
          refine c_reg ?_ -- region 6 run.go:85
          refine wl (ro_fieldAddr (k := 0) rfl fo_104_0) ?_
          refine wl (ro_loadB rfl sc_3 (by assumption) rfl) ?_
          refine wl (ro_cmp rfl rfl rfl) ?_
          refine wl_nil (x_then (hK16 _ _ ?_))
          clear hK16 K16
          refine wc_cond rfl (fun hc44 => ?_) (fun hc44 => ?_)
          · try simp only [decide_eq_true_eq, decide_eq_false_iff_not, Bool.not_eq_true', Bool.not_eq_false', Bool.not_eq_eq_eq_not, Bool.not_true, Bool.not_false, beq_iff_eq, bne_iff_ne, ne_eq, beq_eq_false_iff_ne, bne_eq_false_iff_eq, gt_iff_lt, ge_iff_le, Int.not_lt, Int.not_le] at hc44
            refine c_seq (fun K17 hK17 => ?_)
            refine c_piL 8 [(0, false), (1, false), (2, false), (3, false), (4, false), (5, true), (6, false), (7, false)] (fun w' => Blk w'.heap B.e (evs B st cl top (d + 1)) 89) mixed (by kernel_rfl) rfl (by kernel_rfl) (po_then (po_then (po_then (po_bp)))) (hB) ?_ -- region 7 run.go:86
            refine ql_ro rfl (fun w hS => ro_move rfl) ?_
            refine ql_ro rfl (fun w hS => ro_nilCheck rfl) ?_
            refine ql_ro rfl (fun w hS => ro_fieldAddr (k := 7) rfl fo_89_7) ?_
            refine ql_ro rfl (fun w hS => ro_loadB rfl sc_87 (hS) (rfl)) ?_
            refine ql_ro rfl (fun w hS => ro_move rfl) ?_
            refine ql_call rfl rfl en_116 (Err116) ?_
            rintro _ u7 ⟨rfl, G7⟩
            replace hF := hF.transG G7 (by intro k hk h; simp only [one, none', es, et] at h ⊢ <;> omega)
            replace hB := G7.blkF hB (by intro h; simp only [one, none', es, et] at h <;> omega)
            replace hT := G7.blkF hT (by intro h; simp only [one, none', es, et] at h <;> omega)
            replace h6 := G7.blkF h6 (by intro h; simp only [one, none', es, et] at h <;> omega)
            refine ⟨hB, ?_⟩
            refine ql_ro rfl (fun w hS => ro_indexAddr (et := 228) (k := 5) rfl rfl se_87 rfl (by omega)) ?_
            refine ql_ro rfl (fun w hS => ro_fieldAddr (k := 0) rfl fo_228_0) ?_
            refine ql_puta rfl rfl rfl ((vlc_cells _)) sz_104 (rfl) hT ((rw_fit tyc_len (i := d) (j := 0) (by omega) (by omega) (by omega))) ((rw_puts tyc_len (i := d) (j := 0) (m := 3) (x' := { t with bad := vE 5 }) hd (by omega) (by omega) rfl)) (fun w5 hT F5 => ?_)
            replace hF := hF.thenDrew.thenO F5 (by first | exact .inr (by omega) | exact .inl rfl | exact .inl (by assumption))
            replace hB := F5.blkO hB (by omega)
            replace h6 := F5.blkO h6 (by omega)
            refine x_then (hK17 _ _ ?_)
            clear hK17 K17
            refine c_ret (x_thenR (x_thenR ?_))
            refine bp_ret Tryz.results210 rfl ?_
            refine ⟨?_, hF⟩
            rw [show takeT f x inR t = { t with bad := vE 5 } by unfold takeT; rw [if_neg (by omega), if_neg (by omega), if_pos (by omega), if_neg (by omega)]]
            exact hT
          · try simp only [decide_eq_true_eq, decide_eq_false_iff_not, Bool.not_eq_true', Bool.not_eq_false', Bool.not_eq_eq_eq_not, Bool.not_true, Bool.not_false, beq_iff_eq, bne_iff_ne, ne_eq, beq_eq_false_iff_ne, bne_eq_false_iff_eq, gt_iff_lt, ge_iff_le, Int.not_lt, Int.not_le] at hc44
            refine c_skip (x_then (hK15 _ _ ?_))
            clear hK15 K15
            refine c_seq (fun K18 hK18 => ?_)
            refine c_seq (fun K19 hK19 => ?_)
            refine c_reg ?_ -- region 8 run.go:89
            refine wl (ro_fieldAddr (k := 1) rfl fo_104_1) ?_
            refine wl (ro_loadB rfl sc_3 (by assumption) rfl) ?_
            refine wl (ro_cmp rfl rfl rfl) ?_
            refine wl (ro_move rfl) ?_
            refine wl (ro_cmp rfl rfl rfl) ?_
            refine wl (ro_eqBool rfl rfl (by kernel_rfl) rfl) ?_
            refine wl_nil (x_then (hK19 _ _ ?_))
            clear hK19 K19
            refine wc_cond rfl (fun hc58 => ?_) (fun hc58 => ?_)
            · try simp only [decide_eq_true_eq, decide_eq_false_iff_not, Bool.not_eq_true', Bool.not_eq_false', Bool.not_eq_eq_eq_not, Bool.not_true, Bool.not_false, beq_iff_eq, bne_iff_ne, ne_eq, beq_eq_false_iff_ne, bne_eq_false_iff_eq, gt_iff_lt, ge_iff_le, Int.not_lt, Int.not_le] at hc58
              refine c_reg ?_ -- region 9 run.go:90
              refine wl (ro_move rfl) ?_
              refine wl (ro_nilCheck rfl) ?_
              refine wl (ro_fieldAddr (k := 7) rfl fo_89_7) ?_
              refine wl (ro_loadB rfl sc_87 (by assumption) rfl) ?_
              refine wl (ro_move rfl) ?_
              refine wl (ro_indexAddr (et := 228) (k := 5) rfl rfl se_87 rfl (by omega)) ?_
              refine wl (ro_fieldAddr (k := 3) rfl fo_228_1) ?_
              refine wl_put rfl rfl rfl sz_3 hT ((rw_fit tyc_len (i := d) (j := 3) (m := 1) (by omega) (by omega) (by omega))) ((rw_put tyc_len (i := d) (j := 3) (x' := { t with acc := 1 }) hd (by omega) (by omega) rfl)) (fun w6 hT F6 => ?_)
              replace hF := hF.thenDrew.thenO F6 (by first | exact .inr (by omega) | exact .inl rfl | exact .inl (by assumption))
              replace hB := F6.blkO hB (by omega)
              replace h6 := F6.blkO h6 (by omega)
              refine wl_nil (x_then (hK18 _ _ ?_))
              clear hK18 K18
              refine c_ret (x_thenR ?_)
              refine bp_ret Tryz.results210 rfl ?_
              refine ⟨?_, hF⟩
              rw [show takeT f x inR t = { t with acc := 1 } by unfold takeT; rw [if_neg (by omega), if_neg (by omega), if_pos (by omega), if_pos (by omega), if_pos (tk_eq hc58)]]
              exact hT
            · try simp only [decide_eq_true_eq, decide_eq_false_iff_not, Bool.not_eq_true', Bool.not_eq_false', Bool.not_eq_eq_eq_not, Bool.not_true, Bool.not_false, beq_iff_eq, bne_iff_ne, ne_eq, beq_eq_false_iff_ne, bne_eq_false_iff_eq, gt_iff_lt, ge_iff_le, Int.not_lt, Int.not_le] at hc58
              refine c_skip (x_then (hK18 _ _ ?_))
              clear hK18 K18
              refine c_ret (x_thenR ?_)
              refine bp_ret Tryz.results210 rfl ?_
              refine ⟨?_, hF⟩
              rw [show takeT f x inR t = t by unfold takeT; rw [if_neg (by omega), if_neg (by omega), if_pos (by omega), if_pos (by omega), if_neg (tk_ne hc58)], set_self hd]
              exact hT
        · try simp only [decide_eq_true_eq, decide_eq_false_iff_not, Bool.not_eq_true', Bool.not_eq_false', Bool.not_eq_eq_eq_not, Bool.not_true, Bool.not_false, beq_iff_eq, bne_iff_ne, ne_eq, beq_eq_false_iff_ne, bne_eq_false_iff_eq, gt_iff_lt, ge_iff_le, Int.not_lt, Int.not_le] at hc41
          refine c_skip (x_then (hK8 _ _ ?_))
          clear hK8 K8
          refine c_seq (fun K20 hK20 => ?_)
          refine c_seq (fun K21 hK21 => ?_)
          refine c_reg ?_ -- region 10 run.go:94
          refine wl (ro_fieldAddr (k := 0) rfl fo_104_0) ?_
          refine wl (ro_loadB rfl sc_3 (by assumption) rfl) ?_
          refine wl (ro_cmp rfl rfl rfl) ?_
          refine wl_nil (x_then (hK21 _ _ ?_))
          clear hK21 K21
          refine wc_cond rfl (fun hc68 => ?_) (fun hc68 => ?_)
          · try simp only [decide_eq_true_eq, decide_eq_false_iff_not, Bool.not_eq_true', Bool.not_eq_false', Bool.not_eq_eq_eq_not, Bool.not_true, Bool.not_false, beq_iff_eq, bne_iff_ne, ne_eq, beq_eq_false_iff_ne, bne_eq_false_iff_eq, gt_iff_lt, ge_iff_le, Int.not_lt, Int.not_le] at hc68
            refine c_ret (x_thenR ?_)
            refine bp_ret Tryz.results210 rfl ?_
            refine ⟨?_, hF⟩
            rw [show takeT f x inR t = t by unfold takeT; rw [if_neg (by omega), if_neg (by omega), if_neg (by omega), if_pos (by omega)], set_self hd]
            exact hT
          · try simp only [decide_eq_true_eq, decide_eq_false_iff_not, Bool.not_eq_true', Bool.not_eq_false', Bool.not_eq_eq_eq_not, Bool.not_true, Bool.not_false, beq_iff_eq, bne_iff_ne, ne_eq, beq_eq_false_iff_ne, bne_eq_false_iff_eq, gt_iff_lt, ge_iff_le, Int.not_lt, Int.not_le] at hc68
            refine c_skip (x_then (hK20 _ _ ?_))
            clear hK20 K20
            refine c_seq (fun K22 hK22 => ?_)
            refine c_seq (fun K23 hK23 => ?_)
            refine c_reg ?_ -- region 11 run.go:97
            refine wl (ro_fieldAddr (k := 0) rfl fo_104_0) ?_
            refine wl (ro_loadB rfl sc_3 (by assumption) rfl) ?_
            refine wl (ro_cmp rfl rfl rfl) ?_
            refine wl_nil (x_then (hK23 _ _ ?_))
            clear hK23 K23
            refine wc_cond rfl (fun hc71 => ?_) (fun hc71 => ?_)
            · try simp only [decide_eq_true_eq, decide_eq_false_iff_not, Bool.not_eq_true', Bool.not_eq_false', Bool.not_eq_eq_eq_not, Bool.not_true, Bool.not_false, beq_iff_eq, bne_iff_ne, ne_eq, beq_eq_false_iff_ne, bne_eq_false_iff_eq, gt_iff_lt, ge_iff_le, Int.not_lt, Int.not_le] at hc71
              refine c_seq (fun K24 hK24 => ?_)
              refine c_seq (fun K25 hK25 => ?_)
              refine c_reg ?_ -- region 12 run.go:98
              refine wl (ro_move rfl) ?_
              refine wl (ro_not rfl) ?_
              refine wl_nil (x_then (hK25 _ _ ?_))
              clear hK25 K25
              refine wc_cond rfl (fun hc73 => ?_) (fun hc73 => ?_)
              · try simp only [decide_eq_true_eq, decide_eq_false_iff_not, Bool.not_eq_true', Bool.not_eq_false', Bool.not_eq_eq_eq_not, Bool.not_true, Bool.not_false, beq_iff_eq, bne_iff_ne, ne_eq, beq_eq_false_iff_ne, bne_eq_false_iff_eq, gt_iff_lt, ge_iff_le, Int.not_lt, Int.not_le] at hc73
                refine c_piL 8 [(0, false), (1, false), (2, false), (3, false), (4, false), (5, true), (6, false), (7, false)] (fun w' => Blk w'.heap B.e (evs B st cl top (d + 1)) 89) mixed (by kernel_rfl) rfl (by kernel_rfl) (po_then (po_then (po_bp))) (hB) ?_ -- region 13 run.go:99
                refine ql_ro rfl (fun w hS => ro_move rfl) ?_
                refine ql_ro rfl (fun w hS => ro_nilCheck rfl) ?_
                refine ql_ro rfl (fun w hS => ro_fieldAddr (k := 7) rfl fo_89_7) ?_
                refine ql_ro rfl (fun w hS => ro_loadB rfl sc_87 (hS) (rfl)) ?_
                refine ql_ro rfl (fun w hS => ro_move rfl) ?_
                refine ql_call rfl rfl en_116 (Err116) ?_
                rintro _ u7 ⟨rfl, G7⟩
                replace hF := hF.transG G7 (by intro k hk h; simp only [one, none', es, et] at h ⊢ <;> omega)
                replace hB := G7.blkF hB (by intro h; simp only [one, none', es, et] at h <;> omega)
                replace hT := G7.blkF hT (by intro h; simp only [one, none', es, et] at h <;> omega)
                replace h6 := G7.blkF h6 (by intro h; simp only [one, none', es, et] at h <;> omega)
                refine ⟨hB, ?_⟩
                refine ql_ro rfl (fun w hS => ro_indexAddr (et := 228) (k := 5) rfl rfl se_87 rfl (by omega)) ?_
                refine ql_ro rfl (fun w hS => ro_fieldAddr (k := 0) rfl fo_228_0) ?_
                refine ql_puta rfl rfl rfl ((vlc_cells _)) sz_104 (rfl) hT ((rw_fit tyc_len (i := d) (j := 0) (by omega) (by omega) (by omega))) ((rw_puts tyc_len (i := d) (j := 0) (m := 3) (x' := { t with bad := vE 5 }) hd (by omega) (by omega) rfl)) (fun w7 hT F7 => ?_)
                replace hF := hF.thenDrew.thenO F7 (by first | exact .inr (by omega) | exact .inl rfl | exact .inl (by assumption))
                replace hB := F7.blkO hB (by omega)
                replace h6 := F7.blkO h6 (by omega)
                refine x_then (hK24 _ _ ?_)
                clear hK24 K24
                refine c_ret (x_thenR ?_)
                refine bp_ret Tryz.results210 rfl ?_
                refine ⟨?_, hF⟩
                rw [show takeT f x inR t = { t with bad := vE 5 } by unfold takeT; rw [if_neg (by omega), if_neg (by omega), if_neg (by omega), if_neg (by omega), if_neg (by omega), if_neg (by rw [hc73]; decide)]]
                exact hT
              · try simp only [decide_eq_true_eq, decide_eq_false_iff_not, Bool.not_eq_true', Bool.not_eq_false', Bool.not_eq_eq_eq_not, Bool.not_true, Bool.not_false, beq_iff_eq, bne_iff_ne, ne_eq, beq_eq_false_iff_ne, bne_eq_false_iff_eq, gt_iff_lt, ge_iff_le, Int.not_lt, Int.not_le] at hc73
                refine c_skip (x_then (hK24 _ _ ?_))
                clear hK24 K24
                refine c_ret (x_thenR ?_)
                refine bp_ret Tryz.results210 rfl ?_
                refine ⟨?_, hF⟩
                rw [show takeT f x inR t = t by unfold takeT; rw [if_neg (by omega), if_neg (by omega), if_neg (by omega), if_neg (by omega), if_neg (by omega), if_pos hc73], set_self hd]
                exact hT
            · try simp only [decide_eq_true_eq, decide_eq_false_iff_not, Bool.not_eq_true', Bool.not_eq_false', Bool.not_eq_eq_eq_not, Bool.not_true, Bool.not_false, beq_iff_eq, bne_iff_ne, ne_eq, beq_eq_false_iff_ne, bne_eq_false_iff_eq, gt_iff_lt, ge_iff_le, Int.not_lt, Int.not_le] at hc71
              refine c_skip (x_then (hK22 _ _ ?_))
              clear hK22 K22
              refine forget [(0, _), (1, _), (6, _), (8, _)] ⟨rfl, rfl, rfl, rfl, trivial⟩ (fun e => ?_)
              refine c_seq (fun K26 hK26 => ?_)
              have hres : takeT f x inR t = ⟨t.bad, (if f = 1 then t.acc + x.n else if f = 2 then (if t.cnt = 0 ∨ x.n < t.acc then x.n else t.acc) else if f = 3 then (if t.cnt = 0 ∨ x.n > t.acc then x.n else t.acc) else t.acc), t.cnt + 1⟩ := by
                unfold takeT
                rw [if_neg (by omega), if_neg (by omega), if_neg (by omega), if_neg (by omega), if_pos (by omega)]
              generalize hA : (if f = 1 then t.acc + x.n else if f = 2 then (if t.cnt = 0 ∨ x.n < t.acc then x.n else t.acc) else if f = 3 then (if t.cnt = 0 ∨ x.n > t.acc then x.n else t.acc) else t.acc) = A at hres
              by_cases hz : t.cnt = 0
              · skip
                refine c_reg ?_ -- region 14 run.go:103
                refine wl (ro_move rfl) ?_
                refine wl (ro_nilCheck rfl) ?_
                refine wl (ro_fieldAddr (k := 7) rfl fo_89_7) ?_
                refine wl (ro_loadB rfl sc_87 (by assumption) rfl) ?_
                refine wl (ro_move rfl) ?_
                refine wl (ro_indexAddr (et := 228) (k := 5) rfl rfl se_87 rfl (by omega)) ?_
                refine wl (ro_fieldAddr (k := 4) rfl fo_228_2) ?_
                refine wl (ro_loadB rfl sc_3 (hT) ((rw_get tyc_len hd (j := 4) (by omega) rfl))) ?_
                refine wl (ro_cmp (r := true) rfl rfl (congrArg some (by simp [hz]))) ?_
                refine wl (ro_assign rfl) ?_
                refine wl_nil (x_then (hK26 _ _ ?_))
                clear hK26 K26
                refine c_mid (fun a' w' => Blk w'.heap B.t (rws tyc (TL.set d ⟨t.bad, A, t.cnt⟩)) 228 ∧ Blk w'.heap B.e (evs B st cl top (d + 1)) 89 ∧ Fram (one B.t) w w' ∧ ∃ e, a' = Fr 173 (upds e [(0, ptr B.e), (8, i64c d)]) []) ?_ ?_
                · skip
                  refine c_seq (fun K27 hK27 => ?_)
                  refine c_reg ?_ -- region 15 run.go:104
                  refine wl (ro_move rfl) ?_
                  refine wl_nil (x_then (hK27 _ _ ?_))
                  clear hK27 K27
                  refine c_block ?_
                  refine forget [(0, _), (6, _), (8, _), (9, _), (91, _)] ⟨rfl, rfl, rfl, rfl, rfl, trivial⟩ (fun e => ?_)
                  refine c_seq (fun K28 hK28 => ?_)
                  refine c_reg ?_ -- region 16 run.go:105
                  refine wl (ro_cmp rfl rfl rfl) ?_
                  refine wl (ro_assign rfl) ?_
                  refine wl_nil (x_then (hK28 _ _ ?_))
                  clear hK28 K28
                  refine wc_cond rfl (fun hc92 => ?_) (fun hc92 => ?_)
                  · try simp only [decide_eq_true_eq, decide_eq_false_iff_not, Bool.not_eq_true', Bool.not_eq_false', Bool.not_eq_eq_eq_not, Bool.not_true, Bool.not_false, beq_iff_eq, bne_iff_ne, ne_eq, beq_eq_false_iff_ne, bne_eq_false_iff_eq, gt_iff_lt, ge_iff_le, Int.not_lt, Int.not_le] at hc92
                    refine c_piL 18 [(0, false), (1, false), (2, false), (3, false), (4, false), (5, false), (6, false), (7, false), (8, false), (9, false), (10, false), (11, false), (12, false), (13, false), (14, false), (15, false), (16, false), (17, false)] (SameH _) mixed (by kernel_rfl) rfl (by kernel_rfl) (po_blk (po_then (po_bp))) (sameH_now _ _) ?_ -- region 17 run.go:106
                    refine ql_ro rfl (fun w hS => ro_move rfl) ?_
                    refine ql_ro rfl (fun w hS => ro_nilCheck rfl) ?_
                    refine ql_ro rfl (fun w hS => ro_fieldAddr (k := 7) rfl fo_89_7) ?_
                    refine ql_ro rfl (fun w hS => ro_loadB rfl sc_87 (Blk.of_heap (by assumption) hS) rfl) ?_
                    refine ql_ro rfl (fun w hS => ro_move rfl) ?_
                    refine ql_ro rfl (fun w hS => ro_move rfl) ?_
                    refine ql_ro rfl (fun w hS => ro_nilCheck rfl) ?_
                    refine ql_ro rfl (fun w hS => ro_fieldAddr (k := 7) rfl fo_89_7) ?_
                    refine ql_ro rfl (fun w hS => ro_loadB rfl sc_87 (Blk.of_heap (by assumption) hS) rfl) ?_
                    refine ql_ro rfl (fun w hS => ro_move rfl) ?_
                    refine ql_ro rfl (fun w hS => ro_indexAddr (et := 228) (k := 5) rfl rfl se_87 rfl (by omega)) ?_
                    refine ql_ro rfl (fun w hS => ro_fieldAddr (k := 3) rfl fo_228_1) ?_
                    refine ql_ro rfl (fun w hS => ro_loadB rfl sc_3 (Blk.of_heap hT hS) ((rw_get tyc_len hd (j := 3) (by omega) rfl))) ?_
                    refine ql_ro rfl (fun w hS => ro_fieldAddr (k := 1) rfl fo_104_1) ?_
                    refine ql_ro rfl (fun w hS => ro_loadB rfl sc_3 (Blk.of_heap (by assumption) hS) rfl) ?_
                    refine ql_ro rfl (fun w hS => ro_arith (r := t.acc + x.n) rfl rfl rfl (Go.IntWalk.i64_in _ (by omega))) ?_
                    refine ql_ro rfl (fun w hS => ro_indexAddr (et := 228) (k := 5) rfl rfl se_87 rfl (by omega)) ?_
                    refine ql_ro rfl (fun w hS => ro_fieldAddr (k := 3) rfl fo_228_1) ?_
                    refine ql_put rfl rfl rfl rfl sz_3 hT ((rw_fit tyc_len (i := d) (j := 3) (m := 1) (by omega) (by omega) (by omega))) ((rw_put tyc_len (i := d) (j := 3) (x' := ⟨t.bad, A, t.cnt⟩) hd (by omega) (by omega) (by rw [← hA, if_pos (by omega)]; rfl))) (fun w8 hT F8 => ?_)
                    replace hF := hF.thenDrew.thenO F8 (by first | exact .inr (by omega) | exact .inl rfl | exact .inl (by assumption))
                    replace hB := F8.blkO hB (by omega)
                    replace h6 := F8.blkO h6 (by omega)
                    refine x_blk (x_then ?_)
                    first
                      | exact ⟨hT, hB, hF, kp _ ⟨rfl, rfl, trivial⟩⟩
                      | exact ⟨hT, hB, hF.thenDrew, kp _ ⟨rfl, rfl, trivial⟩⟩
                      | (have hAA : A = t.acc := by rw [← hA]; repeat first | rw [if_pos (by omega)] | rw [if_neg (by omega)]
                         rw [hAA, show (⟨t.bad, t.acc, t.cnt⟩ : Ty) = t from rfl, set_self hd]
                         first
                           | exact ⟨hT, hB, hF, kp _ ⟨rfl, rfl, trivial⟩⟩
                           | exact ⟨hT, hB, hF.thenDrew, kp _ ⟨rfl, rfl, trivial⟩⟩)
                  · try simp only [decide_eq_true_eq, decide_eq_false_iff_not, Bool.not_eq_true', Bool.not_eq_false', Bool.not_eq_eq_eq_not, Bool.not_true, Bool.not_false, beq_iff_eq, bne_iff_ne, ne_eq, beq_eq_false_iff_ne, bne_eq_false_iff_eq, gt_iff_lt, ge_iff_le, Int.not_lt, Int.not_le] at hc92
                    refine c_seq (fun K29 hK29 => ?_)
                    refine c_reg ?_ -- region 18 run.go:107
                    refine wl (ro_cmp rfl rfl rfl) ?_
                    refine wl (ro_assign rfl) ?_
                    refine wl_nil (x_then (hK29 _ _ ?_))
                    clear hK29 K29
                    refine wc_cond rfl (fun hc112 => ?_) (fun hc112 => ?_)
                    · try simp only [decide_eq_true_eq, decide_eq_false_iff_not, Bool.not_eq_true', Bool.not_eq_false', Bool.not_eq_eq_eq_not, Bool.not_true, Bool.not_false, beq_iff_eq, bne_iff_ne, ne_eq, beq_eq_false_iff_ne, bne_eq_false_iff_eq, gt_iff_lt, ge_iff_le, Int.not_lt, Int.not_le] at hc112
                      refine c_seq (fun K30 hK30 => ?_)
                      refine c_pi [(0, false), (1, false), (2, false), (3, false), (4, false), (5, false), (6, false), (7, false), (8, false), (9, false), (10, false), (11, false), (12, false), (13, false)] (SameH _) mixed (by kernel_rfl) rfl (by kernel_rfl) (po_then (po_blk (po_then (po_bp)))) (sameH_now _ _) ?_ -- region 19 run.go:108
                      refine pi_ro rfl (fun w hS => ro_move rfl) ?_
                      refine pi_ro rfl (fun w hS => ro_move rfl) ?_
                      refine pi_gno rfl rfl ?_
                      refine pi_gno rfl rfl ?_
                      refine pi_gno rfl rfl ?_
                      refine pi_gno rfl rfl ?_
                      refine pi_gno rfl rfl ?_
                      refine pi_gno rfl rfl ?_
                      refine pi_gno rfl rfl ?_
                      refine pi_gno rfl rfl ?_
                      refine pi_gno rfl rfl ?_
                      refine pi_gno rfl rfl ?_
                      refine pi_gno rfl rfl ?_
                      refine pi_ro rfl (fun w hS => ro_pick rfl rfl rfl) ?_
                      refine pi_nil (x_then (hK30 _ _ ?_))
                      clear hK30 K30
                      refine wc_condT rfl ?_
                      refine c_piL 9 [(0, false), (1, false), (2, false), (3, false), (4, false), (5, false), (6, false), (7, false), (8, false)] (SameH _) mixed (by kernel_rfl) rfl (by kernel_rfl) (po_blk (po_then (po_bp))) (sameH_now _ _) ?_ -- region 20 run.go:109
                      refine ql_ro rfl (fun w hS => ro_move rfl) ?_
                      refine ql_ro rfl (fun w hS => ro_nilCheck rfl) ?_
                      refine ql_ro rfl (fun w hS => ro_fieldAddr (k := 7) rfl fo_89_7) ?_
                      refine ql_ro rfl (fun w hS => ro_loadB rfl sc_87 (Blk.of_heap (by assumption) hS) rfl) ?_
                      refine ql_ro rfl (fun w hS => ro_move rfl) ?_
                      refine ql_ro rfl (fun w hS => ro_fieldAddr (k := 1) rfl fo_104_1) ?_
                      refine ql_ro rfl (fun w hS => ro_loadB rfl sc_3 (Blk.of_heap (by assumption) hS) rfl) ?_
                      refine ql_ro rfl (fun w hS => ro_indexAddr (et := 228) (k := 5) rfl rfl se_87 rfl (by omega)) ?_
                      refine ql_ro rfl (fun w hS => ro_fieldAddr (k := 3) rfl fo_228_1) ?_
                      refine ql_put rfl rfl rfl rfl sz_3 hT ((rw_fit tyc_len (i := d) (j := 3) (m := 1) (by omega) (by omega) (by omega))) ((rw_put tyc_len (i := d) (j := 3) (x' := ⟨t.bad, A, t.cnt⟩) hd (by omega) (by omega) (by rw [← hA, if_neg (by omega), if_pos (by omega), if_pos (by omega)]; rfl))) (fun w9 hT F9 => ?_)
                      replace hF := hF.thenDrew.thenO F9 (by first | exact .inr (by omega) | exact .inl rfl | exact .inl (by assumption))
                      replace hB := F9.blkO hB (by omega)
                      replace h6 := F9.blkO h6 (by omega)
                      refine x_blk (x_then ?_)
                      first
                        | exact ⟨hT, hB, hF, kp _ ⟨rfl, rfl, trivial⟩⟩
                        | exact ⟨hT, hB, hF.thenDrew, kp _ ⟨rfl, rfl, trivial⟩⟩
                        | (have hAA : A = t.acc := by rw [← hA]; repeat first | rw [if_pos (by omega)] | rw [if_neg (by omega)]
                           rw [hAA, show (⟨t.bad, t.acc, t.cnt⟩ : Ty) = t from rfl, set_self hd]
                           first
                             | exact ⟨hT, hB, hF, kp _ ⟨rfl, rfl, trivial⟩⟩
                             | exact ⟨hT, hB, hF.thenDrew, kp _ ⟨rfl, rfl, trivial⟩⟩)
                    · try simp only [decide_eq_true_eq, decide_eq_false_iff_not, Bool.not_eq_true', Bool.not_eq_false', Bool.not_eq_eq_eq_not, Bool.not_true, Bool.not_false, beq_iff_eq, bne_iff_ne, ne_eq, beq_eq_false_iff_ne, bne_eq_false_iff_eq, gt_iff_lt, ge_iff_le, Int.not_lt, Int.not_le] at hc112
                      refine c_seq (fun K31 hK31 => ?_)
                      refine c_reg ?_ -- region 21 run.go:111
                      refine wl (ro_cmp rfl rfl rfl) ?_
                      refine wl (ro_assign rfl) ?_
                      refine wl_nil (x_then (hK31 _ _ ?_))
                      clear hK31 K31
                      refine wc_cond rfl (fun hc137 => ?_) (fun hc137 => ?_)
                      · try simp only [decide_eq_true_eq, decide_eq_false_iff_not, Bool.not_eq_true', Bool.not_eq_false', Bool.not_eq_eq_eq_not, Bool.not_true, Bool.not_false, beq_iff_eq, bne_iff_ne, ne_eq, beq_eq_false_iff_ne, bne_eq_false_iff_eq, gt_iff_lt, ge_iff_le, Int.not_lt, Int.not_le] at hc137
                        refine c_seq (fun K32 hK32 => ?_)
                        refine c_pi [(0, false), (1, false), (2, false), (3, false), (4, false), (5, false), (6, false), (7, false), (8, false), (9, false), (10, false), (11, false), (12, false), (13, false)] (SameH _) mixed (by kernel_rfl) rfl (by kernel_rfl) (po_then (po_blk (po_then (po_bp)))) (sameH_now _ _) ?_ -- region 22 run.go:112
                        refine pi_ro rfl (fun w hS => ro_move rfl) ?_
                        refine pi_ro rfl (fun w hS => ro_move rfl) ?_
                        refine pi_gno rfl rfl ?_
                        refine pi_gno rfl rfl ?_
                        refine pi_gno rfl rfl ?_
                        refine pi_gno rfl rfl ?_
                        refine pi_gno rfl rfl ?_
                        refine pi_gno rfl rfl ?_
                        refine pi_gno rfl rfl ?_
                        refine pi_gno rfl rfl ?_
                        refine pi_gno rfl rfl ?_
                        refine pi_gno rfl rfl ?_
                        refine pi_gno rfl rfl ?_
                        refine pi_ro rfl (fun w hS => ro_pick rfl rfl rfl) ?_
                        refine pi_nil (x_then (hK32 _ _ ?_))
                        clear hK32 K32
                        refine wc_condT rfl ?_
                        refine c_piL 9 [(0, false), (1, false), (2, false), (3, false), (4, false), (5, false), (6, false), (7, false), (8, false)] (SameH _) mixed (by kernel_rfl) rfl (by kernel_rfl) (po_blk (po_then (po_bp))) (sameH_now _ _) ?_ -- region 23 run.go:113
                        refine ql_ro rfl (fun w hS => ro_move rfl) ?_
                        refine ql_ro rfl (fun w hS => ro_nilCheck rfl) ?_
                        refine ql_ro rfl (fun w hS => ro_fieldAddr (k := 7) rfl fo_89_7) ?_
                        refine ql_ro rfl (fun w hS => ro_loadB rfl sc_87 (Blk.of_heap (by assumption) hS) rfl) ?_
                        refine ql_ro rfl (fun w hS => ro_move rfl) ?_
                        refine ql_ro rfl (fun w hS => ro_fieldAddr (k := 1) rfl fo_104_1) ?_
                        refine ql_ro rfl (fun w hS => ro_loadB rfl sc_3 (Blk.of_heap (by assumption) hS) rfl) ?_
                        refine ql_ro rfl (fun w hS => ro_indexAddr (et := 228) (k := 5) rfl rfl se_87 rfl (by omega)) ?_
                        refine ql_ro rfl (fun w hS => ro_fieldAddr (k := 3) rfl fo_228_1) ?_
                        refine ql_put rfl rfl rfl rfl sz_3 hT ((rw_fit tyc_len (i := d) (j := 3) (m := 1) (by omega) (by omega) (by omega))) ((rw_put tyc_len (i := d) (j := 3) (x' := ⟨t.bad, A, t.cnt⟩) hd (by omega) (by omega) (by rw [← hA, if_neg (by omega), if_neg (by omega), if_pos (by omega), if_pos (by omega)]; rfl))) (fun w10 hT F10 => ?_)
                        replace hF := hF.thenDrew.thenO F10 (by first | exact .inr (by omega) | exact .inl rfl | exact .inl (by assumption))
                        replace hB := F10.blkO hB (by omega)
                        replace h6 := F10.blkO h6 (by omega)
                        refine x_blk (x_then ?_)
                        first
                          | exact ⟨hT, hB, hF, kp _ ⟨rfl, rfl, trivial⟩⟩
                          | exact ⟨hT, hB, hF.thenDrew, kp _ ⟨rfl, rfl, trivial⟩⟩
                          | (have hAA : A = t.acc := by rw [← hA]; repeat first | rw [if_pos (by omega)] | rw [if_neg (by omega)]
                             rw [hAA, show (⟨t.bad, t.acc, t.cnt⟩ : Ty) = t from rfl, set_self hd]
                             first
                               | exact ⟨hT, hB, hF, kp _ ⟨rfl, rfl, trivial⟩⟩
                               | exact ⟨hT, hB, hF.thenDrew, kp _ ⟨rfl, rfl, trivial⟩⟩)
                      · try simp only [decide_eq_true_eq, decide_eq_false_iff_not, Bool.not_eq_true', Bool.not_eq_false', Bool.not_eq_eq_eq_not, Bool.not_true, Bool.not_false, beq_iff_eq, bne_iff_ne, ne_eq, beq_eq_false_iff_ne, bne_eq_false_iff_eq, gt_iff_lt, ge_iff_le, Int.not_lt, Int.not_le] at hc137
                        refine c_skip (x_blk (x_then ?_))
                        first
                          | exact ⟨hT, hB, hF, kp _ ⟨rfl, rfl, trivial⟩⟩
                          | exact ⟨hT, hB, hF.thenDrew, kp _ ⟨rfl, rfl, trivial⟩⟩
                          | (have hAA : A = t.acc := by rw [← hA]; repeat first | rw [if_pos (by omega)] | rw [if_neg (by omega)]
                             rw [hAA, show (⟨t.bad, t.acc, t.cnt⟩ : Ty) = t from rfl, set_self hd]
                             first
                               | exact ⟨hT, hB, hF, kp _ ⟨rfl, rfl, trivial⟩⟩
                               | exact ⟨hT, hB, hF.thenDrew, kp _ ⟨rfl, rfl, trivial⟩⟩)
                clear hF hB hT
                rintro a' u16 ⟨hT, hB, hF, e, rfl⟩
                have hd2 : (TL.set d ⟨t.bad, A, t.cnt⟩)[d]? = some ⟨t.bad, A, t.cnt⟩ := List.getElem?_set_self (by omega)
                refine c_reg ?_ -- region 24 run.go:116
                refine wl (ro_move rfl) ?_
                refine wl (ro_nilCheck rfl) ?_
                refine wl (ro_fieldAddr (k := 7) rfl fo_89_7) ?_
                refine wl (ro_loadB rfl sc_87 (by assumption) rfl) ?_
                refine wl (ro_move rfl) ?_
                refine wl (ro_indexAddr (et := 228) (k := 5) rfl rfl se_87 rfl (by omega)) ?_
                refine wl (ro_fieldAddr (k := 4) rfl fo_228_2) ?_
                refine wl (ro_loadB rfl sc_3 (hT) ((rw_get tyc_len hd2 (j := 4) (by omega) rfl))) ?_
                refine wl (ro_arith (r := t.cnt + 1) rfl rfl rfl (Go.IntWalk.i64_in _ (by omega))) ?_
                refine wl (ro_indexAddr (et := 228) (k := 5) rfl rfl se_87 rfl (by omega)) ?_
                refine wl (ro_fieldAddr (k := 4) rfl fo_228_2) ?_
                refine wl_put rfl rfl rfl sz_3 hT ((rw_fit tyc_len (i := d) (j := 4) (m := 1) (by rw [List.length_set]; omega) (by omega) (by omega))) ((rw_put tyc_len (i := d) (j := 4) (x' := ⟨t.bad, A, t.cnt + 1⟩) hd2 (by omega) (by omega) rfl)) (fun w11 hT F11 => ?_)
                replace hF := hF.thenDrew.thenO F11 (by first | exact .inr (by omega) | exact .inl rfl | exact .inl (by assumption))
                replace hB := F11.blkO hB (by omega)
                refine wl_nil ?_
                refine bp_end Tryz.results210 rfl ?_
                rw [List.set_set] at hT
                rw [hres]
                exact ⟨hT, hF⟩
              · skip
                refine c_reg ?_ -- region 14 run.go:103
                refine wl (ro_move rfl) ?_
                refine wl (ro_nilCheck rfl) ?_
                refine wl (ro_fieldAddr (k := 7) rfl fo_89_7) ?_
                refine wl (ro_loadB rfl sc_87 (by assumption) rfl) ?_
                refine wl (ro_move rfl) ?_
                refine wl (ro_indexAddr (et := 228) (k := 5) rfl rfl se_87 rfl (by omega)) ?_
                refine wl (ro_fieldAddr (k := 4) rfl fo_228_2) ?_
                refine wl (ro_loadB rfl sc_3 (hT) ((rw_get tyc_len hd (j := 4) (by omega) rfl))) ?_
                refine wl (ro_cmp (r := false) rfl rfl (congrArg some (by simp [hz]))) ?_
                refine wl (ro_assign rfl) ?_
                refine wl_nil (x_then (hK26 _ _ ?_))
                clear hK26 K26
                refine c_mid (fun a' w' => Blk w'.heap B.t (rws tyc (TL.set d ⟨t.bad, A, t.cnt⟩)) 228 ∧ Blk w'.heap B.e (evs B st cl top (d + 1)) 89 ∧ Fram (one B.t) w w' ∧ ∃ e, a' = Fr 173 (upds e [(0, ptr B.e), (8, i64c d)]) []) ?_ ?_
                · skip
                  refine c_seq (fun K33 hK33 => ?_)
                  refine c_reg ?_ -- region 15 run.go:104
                  refine wl (ro_move rfl) ?_
                  refine wl_nil (x_then (hK33 _ _ ?_))
                  clear hK33 K33
                  refine c_block ?_
                  refine forget [(0, _), (6, _), (8, _), (9, _), (91, _)] ⟨rfl, rfl, rfl, rfl, rfl, trivial⟩ (fun e => ?_)
                  refine c_seq (fun K34 hK34 => ?_)
                  refine c_reg ?_ -- region 16 run.go:105
                  refine wl (ro_cmp rfl rfl rfl) ?_
                  refine wl (ro_assign rfl) ?_
                  refine wl_nil (x_then (hK34 _ _ ?_))
                  clear hK34 K34
                  refine wc_cond rfl (fun hc92 => ?_) (fun hc92 => ?_)
                  · try simp only [decide_eq_true_eq, decide_eq_false_iff_not, Bool.not_eq_true', Bool.not_eq_false', Bool.not_eq_eq_eq_not, Bool.not_true, Bool.not_false, beq_iff_eq, bne_iff_ne, ne_eq, beq_eq_false_iff_ne, bne_eq_false_iff_eq, gt_iff_lt, ge_iff_le, Int.not_lt, Int.not_le] at hc92
                    refine c_piL 18 [(0, false), (1, false), (2, false), (3, false), (4, false), (5, false), (6, false), (7, false), (8, false), (9, false), (10, false), (11, false), (12, false), (13, false), (14, false), (15, false), (16, false), (17, false)] (SameH _) mixed (by kernel_rfl) rfl (by kernel_rfl) (po_blk (po_then (po_bp))) (sameH_now _ _) ?_ -- region 17 run.go:106
                    refine ql_ro rfl (fun w hS => ro_move rfl) ?_
                    refine ql_ro rfl (fun w hS => ro_nilCheck rfl) ?_
                    refine ql_ro rfl (fun w hS => ro_fieldAddr (k := 7) rfl fo_89_7) ?_
                    refine ql_ro rfl (fun w hS => ro_loadB rfl sc_87 (Blk.of_heap (by assumption) hS) rfl) ?_
                    refine ql_ro rfl (fun w hS => ro_move rfl) ?_
                    refine ql_ro rfl (fun w hS => ro_move rfl) ?_
                    refine ql_ro rfl (fun w hS => ro_nilCheck rfl) ?_
                    refine ql_ro rfl (fun w hS => ro_fieldAddr (k := 7) rfl fo_89_7) ?_
                    refine ql_ro rfl (fun w hS => ro_loadB rfl sc_87 (Blk.of_heap (by assumption) hS) rfl) ?_
                    refine ql_ro rfl (fun w hS => ro_move rfl) ?_
                    refine ql_ro rfl (fun w hS => ro_indexAddr (et := 228) (k := 5) rfl rfl se_87 rfl (by omega)) ?_
                    refine ql_ro rfl (fun w hS => ro_fieldAddr (k := 3) rfl fo_228_1) ?_
                    refine ql_ro rfl (fun w hS => ro_loadB rfl sc_3 (Blk.of_heap hT hS) ((rw_get tyc_len hd (j := 3) (by omega) rfl))) ?_
                    refine ql_ro rfl (fun w hS => ro_fieldAddr (k := 1) rfl fo_104_1) ?_
                    refine ql_ro rfl (fun w hS => ro_loadB rfl sc_3 (Blk.of_heap (by assumption) hS) rfl) ?_
                    refine ql_ro rfl (fun w hS => ro_arith (r := t.acc + x.n) rfl rfl rfl (Go.IntWalk.i64_in _ (by omega))) ?_
                    refine ql_ro rfl (fun w hS => ro_indexAddr (et := 228) (k := 5) rfl rfl se_87 rfl (by omega)) ?_
                    refine ql_ro rfl (fun w hS => ro_fieldAddr (k := 3) rfl fo_228_1) ?_
                    refine ql_put rfl rfl rfl rfl sz_3 hT ((rw_fit tyc_len (i := d) (j := 3) (m := 1) (by omega) (by omega) (by omega))) ((rw_put tyc_len (i := d) (j := 3) (x' := ⟨t.bad, A, t.cnt⟩) hd (by omega) (by omega) (by rw [← hA, if_pos (by omega)]; rfl))) (fun w12 hT F12 => ?_)
                    replace hF := hF.thenDrew.thenO F12 (by first | exact .inr (by omega) | exact .inl rfl | exact .inl (by assumption))
                    replace hB := F12.blkO hB (by omega)
                    replace h6 := F12.blkO h6 (by omega)
                    refine x_blk (x_then ?_)
                    first
                      | exact ⟨hT, hB, hF, kp _ ⟨rfl, rfl, trivial⟩⟩
                      | exact ⟨hT, hB, hF.thenDrew, kp _ ⟨rfl, rfl, trivial⟩⟩
                      | (have hAA : A = t.acc := by rw [← hA]; repeat first | rw [if_pos (by omega)] | rw [if_neg (by omega)]
                         rw [hAA, show (⟨t.bad, t.acc, t.cnt⟩ : Ty) = t from rfl, set_self hd]
                         first
                           | exact ⟨hT, hB, hF, kp _ ⟨rfl, rfl, trivial⟩⟩
                           | exact ⟨hT, hB, hF.thenDrew, kp _ ⟨rfl, rfl, trivial⟩⟩)
                  · try simp only [decide_eq_true_eq, decide_eq_false_iff_not, Bool.not_eq_true', Bool.not_eq_false', Bool.not_eq_eq_eq_not, Bool.not_true, Bool.not_false, beq_iff_eq, bne_iff_ne, ne_eq, beq_eq_false_iff_ne, bne_eq_false_iff_eq, gt_iff_lt, ge_iff_le, Int.not_lt, Int.not_le] at hc92
                    refine c_seq (fun K35 hK35 => ?_)
                    refine c_reg ?_ -- region 18 run.go:107
                    refine wl (ro_cmp rfl rfl rfl) ?_
                    refine wl (ro_assign rfl) ?_
                    refine wl_nil (x_then (hK35 _ _ ?_))
                    clear hK35 K35
                    refine wc_cond rfl (fun hc112 => ?_) (fun hc112 => ?_)
                    · try simp only [decide_eq_true_eq, decide_eq_false_iff_not, Bool.not_eq_true', Bool.not_eq_false', Bool.not_eq_eq_eq_not, Bool.not_true, Bool.not_false, beq_iff_eq, bne_iff_ne, ne_eq, beq_eq_false_iff_ne, bne_eq_false_iff_eq, gt_iff_lt, ge_iff_le, Int.not_lt, Int.not_le] at hc112
                      refine c_seq (fun K36 hK36 => ?_)
                      refine c_pi [(0, false), (1, false), (2, false), (3, false), (4, false), (5, false), (6, false), (7, false), (8, false), (9, false), (10, false), (11, false), (12, false), (13, false)] (SameH _) mixed (by kernel_rfl) rfl (by kernel_rfl) (po_then (po_blk (po_then (po_bp)))) (sameH_now _ _) ?_ -- region 19 run.go:108
                      refine pi_ro rfl (fun w hS => ro_move rfl) ?_
                      refine pi_ro rfl (fun w hS => ro_move rfl) ?_
                      refine pi_gyes rfl rfl (fun w hS => ro_fieldAddr (k := 1) rfl fo_104_1) ?_
                      refine pi_gyes rfl rfl (fun w hS => ro_loadB rfl sc_3 (Blk.of_heap (by assumption) hS) rfl) ?_
                      refine pi_gyes rfl rfl (fun w hS => ro_move rfl) ?_
                      refine pi_gyes rfl rfl (fun w hS => ro_nilCheck rfl) ?_
                      refine pi_gyes rfl rfl (fun w hS => ro_fieldAddr (k := 7) rfl fo_89_7) ?_
                      refine pi_gyes rfl rfl (fun w hS => ro_loadB rfl sc_87 (Blk.of_heap (by assumption) hS) rfl) ?_
                      refine pi_gyes rfl rfl (fun w hS => ro_move rfl) ?_
                      refine pi_gyes rfl rfl (fun w hS => ro_indexAddr (et := 228) (k := 5) rfl rfl se_87 rfl (by omega)) ?_
                      refine pi_gyes rfl rfl (fun w hS => ro_fieldAddr (k := 3) rfl fo_228_1) ?_
                      refine pi_gyes rfl rfl (fun w hS => ro_loadB rfl sc_3 (Blk.of_heap hT hS) ((rw_get tyc_len hd (j := 3) (by omega) rfl))) ?_
                      refine pi_gyes rfl rfl (fun w hS => ro_cmp rfl rfl rfl) ?_
                      refine pi_ro rfl (fun w hS => ro_pick rfl rfl rfl) ?_
                      refine pi_nil (x_then (hK36 _ _ ?_))
                      clear hK36 K36
                      refine wc_cond rfl (fun hc127 => ?_) (fun hc127 => ?_)
                      · try simp only [decide_eq_true_eq, decide_eq_false_iff_not, Bool.not_eq_true', Bool.not_eq_false', Bool.not_eq_eq_eq_not, Bool.not_true, Bool.not_false, beq_iff_eq, bne_iff_ne, ne_eq, beq_eq_false_iff_ne, bne_eq_false_iff_eq, gt_iff_lt, ge_iff_le, Int.not_lt, Int.not_le] at hc127
                        refine c_piL 9 [(0, false), (1, false), (2, false), (3, false), (4, false), (5, false), (6, false), (7, false), (8, false)] (SameH _) mixed (by kernel_rfl) rfl (by kernel_rfl) (po_blk (po_then (po_bp))) (sameH_now _ _) ?_ -- region 20 run.go:109
                        refine ql_ro rfl (fun w hS => ro_move rfl) ?_
                        refine ql_ro rfl (fun w hS => ro_nilCheck rfl) ?_
                        refine ql_ro rfl (fun w hS => ro_fieldAddr (k := 7) rfl fo_89_7) ?_
                        refine ql_ro rfl (fun w hS => ro_loadB rfl sc_87 (Blk.of_heap (by assumption) hS) rfl) ?_
                        refine ql_ro rfl (fun w hS => ro_move rfl) ?_
                        refine ql_ro rfl (fun w hS => ro_fieldAddr (k := 1) rfl fo_104_1) ?_
                        refine ql_ro rfl (fun w hS => ro_loadB rfl sc_3 (Blk.of_heap (by assumption) hS) rfl) ?_
                        refine ql_ro rfl (fun w hS => ro_indexAddr (et := 228) (k := 5) rfl rfl se_87 rfl (by omega)) ?_
                        refine ql_ro rfl (fun w hS => ro_fieldAddr (k := 3) rfl fo_228_1) ?_
                        refine ql_put rfl rfl rfl rfl sz_3 hT ((rw_fit tyc_len (i := d) (j := 3) (m := 1) (by omega) (by omega) (by omega))) ((rw_put tyc_len (i := d) (j := 3) (x' := ⟨t.bad, A, t.cnt⟩) hd (by omega) (by omega) (by rw [← hA, if_neg (by omega), if_pos (by omega), if_pos (by omega)]; rfl))) (fun w13 hT F13 => ?_)
                        replace hF := hF.thenDrew.thenO F13 (by first | exact .inr (by omega) | exact .inl rfl | exact .inl (by assumption))
                        replace hB := F13.blkO hB (by omega)
                        replace h6 := F13.blkO h6 (by omega)
                        refine x_blk (x_then ?_)
                        first
                          | exact ⟨hT, hB, hF, kp _ ⟨rfl, rfl, trivial⟩⟩
                          | exact ⟨hT, hB, hF.thenDrew, kp _ ⟨rfl, rfl, trivial⟩⟩
                          | (have hAA : A = t.acc := by rw [← hA]; repeat first | rw [if_pos (by omega)] | rw [if_neg (by omega)]
                             rw [hAA, show (⟨t.bad, t.acc, t.cnt⟩ : Ty) = t from rfl, set_self hd]
                             first
                               | exact ⟨hT, hB, hF, kp _ ⟨rfl, rfl, trivial⟩⟩
                               | exact ⟨hT, hB, hF.thenDrew, kp _ ⟨rfl, rfl, trivial⟩⟩)
                      · try simp only [decide_eq_true_eq, decide_eq_false_iff_not, Bool.not_eq_true', Bool.not_eq_false', Bool.not_eq_eq_eq_not, Bool.not_true, Bool.not_false, beq_iff_eq, bne_iff_ne, ne_eq, beq_eq_false_iff_ne, bne_eq_false_iff_eq, gt_iff_lt, ge_iff_le, Int.not_lt, Int.not_le] at hc127
                        refine c_skip (x_blk (x_then ?_))
                        first
                          | exact ⟨hT, hB, hF, kp _ ⟨rfl, rfl, trivial⟩⟩
                          | exact ⟨hT, hB, hF.thenDrew, kp _ ⟨rfl, rfl, trivial⟩⟩
                          | (have hAA : A = t.acc := by rw [← hA]; repeat first | rw [if_pos (by omega)] | rw [if_neg (by omega)]
                             rw [hAA, show (⟨t.bad, t.acc, t.cnt⟩ : Ty) = t from rfl, set_self hd]
                             first
                               | exact ⟨hT, hB, hF, kp _ ⟨rfl, rfl, trivial⟩⟩
                               | exact ⟨hT, hB, hF.thenDrew, kp _ ⟨rfl, rfl, trivial⟩⟩)
                    · try simp only [decide_eq_true_eq, decide_eq_false_iff_not, Bool.not_eq_true', Bool.not_eq_false', Bool.not_eq_eq_eq_not, Bool.not_true, Bool.not_false, beq_iff_eq, bne_iff_ne, ne_eq, beq_eq_false_iff_ne, bne_eq_false_iff_eq, gt_iff_lt, ge_iff_le, Int.not_lt, Int.not_le] at hc112
                      refine c_seq (fun K37 hK37 => ?_)
                      refine c_reg ?_ -- region 21 run.go:111
                      refine wl (ro_cmp rfl rfl rfl) ?_
                      refine wl (ro_assign rfl) ?_
                      refine wl_nil (x_then (hK37 _ _ ?_))
                      clear hK37 K37
                      refine wc_cond rfl (fun hc137 => ?_) (fun hc137 => ?_)
                      · try simp only [decide_eq_true_eq, decide_eq_false_iff_not, Bool.not_eq_true', Bool.not_eq_false', Bool.not_eq_eq_eq_not, Bool.not_true, Bool.not_false, beq_iff_eq, bne_iff_ne, ne_eq, beq_eq_false_iff_ne, bne_eq_false_iff_eq, gt_iff_lt, ge_iff_le, Int.not_lt, Int.not_le] at hc137
                        refine c_seq (fun K38 hK38 => ?_)
                        refine c_pi [(0, false), (1, false), (2, false), (3, false), (4, false), (5, false), (6, false), (7, false), (8, false), (9, false), (10, false), (11, false), (12, false), (13, false)] (SameH _) mixed (by kernel_rfl) rfl (by kernel_rfl) (po_then (po_blk (po_then (po_bp)))) (sameH_now _ _) ?_ -- region 22 run.go:112
                        refine pi_ro rfl (fun w hS => ro_move rfl) ?_
                        refine pi_ro rfl (fun w hS => ro_move rfl) ?_
                        refine pi_gyes rfl rfl (fun w hS => ro_fieldAddr (k := 1) rfl fo_104_1) ?_
                        refine pi_gyes rfl rfl (fun w hS => ro_loadB rfl sc_3 (Blk.of_heap (by assumption) hS) rfl) ?_
                        refine pi_gyes rfl rfl (fun w hS => ro_move rfl) ?_
                        refine pi_gyes rfl rfl (fun w hS => ro_nilCheck rfl) ?_
                        refine pi_gyes rfl rfl (fun w hS => ro_fieldAddr (k := 7) rfl fo_89_7) ?_
                        refine pi_gyes rfl rfl (fun w hS => ro_loadB rfl sc_87 (Blk.of_heap (by assumption) hS) rfl) ?_
                        refine pi_gyes rfl rfl (fun w hS => ro_move rfl) ?_
                        refine pi_gyes rfl rfl (fun w hS => ro_indexAddr (et := 228) (k := 5) rfl rfl se_87 rfl (by omega)) ?_
                        refine pi_gyes rfl rfl (fun w hS => ro_fieldAddr (k := 3) rfl fo_228_1) ?_
                        refine pi_gyes rfl rfl (fun w hS => ro_loadB rfl sc_3 (Blk.of_heap hT hS) ((rw_get tyc_len hd (j := 3) (by omega) rfl))) ?_
                        refine pi_gyes rfl rfl (fun w hS => ro_cmp rfl rfl rfl) ?_
                        refine pi_ro rfl (fun w hS => ro_pick rfl rfl rfl) ?_
                        refine pi_nil (x_then (hK38 _ _ ?_))
                        clear hK38 K38
                        refine wc_cond rfl (fun hc152 => ?_) (fun hc152 => ?_)
                        · try simp only [decide_eq_true_eq, decide_eq_false_iff_not, Bool.not_eq_true', Bool.not_eq_false', Bool.not_eq_eq_eq_not, Bool.not_true, Bool.not_false, beq_iff_eq, bne_iff_ne, ne_eq, beq_eq_false_iff_ne, bne_eq_false_iff_eq, gt_iff_lt, ge_iff_le, Int.not_lt, Int.not_le] at hc152
                          refine c_piL 9 [(0, false), (1, false), (2, false), (3, false), (4, false), (5, false), (6, false), (7, false), (8, false)] (SameH _) mixed (by kernel_rfl) rfl (by kernel_rfl) (po_blk (po_then (po_bp))) (sameH_now _ _) ?_ -- region 23 run.go:113
                          refine ql_ro rfl (fun w hS => ro_move rfl) ?_
                          refine ql_ro rfl (fun w hS => ro_nilCheck rfl) ?_
                          refine ql_ro rfl (fun w hS => ro_fieldAddr (k := 7) rfl fo_89_7) ?_
                          refine ql_ro rfl (fun w hS => ro_loadB rfl sc_87 (Blk.of_heap (by assumption) hS) rfl) ?_
                          refine ql_ro rfl (fun w hS => ro_move rfl) ?_
                          refine ql_ro rfl (fun w hS => ro_fieldAddr (k := 1) rfl fo_104_1) ?_
                          refine ql_ro rfl (fun w hS => ro_loadB rfl sc_3 (Blk.of_heap (by assumption) hS) rfl) ?_
                          refine ql_ro rfl (fun w hS => ro_indexAddr (et := 228) (k := 5) rfl rfl se_87 rfl (by omega)) ?_
                          refine ql_ro rfl (fun w hS => ro_fieldAddr (k := 3) rfl fo_228_1) ?_
                          refine ql_put rfl rfl rfl rfl sz_3 hT ((rw_fit tyc_len (i := d) (j := 3) (m := 1) (by omega) (by omega) (by omega))) ((rw_put tyc_len (i := d) (j := 3) (x' := ⟨t.bad, A, t.cnt⟩) hd (by omega) (by omega) (by rw [← hA, if_neg (by omega), if_neg (by omega), if_pos (by omega), if_pos (by omega)]; rfl))) (fun w14 hT F14 => ?_)
                          replace hF := hF.thenDrew.thenO F14 (by first | exact .inr (by omega) | exact .inl rfl | exact .inl (by assumption))
                          replace hB := F14.blkO hB (by omega)
                          replace h6 := F14.blkO h6 (by omega)
                          refine x_blk (x_then ?_)
                          first
                            | exact ⟨hT, hB, hF, kp _ ⟨rfl, rfl, trivial⟩⟩
                            | exact ⟨hT, hB, hF.thenDrew, kp _ ⟨rfl, rfl, trivial⟩⟩
                            | (have hAA : A = t.acc := by rw [← hA]; repeat first | rw [if_pos (by omega)] | rw [if_neg (by omega)]
                               rw [hAA, show (⟨t.bad, t.acc, t.cnt⟩ : Ty) = t from rfl, set_self hd]
                               first
                                 | exact ⟨hT, hB, hF, kp _ ⟨rfl, rfl, trivial⟩⟩
                                 | exact ⟨hT, hB, hF.thenDrew, kp _ ⟨rfl, rfl, trivial⟩⟩)
                        · try simp only [decide_eq_true_eq, decide_eq_false_iff_not, Bool.not_eq_true', Bool.not_eq_false', Bool.not_eq_eq_eq_not, Bool.not_true, Bool.not_false, beq_iff_eq, bne_iff_ne, ne_eq, beq_eq_false_iff_ne, bne_eq_false_iff_eq, gt_iff_lt, ge_iff_le, Int.not_lt, Int.not_le] at hc152
                          refine c_skip (x_blk (x_then ?_))
                          first
                            | exact ⟨hT, hB, hF, kp _ ⟨rfl, rfl, trivial⟩⟩
                            | exact ⟨hT, hB, hF.thenDrew, kp _ ⟨rfl, rfl, trivial⟩⟩
                            | (have hAA : A = t.acc := by rw [← hA]; repeat first | rw [if_pos (by omega)] | rw [if_neg (by omega)]
                               rw [hAA, show (⟨t.bad, t.acc, t.cnt⟩ : Ty) = t from rfl, set_self hd]
                               first
                                 | exact ⟨hT, hB, hF, kp _ ⟨rfl, rfl, trivial⟩⟩
                                 | exact ⟨hT, hB, hF.thenDrew, kp _ ⟨rfl, rfl, trivial⟩⟩)
                      · try simp only [decide_eq_true_eq, decide_eq_false_iff_not, Bool.not_eq_true', Bool.not_eq_false', Bool.not_eq_eq_eq_not, Bool.not_true, Bool.not_false, beq_iff_eq, bne_iff_ne, ne_eq, beq_eq_false_iff_ne, bne_eq_false_iff_eq, gt_iff_lt, ge_iff_le, Int.not_lt, Int.not_le] at hc137
                        refine c_skip (x_blk (x_then ?_))
                        first
                          | exact ⟨hT, hB, hF, kp _ ⟨rfl, rfl, trivial⟩⟩
                          | exact ⟨hT, hB, hF.thenDrew, kp _ ⟨rfl, rfl, trivial⟩⟩
                          | (have hAA : A = t.acc := by rw [← hA]; repeat first | rw [if_pos (by omega)] | rw [if_neg (by omega)]
                             rw [hAA, show (⟨t.bad, t.acc, t.cnt⟩ : Ty) = t from rfl, set_self hd]
                             first
                               | exact ⟨hT, hB, hF, kp _ ⟨rfl, rfl, trivial⟩⟩
                               | exact ⟨hT, hB, hF.thenDrew, kp _ ⟨rfl, rfl, trivial⟩⟩)
                clear hF hB hT
                rintro a' u16 ⟨hT, hB, hF, e, rfl⟩
                have hd2 : (TL.set d ⟨t.bad, A, t.cnt⟩)[d]? = some ⟨t.bad, A, t.cnt⟩ := List.getElem?_set_self (by omega)
                refine c_reg ?_ -- region 24 run.go:116
                refine wl (ro_move rfl) ?_
                refine wl (ro_nilCheck rfl) ?_
                refine wl (ro_fieldAddr (k := 7) rfl fo_89_7) ?_
                refine wl (ro_loadB rfl sc_87 (by assumption) rfl) ?_
                refine wl (ro_move rfl) ?_
                refine wl (ro_indexAddr (et := 228) (k := 5) rfl rfl se_87 rfl (by omega)) ?_
                refine wl (ro_fieldAddr (k := 4) rfl fo_228_2) ?_
                refine wl (ro_loadB rfl sc_3 (hT) ((rw_get tyc_len hd2 (j := 4) (by omega) rfl))) ?_
                refine wl (ro_arith (r := t.cnt + 1) rfl rfl rfl (Go.IntWalk.i64_in _ (by omega))) ?_
                refine wl (ro_indexAddr (et := 228) (k := 5) rfl rfl se_87 rfl (by omega)) ?_
                refine wl (ro_fieldAddr (k := 4) rfl fo_228_2) ?_
                refine wl_put rfl rfl rfl sz_3 hT ((rw_fit tyc_len (i := d) (j := 4) (m := 1) (by rw [List.length_set]; omega) (by omega) (by omega))) ((rw_put tyc_len (i := d) (j := 4) (x' := ⟨t.bad, A, t.cnt + 1⟩) hd2 (by omega) (by omega) rfl)) (fun w15 hT F15 => ?_)
                replace hF := hF.thenDrew.thenO F15 (by first | exact .inr (by omega) | exact .inl rfl | exact .inl (by assumption))
                replace hB := F15.blkO hB (by omega)
                refine wl_nil ?_
                refine bp_end Tryz.results210 rfl ?_
                rw [List.set_set] at hT
                rw [hres]
                exact ⟨hT, hF⟩

end Go.Proofs.Qxb6500570aGreat
