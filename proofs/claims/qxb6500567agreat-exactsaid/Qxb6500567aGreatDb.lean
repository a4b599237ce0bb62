import Derived.Test.Qxb6500567aGreatDa
/- The real simplifier: measure. -/
namespace Go.Proofs.Qxb6500567aGreat
set_option linter.unusedVariables false
set_option linter.unusedSimpArgs false

theorem ND.kinds {T : List RE} {k : Nat} {r : RE} {cs : List Value} (h : ND T k r cs) :
    (r = .emp ∧ cs = ndc 0 (-1) (-1) 0 0 0 false 0) ∨ (∃ S, r = .set S ∧ cs = ndc 1 (-1) (-1) 0 0 0 false S) ∨ (r = .bgn ∧ cs = ndc 2 (-1) (-1) 0 0 0 false 0) ∨ (∃ l, r = .label l ∧ cs = ndc 3 (-1) (-1) 0 0 0 false 0) ∨
    (∃ (a b : RE) (i j : Nat), r = .seq a b ∧ i < k ∧ j < k ∧ T[i]? = some a ∧ T[j]? = some b ∧ cs = ndc 4 i j 0 0 0 false 0) ∨ (∃ (o : Operand) (a b : RE) (i j : Nat), r = .cond o a b ∧ i < k ∧ j < k ∧ T[i]? = some a ∧ T[j]? = some b ∧ cs = ndc 5 i j 0 0 0 false 0) ∨
    (∃ (ff : Operand) (ps : Array Nat) (x a : RE) (i : Nat), r = .rangeFunc ff ps x a ∧ i < k ∧ T[i]? = some a ∧ (rmn x ≤ 3 ∧ ∀ m, rmx x = some m → rmn x ≤ m ∧ m ≤ 3) ∧ cs = ndc 6 i (-1) (rmn x) (mxI (rmx x)) 0 (rlz x) 0) ∨
    (∃ (g : Nat) (a : RE) (i : Nat), r = .block g a ∧ i < k ∧ T[i]? = some a ∧ cs = ndc 7 i (-1) 0 0 g false 0) := by
  cases r with
  | skip => exact .inl ⟨rfl, h⟩
  | goto S => exact .inr (.inl ⟨S, rfl, h⟩)
  | ret => exact .inr (.inr (.inl ⟨rfl, h⟩))
  | label l => exact .inr (.inr (.inr (.inl ⟨l, rfl, h⟩)))
  | seq a b => obtain ⟨i, j, h⟩ := h; exact .inr (.inr (.inr (.inr (.inl ⟨a, b, i, j, rfl, h⟩))))
  | cond o a b => obtain ⟨i, j, h⟩ := h; exact .inr (.inr (.inr (.inr (.inr (.inl ⟨o, a, b, i, j, rfl, h⟩)))))
  | rangeFunc ff ps x a => obtain ⟨i, h⟩ := h; exact .inr (.inr (.inr (.inr (.inr (.inr (.inl ⟨ff, ps, x, a, i, rfl, h⟩))))))
  | block g a => obtain ⟨i, h⟩ := h; exact .inr (.inr (.inr (.inr (.inr (.inr (.inr ⟨g, a, i, rfl, h⟩))))))
  | region _ _ _ => exact h.elim
  | loop _ => exact h.elim
  | exit _ => exact h.elim
  | scope _ => exact h.elim
  | refuse _ => exact h.elim

/-- What is told of a node. -/
def MS (fh fz : Nat → Value) (k : Nat) (r : RE) : Prop := ∃ s z : Nat, fh k = i64c s ∧ fz k = i64c z ∧ 1 ≤ z ∧ z ≤ 32 ∧ s ≤ 2 ∧ (WF r → s = shp r ∧ z = zs r)

/-- What the switch leaves. -/
def MW (r : RE) (s z : Nat) : Prop := 1 ≤ z ∧ z ≤ 32 ∧ s ≤ 2 ∧ (WF r → s = shp r ∧ (s = 2 → z = zs r))

theorem zs_pos (r : RE) : 1 ≤ zs r := by unfold zs; have := nds_pos (child r); omega
theorem zs_le (r : RE) : zs r ≤ 32 := by unfold zs; omega

theorem mw_cat {a b : RE} {sa za sb zb : Nat} (ha : 1 ≤ za ∧ za ≤ 32 ∧ sa ≤ 2 ∧ (WF a → sa = shp a ∧ za = zs a)) (hb : 1 ≤ zb ∧ zb ≤ 32 ∧ sb ≤ 2 ∧ (WF b → sb = shp b ∧ zb = zs b)) : MW (.seq a b) (catM sa za sb zb).1 (catM sa za sb zb).2 := by
  refine ⟨?_, ?_, ?_, ?_⟩
  · unfold catM; (repeat' split) <;> simp only <;> omega
  · unfold catM; (repeat' split) <;> simp only <;> omega
  · unfold catM; (repeat' split) <;> simp only <;> omega
  · intro hw
    obtain ⟨h1, h2⟩ := ha.2.2.2 hw.1
    obtain ⟨h3, h4⟩ := hb.2.2.2 hw.2
    subst h1 h2 h3 h4
    exact ⟨(catM_ok a b).1, fun h => (catM_ok a b).2 ((catM_ok a b).1 ▸ h)⟩

theorem mw_alt {o : Operand} {a b : RE} {sa za sb zb : Nat} (ha : 1 ≤ za ∧ za ≤ 32 ∧ sa ≤ 2 ∧ (WF a → sa = shp a ∧ za = zs a)) (hb : 1 ≤ zb ∧ zb ≤ 32 ∧ sb ≤ 2 ∧ (WF b → sb = shp b ∧ zb = zs b)) : MW (.cond o a b) (altM sa za sb zb).1 (altM sa za sb zb).2 := by
  refine ⟨?_, ?_, ?_, ?_⟩
  · unfold altM; (repeat' split) <;> simp only <;> omega
  · unfold altM; (repeat' split) <;> simp only <;> omega
  · unfold altM; (repeat' split) <;> simp only <;> omega
  · intro hw
    obtain ⟨h1, h2⟩ := ha.2.2.2 hw.1
    obtain ⟨h3, h4⟩ := hb.2.2.2 hw.2
    subst h1 h2 h3 h4
    exact ⟨(altM_ok a b).1, fun h => (altM_ok a b).2 ((altM_ok a b).1 ▸ h)⟩

theorem mw_grp {g : Nat} {a : RE} {sa za : Nat} (ha : 1 ≤ za ∧ za ≤ 32 ∧ sa ≤ 2 ∧ (WF a → sa = shp a ∧ za = zs a)) : MW (.block g a) (grpM sa za).1 (grpM sa za).2 := by
  refine ⟨?_, ?_, ?_, ?_⟩
  · unfold grpM; (repeat' split) <;> simp only <;> omega
  · unfold grpM; (repeat' split) <;> simp only <;> omega
  · unfold grpM; (repeat' split) <;> simp only <;> omega
  · intro hw
    obtain ⟨h1, h2⟩ := ha.2.2.2 hw.1
    subst h1 h2
    exact ⟨(grpM_ok a g).1, fun h => (grpM_ok a g).2 ((grpM_ok a g).1 ▸ h)⟩

theorem sumM_pos {c mn : Nat} (hc : 1 ≤ c) (h : 0 < mn) : 0 < sumM c mn := by
  unfold sumM
  rw [if_pos h]
  have : 1 * 1 ≤ mn * c := Nat.mul_le_mul h hc
  omega
theorem tailM_pos {c mn m : Nat} (hc : 1 ≤ c) (h : mn < m) : 0 < tailM c mn (some m) := by
  show 0 < if mn < m then (m - mn) * (c + 3) - 1 else 0
  rw [if_pos h]
  have : 1 * 4 ≤ (m - mn) * (c + 3) := Nat.mul_le_mul (by omega) (by omega)
  omega

theorem mw_rep {ff : Operand} {ps : Array Nat} {x a : RE} {sa za : Nat} (ha : 1 ≤ za ∧ za ≤ 32 ∧ sa ≤ 2 ∧ (WF a → sa = shp a ∧ za = zs a)) (hc : rmn x ≤ 3 ∧ ∀ m, rmx x = some m → rmn x ≤ m ∧ m ≤ 3) : MW (.rangeFunc ff ps x a) (repM sa za (rmn x) (rmx x)).1 (repM sa za (rmn x) (rmx x)).2 := by
  refine ⟨?_, ?_, ?_, ?_⟩
  · unfold repM
    split
    · simp
    · split
      · simp
      · rename_i h1 h2
        simp only
        have hp : 0 < sumM za (rmn x) + tailM za (rmn x) (rmx x) := by
          by_cases h0 : 0 < rmn x
          · have := sumM_pos ha.1 h0; omega
          · cases hm : rmx x with
            | none => simp only [tailM]; omega
            | some m =>
              have hm0 : m ≠ 0 := fun h => h2 (.inr (by rw [hm, h]))
              have := tailM_pos (c := za) (mn := rmn x) (m := m) ha.1 (by omega)
              omega
        split <;> omega
  · unfold repM; (repeat' split) <;> simp only <;> omega
  · unfold repM; (repeat' split) <;> simp only <;> omega
  · intro hw
    obtain ⟨h1, h2⟩ := ha.2.2.2 hw.1
    subst h1 h2
    have key := repM_ok a (rmn x) (rmx x) (rlz x) hc.1 hc.2
    have e1 : shp (.rangeFunc ff ps x a) = shp (.rep a (rmn x) (rmx x) (rlz x)) := by rw [shp_rep]; rfl
    have e2 : zs (.rangeFunc ff ps x a) = zs (.rep a (rmn x) (rmx x) (rlz x)) := by
      unfold zs child
      rw [e1, core_rep]
      rfl
    rw [e1, e2]
    exact ⟨key.1, fun h => key.2 (key.1 ▸ h)⟩

def two (a b : Nat) : Nat → Prop := fun k => k = a ∨ k = b

set_option maxHeartbeats 4000000 in
theorem measure71 {w : World} {B : SB} {no nw nr : Nat} {fh fz : Nat → Value} {nb cap : Nat} {T : List RE} {c : Nat → Value} (V : SZ w B no nw nr fh fz) (hT : FB w.heap nb (cap * 11) c 89) (hle : T.length ≤ cap) (h24 : T.length ≤ 24) (hAR : AR T c 0)
    (d1 : B.sb ≠ B.hb) (d2 : B.sb ≠ B.zb) (d3 : B.hb ≠ B.zb) (d4 : nb ≠ B.hb) (d5 : nb ≠ B.zb) :
    Ret Tryz.prog 71 [ptr B.sb, .slice (some ⟨nb, 0, none⟩) T.length cap] w (fun v w' => v = .tuple #[] ∧ (∃ fh' fz', SZ w' B no nw nr fh' fz' ∧ ∀ k r, T[k]? = some r → MS fh' fz' k r) ∧ Fram (two B.hb B.zb) w w') := by
  have hF : Fram (two B.hb B.zb) w w := Fram.refl _ _
  have hmh : two B.hb B.zb B.hb := .inl rfl
  have hmz : two B.hb B.zb B.zb := .inr rfl
  have hB := V.s
  have hH := V.h
  have hZ := V.z
  refine ret_of Tryz.func71 rfl Tryz.ntmps71 rfl ?_
  refine c_seq (fun K1 hK1 => ?_)
  refine c_reg ?_ -- region 0 measure.go:15
  refine wl (ro_assign rfl) ?_
  refine wl_nil (x_then (hK1 _ _ ?_))
  clear hK1 K1
  refine c_block ?_
  -- loop@r1: live slots [0, 1, 4]
  refine c_loopG (fun m a' w' => ∃ (n : Nat) (fh fz : Nat → Value), m = T.length - n ∧ n ≤ T.length ∧ Blk w'.heap B.sb (B.cells no nw nr) 101 ∧ FB w'.heap B.hb 24 fh 3 ∧ FB w'.heap B.zb 24 fz 3 ∧ FB w'.heap nb (cap * 11) c 89 ∧ (∀ k r, k < n → T[k]? = some r → MS fh fz k r) ∧ Fram (two B.hb B.zb) w w' ∧ ∃ e, a' = Fr 101 (upds e [(0, ptr B.sb), (1, .slice (some ⟨nb, 0, none⟩) T.length cap), (4, i64c n)]) []) T.length ⟨0, fh, fz, rfl, by omega, hB, hH, hZ, hT, fun k r h => by omega, hF, kp _ ⟨rfl, rfl, rfl, trivial⟩⟩ ?_
  clear hB hH hZ hT hF V fh fz
  rintro m a' w1 ⟨n, fh, fz, rfl, hnl, hB, hH, hZ, hT, hall, hF, e, rfl⟩
  refine c_seq (fun K2 hK2 => ?_)
  refine c_seq (fun K3 hK3 => ?_)
  refine c_reg ?_ -- region 1 measure.go:15
  refine wl (ro_move rfl) ?_
  refine wl (ro_move rfl) ?_
  refine wl (ro_lenL rfl se_98) ?_
  refine wl (ro_cmp (r := decide (n < T.length)) rfl rfl (congrArg some (decide_eq_decide.2 (by omega)))) ?_
  refine wl_nil (x_then (hK3 _ _ ?_))
  clear hK3 K3
  refine wc_cond rfl (fun hc11 => ?_) (fun hc11 => ?_)
  · try simp only [decide_eq_true_eq, decide_eq_false_iff_not, Bool.not_eq_true', Bool.not_eq_false', Bool.not_eq_eq_eq_not, Bool.not_true, Bool.not_false, beq_iff_eq, bne_iff_ne, ne_eq, beq_eq_false_iff_ne, bne_eq_false_iff_eq, gt_iff_lt, ge_iff_le, Int.not_lt, Int.not_le] at hc11
    obtain ⟨r, hr⟩ : ∃ r, T[n]? = some r := ⟨_, List.getElem?_eq_getElem hc11⟩
    have hN := hAR n r hr
    generalize hcs : cel 11 (fun j => c (0 + 11 * n + j)) = cs at hN
    have hld := nd_load (cap := cap) (k := n) (by omega) hcs
    refine c_skip (x_then (hK2 _ _ ?_))
    clear hK2 K2
    refine forget [(0, _), (1, _), (4, _)] ⟨rfl, rfl, rfl, trivial⟩ (fun e => ?_)
    refine c_seq (fun K4 hK4 => ?_)
    refine c_block ?_
    refine c_seq (fun K5 hK5 => ?_)
    rcases hN.kinds with ⟨hq, rfl⟩ | ⟨S, hq, rfl⟩ | ⟨hq, rfl⟩ | ⟨l, hq, rfl⟩ | ⟨x, y, i, j, hq, hi, hj, hia, hjb, rfl⟩ | ⟨o, x, y, i, j, hq, hi, hj, hia, hjb, rfl⟩ | ⟨ff, ps, x, y, i, hq, hi, hia, hcn, rfl⟩ | ⟨g, x, i, hq, hi, hia, rfl⟩
    · skip
      refine c_reg ?_ -- region 3 measure.go:16
      refine wl (ro_move rfl) ?_
      refine wl (ro_move rfl) ?_
      refine wl (ro_indexAddr (et := 89) (k := 11) rfl rfl se_98 (rfl) (hc11)) ?_
      refine wl (ro_loadAggB rfl ag_89 (hT) (rfl) (hld)) ?_
      refine wl_new (ze_89) (fun xb w1 hbxb hX F1 => ?_)
      have hbsxb := Nat.le_trans hF.size hbxb
      have hneB.sbxb : B.sb < xb := Nat.lt_of_lt_of_le hB.lt hbxb
      have hneB.hbxb : B.hb < xb := Nat.lt_of_lt_of_le hH.lt hbxb
      have hneB.zbxb : B.zb < xb := Nat.lt_of_lt_of_le hZ.lt hbxb
      have hnenbxb : nb < xb := Nat.lt_of_lt_of_le hT.lt hbxb
      replace hF := hF.thenDrew.thenN F1
      replace hB := F1.blkN hB
      replace hH := F1.blkN hH
      replace hZ := F1.blkN hZ
      replace hT := F1.blkN hT
      refine wl_puta rfl rfl (by simp [Value.oneCell', i64c, u64c, u8c, ptr]) sz_89 (rfl) hX ((by simp)) (rfl) (fun w2 hX F2 => ?_)
      replace hF := hF.thenDrew.thenO F2 (by first | exact .inr (by omega) | exact .inl rfl | exact .inl (by assumption))
      replace hB := F2.blkO hB (by omega)
      replace hH := F2.blkO hH (by omega)
      replace hZ := F2.blkO hZ (by omega)
      replace hT := F2.blkO hT (by omega)
      refine wl_nil (x_then (hK5 _ _ ?_))
      clear hK5 K5
      refine forget [(0, _), (1, _), (4, _), (5, _)] ⟨rfl, rfl, rfl, rfl, trivial⟩ (fun e => ?_)
      refine c_seq (fun K6 hK6 => ?_)
      refine c_reg ?_ -- region 4 measure.go:17
      refine wl (ro_assign rfl) ?_
      refine wl_nil (x_then (hK6 _ _ ?_))
      clear hK6 K6
      refine forget [(0, _), (1, _), (4, _), (5, _), (6, _)] ⟨rfl, rfl, rfl, rfl, rfl, trivial⟩ (fun e => ?_)
      refine c_seq (fun K7 hK7 => ?_)
      refine c_reg ?_ -- region 5 measure.go:18
      refine wl (ro_assign rfl) ?_
      refine wl_nil (x_then (hK7 _ _ ?_))
      clear hK7 K7
      refine c_mid (fun a' w' => ∃ (s z : Nat), MW r s z ∧ Blk w'.heap B.sb (B.cells no nw nr) 101 ∧ FB w'.heap B.hb 24 fh 3 ∧ FB w'.heap B.zb 24 fz 3 ∧ FB w'.heap nb (cap * 11) c 89 ∧ Fram (two B.hb B.zb) w w' ∧ ∃ e, a' = Fr 101 (upds e [(0, ptr B.sb), (1, .slice (some ⟨nb, 0, none⟩) T.length cap), (4, i64c n), (6, i64c s), (7, i64c z)]) []) ?_ ?_
      · skip
        refine c_seq (fun K8 hK8 => ?_)
        refine c_reg ?_ -- region 6 measure.go:19
        refine wl (ro_fieldAddr (k := 0) rfl fo_89_0) ?_
        refine wl (ro_loadB rfl sc_3 (by assumption) rfl) ?_
        refine wl_nil (x_then (hK8 _ _ ?_))
        clear hK8 K8
        refine c_block ?_
        refine forget [(0, _), (1, _), (4, _), (5, _), (6, _), (7, _), (19, _)] ⟨rfl, rfl, rfl, rfl, rfl, rfl, rfl, trivial⟩ (fun e => ?_)
        refine c_seq (fun K9 hK9 => ?_)
        refine c_reg ?_ -- region 7 measure.go:20
        refine wl (ro_cmp rfl rfl rfl) ?_
        refine wl (ro_assign rfl) ?_
        refine wl_nil (x_then (hK9 _ _ ?_))
        clear hK9 K9
        refine wc_condT rfl ?_
        refine c_reg ?_ -- region 8 measure.go:21
        refine wl (ro_assign rfl) ?_
        refine wl_nil (x_blk (x_then ?_))
        exact ⟨0, 1, by rw [hq]; exact ⟨by omega, by omega, by omega, fun _ => ⟨rfl, fun h => by omega⟩⟩, hB, hH, hZ, hT, hF, kp _ ⟨rfl, rfl, rfl, rfl, rfl, trivial⟩⟩
      clear hB hH hZ hT hF
      rintro a' w3 ⟨s, z, hMW, hB, hH, hZ, hT, hF, e, rfl⟩
      refine c_seq (fun K10 hK10 => ?_)
      refine c_seq (fun K11 hK11 => ?_)
      refine c_reg ?_ -- region 23 measure.go:39
      refine wl (ro_move rfl) ?_
      refine wl (ro_cmp (r := decide (s ≠ 2)) rfl rfl (congrArg some (bnec s 2))) ?_
      refine wl_nil (x_then (hK11 _ _ ?_))
      clear hK11 K11
      refine wc_cond rfl (fun hc86 => ?_) (fun hc86 => ?_)
      · try simp only [decide_eq_true_eq, decide_eq_false_iff_not, Bool.not_eq_true', Bool.not_eq_false', Bool.not_eq_eq_eq_not, Bool.not_true, Bool.not_false, beq_iff_eq, bne_iff_ne, ne_eq, beq_eq_false_iff_ne, bne_eq_false_iff_eq, gt_iff_lt, ge_iff_le, Int.not_lt, Int.not_le] at hc86
        have hms : MS (pt fh n (i64c s)) (pt fz n (i64c 1)) n r := ⟨s, 1, pt_same, pt_same, by omega, by omega, hMW.2.2.1, fun hw => ⟨(hMW.2.2.2 hw).1, by rw [zs0 (by rw [← (hMW.2.2.2 hw).1]; exact hc86)]⟩⟩
        refine c_reg ?_ -- region 24 measure.go:40
        refine wl (ro_assign rfl) ?_
        refine wl_nil (x_then (hK10 _ _ ?_))
        clear hK10 K10
        refine forget [(0, _), (1, _), (4, _), (6, _), (7, _)] ⟨rfl, rfl, rfl, rfl, rfl, trivial⟩ (fun e => ?_)
        refine c_seq (fun K12 hK12 => ?_)
        refine c_reg ?_ -- region 25 measure.go:42
        refine wl (ro_move rfl) ?_
        refine wl (ro_nilCheck rfl) ?_
        refine wl (ro_fieldAddr (k := 1) rfl fo_101_1) ?_
        refine wl (ro_loadB rfl sc_97 (hB) (rfl)) ?_
        refine wl (ro_move rfl) ?_
        refine wl (ro_move rfl) ?_
        refine wl (ro_indexAddr (et := 3) (k := 1) rfl rfl se_97 (rfl) ((by omega : n < 24))) ?_
        refine wl_put rfl rfl rfl sz_3 hH ((cel_lt (by omega))) ((cel_put n (by omega))) (fun w3 hH F3 => ?_)
        replace hF := hF.thenDrew.thenO F3 (by first | exact .inr (by omega) | exact .inl rfl | exact .inl (by assumption))
        replace hB := F3.blkO hB (by omega)
        replace hZ := F3.blkO hZ (by omega)
        replace hT := F3.blkO hT (by omega)
        refine wl_nil (x_then (hK12 _ _ ?_))
        clear hK12 K12
        refine c_reg ?_ -- region 26 measure.go:43
        refine wl (ro_move rfl) ?_
        refine wl (ro_nilCheck rfl) ?_
        refine wl (ro_fieldAddr (k := 2) rfl fo_101_2) ?_
        refine wl (ro_loadB rfl sc_97 (hB) (rfl)) ?_
        refine wl (ro_move rfl) ?_
        refine wl (ro_move rfl) ?_
        refine wl (ro_indexAddr (et := 3) (k := 1) rfl rfl se_97 (rfl) ((by omega : n < 24))) ?_
        refine wl_put rfl rfl rfl sz_3 hZ ((cel_lt (by omega))) ((cel_put n (by omega))) (fun w4 hZ F4 => ?_)
        replace hF := hF.thenDrew.thenO F4 (by first | exact .inr (by omega) | exact .inl rfl | exact .inl (by assumption))
        replace hB := F4.blkO hB (by omega)
        replace hH := F4.blkO hH (by omega)
        replace hT := F4.blkO hT (by omega)
        refine wl_nil (x_blk (x_then (hK4 _ _ ?_)))
        clear hK4 K4
        refine c_reg ?_ -- region 2 measure.go:15
        refine wl (ro_move rfl) ?_
        refine wl (ro_arith rfl rfl rfl (Go.IntWalk.i64_in _ (by omega))) ?_
        refine wl (ro_assign rfl) ?_
        refine wl_nil (x_then ?_)
        refine ⟨T.length - (n + 1), by omega, n + 1, _, _, rfl, by omega, hB, hH, hZ, hT, ?_, hF, kp _ ⟨rfl, rfl, rfl, trivial⟩⟩
        intro k q hk hkq
        by_cases hkn : k = n
        · subst hkn
          rw [hr] at hkq
          cases hkq
          exact hms
        · obtain ⟨s', z', h1, h2, h3⟩ := hall k q (by omega) hkq
          exact ⟨s', z', by rw [pt_ne hkn]; exact h1, by rw [pt_ne hkn]; exact h2, h3⟩
      · try simp only [decide_eq_true_eq, decide_eq_false_iff_not, Bool.not_eq_true', Bool.not_eq_false', Bool.not_eq_eq_eq_not, Bool.not_true, Bool.not_false, beq_iff_eq, bne_iff_ne, ne_eq, beq_eq_false_iff_ne, bne_eq_false_iff_eq, gt_iff_lt, ge_iff_le, Int.not_lt, Int.not_le] at hc86
        have hs2 : s = 2 := by omega
        have hms : MS (pt fh n (i64c s)) (pt fz n (i64c z)) n r := ⟨s, z, pt_same, pt_same, hMW.1, hMW.2.1, hMW.2.2.1, fun hw => ⟨(hMW.2.2.2 hw).1, (hMW.2.2.2 hw).2 hs2⟩⟩
        refine c_skip (x_then (hK10 _ _ ?_))
        clear hK10 K10
        refine forget [(0, _), (1, _), (4, _), (6, _), (7, _)] ⟨rfl, rfl, rfl, rfl, rfl, trivial⟩ (fun e => ?_)
        refine c_seq (fun K13 hK13 => ?_)
        refine c_reg ?_ -- region 25 measure.go:42
        refine wl (ro_move rfl) ?_
        refine wl (ro_nilCheck rfl) ?_
        refine wl (ro_fieldAddr (k := 1) rfl fo_101_1) ?_
        refine wl (ro_loadB rfl sc_97 (hB) (rfl)) ?_
        refine wl (ro_move rfl) ?_
        refine wl (ro_move rfl) ?_
        refine wl (ro_indexAddr (et := 3) (k := 1) rfl rfl se_97 (rfl) ((by omega : n < 24))) ?_
        refine wl_put rfl rfl rfl sz_3 hH ((cel_lt (by omega))) ((cel_put n (by omega))) (fun w5 hH F5 => ?_)
        replace hF := hF.thenDrew.thenO F5 (by first | exact .inr (by omega) | exact .inl rfl | exact .inl (by assumption))
        replace hB := F5.blkO hB (by omega)
        replace hZ := F5.blkO hZ (by omega)
        replace hT := F5.blkO hT (by omega)
        refine wl_nil (x_then (hK13 _ _ ?_))
        clear hK13 K13
        refine c_reg ?_ -- region 26 measure.go:43
        refine wl (ro_move rfl) ?_
        refine wl (ro_nilCheck rfl) ?_
        refine wl (ro_fieldAddr (k := 2) rfl fo_101_2) ?_
        refine wl (ro_loadB rfl sc_97 (hB) (rfl)) ?_
        refine wl (ro_move rfl) ?_
        refine wl (ro_move rfl) ?_
        refine wl (ro_indexAddr (et := 3) (k := 1) rfl rfl se_97 (rfl) ((by omega : n < 24))) ?_
        refine wl_put rfl rfl rfl sz_3 hZ ((cel_lt (by omega))) ((cel_put n (by omega))) (fun w6 hZ F6 => ?_)
        replace hF := hF.thenDrew.thenO F6 (by first | exact .inr (by omega) | exact .inl rfl | exact .inl (by assumption))
        replace hB := F6.blkO hB (by omega)
        replace hH := F6.blkO hH (by omega)
        replace hT := F6.blkO hT (by omega)
        refine wl_nil (x_blk (x_then (hK4 _ _ ?_)))
        clear hK4 K4
        refine c_reg ?_ -- region 2 measure.go:15
        refine wl (ro_move rfl) ?_
        refine wl (ro_arith rfl rfl rfl (Go.IntWalk.i64_in _ (by omega))) ?_
        refine wl (ro_assign rfl) ?_
        refine wl_nil (x_then ?_)
        refine ⟨T.length - (n + 1), by omega, n + 1, _, _, rfl, by omega, hB, hH, hZ, hT, ?_, hF, kp _ ⟨rfl, rfl, rfl, trivial⟩⟩
        intro k q hk hkq
        by_cases hkn : k = n
        · subst hkn
          rw [hr] at hkq
          cases hkq
          exact hms
        · obtain ⟨s', z', h1, h2, h3⟩ := hall k q (by omega) hkq
          exact ⟨s', z', by rw [pt_ne hkn]; exact h1, by rw [pt_ne hkn]; exact h2, h3⟩
    · skip
      refine c_reg ?_ -- region 3 measure.go:16
      refine wl (ro_move rfl) ?_
      refine wl (ro_move rfl) ?_
      refine wl (ro_indexAddr (et := 89) (k := 11) rfl rfl se_98 (rfl) (hc11)) ?_
      refine wl (ro_loadAggB rfl ag_89 (hT) (rfl) (hld)) ?_
      refine wl_new (ze_89) (fun xb w7 hbxb hX F7 => ?_)
      have hbsxb := Nat.le_trans hF.size hbxb
      have hneB.sbxb : B.sb < xb := Nat.lt_of_lt_of_le hB.lt hbxb
      have hneB.hbxb : B.hb < xb := Nat.lt_of_lt_of_le hH.lt hbxb
      have hneB.zbxb : B.zb < xb := Nat.lt_of_lt_of_le hZ.lt hbxb
      have hnenbxb : nb < xb := Nat.lt_of_lt_of_le hT.lt hbxb
      replace hF := hF.thenDrew.thenN F7
      replace hB := F7.blkN hB
      replace hH := F7.blkN hH
      replace hZ := F7.blkN hZ
      replace hT := F7.blkN hT
      refine wl_puta rfl rfl (by simp [Value.oneCell', i64c, u64c, u8c, ptr]) sz_89 (rfl) hX ((by simp)) (rfl) (fun w8 hX F8 => ?_)
      replace hF := hF.thenDrew.thenO F8 (by first | exact .inr (by omega) | exact .inl rfl | exact .inl (by assumption))
      replace hB := F8.blkO hB (by omega)
      replace hH := F8.blkO hH (by omega)
      replace hZ := F8.blkO hZ (by omega)
      replace hT := F8.blkO hT (by omega)
      refine wl_nil (x_then (hK5 _ _ ?_))
      clear hK5 K5
      refine forget [(0, _), (1, _), (4, _), (5, _)] ⟨rfl, rfl, rfl, rfl, trivial⟩ (fun e => ?_)
      refine c_seq (fun K14 hK14 => ?_)
      refine c_reg ?_ -- region 4 measure.go:17
      refine wl (ro_assign rfl) ?_
      refine wl_nil (x_then (hK14 _ _ ?_))
      clear hK14 K14
      refine forget [(0, _), (1, _), (4, _), (5, _), (6, _)] ⟨rfl, rfl, rfl, rfl, rfl, trivial⟩ (fun e => ?_)
      refine c_seq (fun K15 hK15 => ?_)
      refine c_reg ?_ -- region 5 measure.go:18
      refine wl (ro_assign rfl) ?_
      refine wl_nil (x_then (hK15 _ _ ?_))
      clear hK15 K15
      refine c_mid (fun a' w' => ∃ (s z : Nat), MW r s z ∧ Blk w'.heap B.sb (B.cells no nw nr) 101 ∧ FB w'.heap B.hb 24 fh 3 ∧ FB w'.heap B.zb 24 fz 3 ∧ FB w'.heap nb (cap * 11) c 89 ∧ Fram (two B.hb B.zb) w w' ∧ ∃ e, a' = Fr 101 (upds e [(0, ptr B.sb), (1, .slice (some ⟨nb, 0, none⟩) T.length cap), (4, i64c n), (6, i64c s), (7, i64c z)]) []) ?_ ?_
      · skip
        refine c_seq (fun K16 hK16 => ?_)
        refine c_reg ?_ -- region 6 measure.go:19
        refine wl (ro_fieldAddr (k := 0) rfl fo_89_0) ?_
        refine wl (ro_loadB rfl sc_3 (by assumption) rfl) ?_
        refine wl_nil (x_then (hK16 _ _ ?_))
        clear hK16 K16
        refine c_block ?_
        refine forget [(0, _), (1, _), (4, _), (5, _), (6, _), (7, _), (19, _)] ⟨rfl, rfl, rfl, rfl, rfl, rfl, rfl, trivial⟩ (fun e => ?_)
        refine c_seq (fun K17 hK17 => ?_)
        refine c_reg ?_ -- region 7 measure.go:20
        refine wl (ro_cmp rfl rfl rfl) ?_
        refine wl (ro_assign rfl) ?_
        refine wl_nil (x_then (hK17 _ _ ?_))
        clear hK17 K17
        refine wc_condF rfl ?_
        refine c_seq (fun K18 hK18 => ?_)
        refine c_reg ?_ -- region 9 measure.go:22
        refine wl (ro_cmp rfl rfl rfl) ?_
        refine wl (ro_assign rfl) ?_
        refine wl_nil (x_then (hK18 _ _ ?_))
        clear hK18 K18
        refine wc_condT rfl ?_
        refine c_seq (fun K19 hK19 => ?_)
        refine c_reg ?_ -- region 10 measure.go:23
        refine wl (ro_fieldAddr (k := 7) rfl fo_89_7) ?_
        refine wl (ro_loadAggB rfl ag_87 (hX) (rfl) (rfl)) ?_
        refine wl (ro_build rfl bld_87) ?_
        refine wl (ro_eqArr4 rfl rfl ar_87 in_85 (by kernel_rfl) rfl) ?_
        refine wl_nil (x_then (hK19 _ _ ?_))
        clear hK19 K19
        refine wc_cond rfl (fun hc27 => ?_) (fun hc27 => ?_)
        · try simp only [decide_eq_true_eq, decide_eq_false_iff_not, Bool.not_eq_true', Bool.not_eq_false', Bool.not_eq_eq_eq_not, Bool.not_true, Bool.not_false, beq_iff_eq, bne_iff_ne, ne_eq, beq_eq_false_iff_ne, bne_eq_false_iff_eq, gt_iff_lt, ge_iff_le, Int.not_lt, Int.not_le] at hc27
          have hz0 : (wd S 0 = 0 ∧ wd S 1 = 0) ∧ (wd S 2 = 0 ∧ wd S 3 = 0) := by simp at hc27; omega
          refine c_reg ?_ -- region 11 measure.go:24
          refine wl (ro_assign rfl) ?_
          refine wl_nil (x_blk (x_then ?_))
          first | exact ⟨1, 1, by rw [hq]; exact ⟨by omega, by omega, by omega, fun hw => ⟨by have := (empty_iff (S := S) hw).2 ⟨hz0.1.1, hz0.1.2, hz0.2.1, hz0.2.2⟩; subst this; rfl, fun h => by omega⟩⟩, hB, hH, hZ, hT, hF, kp _ ⟨rfl, rfl, rfl, rfl, rfl, trivial⟩⟩ | exact ⟨2, 1, by rw [hq]; exact ⟨by omega, by omega, by omega, fun hw => by have hS0 : S ≠ 0 := fun h => hz0 ((empty_iff hw).1 h); exact ⟨by simp [shp, hS0], fun h => by unfold zs child; simp [shp, hS0, core, nds]⟩⟩, hB, hH, hZ, hT, hF, kp _ ⟨rfl, rfl, rfl, rfl, rfl, trivial⟩⟩
        · try simp only [decide_eq_true_eq, decide_eq_false_iff_not, Bool.not_eq_true', Bool.not_eq_false', Bool.not_eq_eq_eq_not, Bool.not_true, Bool.not_false, beq_iff_eq, bne_iff_ne, ne_eq, beq_eq_false_iff_ne, bne_eq_false_iff_eq, gt_iff_lt, ge_iff_le, Int.not_lt, Int.not_le] at hc27
          have hz0 : ¬ (wd S 0 = 0 ∧ wd S 1 = 0 ∧ wd S 2 = 0 ∧ wd S 3 = 0) := by simp at hc27; omega
          refine c_skip (x_blk (x_then ?_))
          first | exact ⟨1, 1, by rw [hq]; exact ⟨by omega, by omega, by omega, fun hw => ⟨by have := (empty_iff (S := S) hw).2 ⟨hz0.1.1, hz0.1.2, hz0.2.1, hz0.2.2⟩; subst this; rfl, fun h => by omega⟩⟩, hB, hH, hZ, hT, hF, kp _ ⟨rfl, rfl, rfl, rfl, rfl, trivial⟩⟩ | exact ⟨2, 1, by rw [hq]; exact ⟨by omega, by omega, by omega, fun hw => by have hS0 : S ≠ 0 := fun h => hz0 ((empty_iff hw).1 h); exact ⟨by simp [shp, hS0], fun h => by unfold zs child; simp [shp, hS0, core, nds]⟩⟩, hB, hH, hZ, hT, hF, kp _ ⟨rfl, rfl, rfl, rfl, rfl, trivial⟩⟩
      clear hB hH hZ hT hF
      rintro a' w3 ⟨s, z, hMW, hB, hH, hZ, hT, hF, e, rfl⟩
      refine c_seq (fun K20 hK20 => ?_)
      refine c_seq (fun K21 hK21 => ?_)
      refine c_reg ?_ -- region 23 measure.go:39
      refine wl (ro_move rfl) ?_
      refine wl (ro_cmp (r := decide (s ≠ 2)) rfl rfl (congrArg some (bnec s 2))) ?_
      refine wl_nil (x_then (hK21 _ _ ?_))
      clear hK21 K21
      refine wc_cond rfl (fun hc86 => ?_) (fun hc86 => ?_)
      · try simp only [decide_eq_true_eq, decide_eq_false_iff_not, Bool.not_eq_true', Bool.not_eq_false', Bool.not_eq_eq_eq_not, Bool.not_true, Bool.not_false, beq_iff_eq, bne_iff_ne, ne_eq, beq_eq_false_iff_ne, bne_eq_false_iff_eq, gt_iff_lt, ge_iff_le, Int.not_lt, Int.not_le] at hc86
        have hms : MS (pt fh n (i64c s)) (pt fz n (i64c 1)) n r := ⟨s, 1, pt_same, pt_same, by omega, by omega, hMW.2.2.1, fun hw => ⟨(hMW.2.2.2 hw).1, by rw [zs0 (by rw [← (hMW.2.2.2 hw).1]; exact hc86)]⟩⟩
        refine c_reg ?_ -- region 24 measure.go:40
        refine wl (ro_assign rfl) ?_
        refine wl_nil (x_then (hK20 _ _ ?_))
        clear hK20 K20
        refine forget [(0, _), (1, _), (4, _), (6, _), (7, _)] ⟨rfl, rfl, rfl, rfl, rfl, trivial⟩ (fun e => ?_)
        refine c_seq (fun K22 hK22 => ?_)
        refine c_reg ?_ -- region 25 measure.go:42
        refine wl (ro_move rfl) ?_
        refine wl (ro_nilCheck rfl) ?_
        refine wl (ro_fieldAddr (k := 1) rfl fo_101_1) ?_
        refine wl (ro_loadB rfl sc_97 (hB) (rfl)) ?_
        refine wl (ro_move rfl) ?_
        refine wl (ro_move rfl) ?_
        refine wl (ro_indexAddr (et := 3) (k := 1) rfl rfl se_97 (rfl) ((by omega : n < 24))) ?_
        refine wl_put rfl rfl rfl sz_3 hH ((cel_lt (by omega))) ((cel_put n (by omega))) (fun w9 hH F9 => ?_)
        replace hF := hF.thenDrew.thenO F9 (by first | exact .inr (by omega) | exact .inl rfl | exact .inl (by assumption))
        replace hB := F9.blkO hB (by omega)
        replace hZ := F9.blkO hZ (by omega)
        replace hT := F9.blkO hT (by omega)
        refine wl_nil (x_then (hK22 _ _ ?_))
        clear hK22 K22
        refine c_reg ?_ -- region 26 measure.go:43
        refine wl (ro_move rfl) ?_
        refine wl (ro_nilCheck rfl) ?_
        refine wl (ro_fieldAddr (k := 2) rfl fo_101_2) ?_
        refine wl (ro_loadB rfl sc_97 (hB) (rfl)) ?_
        refine wl (ro_move rfl) ?_
        refine wl (ro_move rfl) ?_
        refine wl (ro_indexAddr (et := 3) (k := 1) rfl rfl se_97 (rfl) ((by omega : n < 24))) ?_
        refine wl_put rfl rfl rfl sz_3 hZ ((cel_lt (by omega))) ((cel_put n (by omega))) (fun w10 hZ F10 => ?_)
        replace hF := hF.thenDrew.thenO F10 (by first | exact .inr (by omega) | exact .inl rfl | exact .inl (by assumption))
        replace hB := F10.blkO hB (by omega)
        replace hH := F10.blkO hH (by omega)
        replace hT := F10.blkO hT (by omega)
        refine wl_nil (x_blk (x_then (hK4 _ _ ?_)))
        clear hK4 K4
        refine c_reg ?_ -- region 2 measure.go:15
        refine wl (ro_move rfl) ?_
        refine wl (ro_arith rfl rfl rfl (Go.IntWalk.i64_in _ (by omega))) ?_
        refine wl (ro_assign rfl) ?_
        refine wl_nil (x_then ?_)
        refine ⟨T.length - (n + 1), by omega, n + 1, _, _, rfl, by omega, hB, hH, hZ, hT, ?_, hF, kp _ ⟨rfl, rfl, rfl, trivial⟩⟩
        intro k q hk hkq
        by_cases hkn : k = n
        · subst hkn
          rw [hr] at hkq
          cases hkq
          exact hms
        · obtain ⟨s', z', h1, h2, h3⟩ := hall k q (by omega) hkq
          exact ⟨s', z', by rw [pt_ne hkn]; exact h1, by rw [pt_ne hkn]; exact h2, h3⟩
      · try simp only [decide_eq_true_eq, decide_eq_false_iff_not, Bool.not_eq_true', Bool.not_eq_false', Bool.not_eq_eq_eq_not, Bool.not_true, Bool.not_false, beq_iff_eq, bne_iff_ne, ne_eq, beq_eq_false_iff_ne, bne_eq_false_iff_eq, gt_iff_lt, ge_iff_le, Int.not_lt, Int.not_le] at hc86
        have hs2 : s = 2 := by omega
        have hms : MS (pt fh n (i64c s)) (pt fz n (i64c z)) n r := ⟨s, z, pt_same, pt_same, hMW.1, hMW.2.1, hMW.2.2.1, fun hw => ⟨(hMW.2.2.2 hw).1, (hMW.2.2.2 hw).2 hs2⟩⟩
        refine c_skip (x_then (hK20 _ _ ?_))
        clear hK20 K20
        refine forget [(0, _), (1, _), (4, _), (6, _), (7, _)] ⟨rfl, rfl, rfl, rfl, rfl, trivial⟩ (fun e => ?_)
        refine c_seq (fun K23 hK23 => ?_)
        refine c_reg ?_ -- region 25 measure.go:42
        refine wl (ro_move rfl) ?_
        refine wl (ro_nilCheck rfl) ?_
        refine wl (ro_fieldAddr (k := 1) rfl fo_101_1) ?_
        refine wl (ro_loadB rfl sc_97 (hB) (rfl)) ?_
        refine wl (ro_move rfl) ?_
        refine wl (ro_move rfl) ?_
        refine wl (ro_indexAddr (et := 3) (k := 1) rfl rfl se_97 (rfl) ((by omega : n < 24))) ?_
        refine wl_put rfl rfl rfl sz_3 hH ((cel_lt (by omega))) ((cel_put n (by omega))) (fun w11 hH F11 => ?_)
        replace hF := hF.thenDrew.thenO F11 (by first | exact .inr (by omega) | exact .inl rfl | exact .inl (by assumption))
        replace hB := F11.blkO hB (by omega)
        replace hZ := F11.blkO hZ (by omega)
        replace hT := F11.blkO hT (by omega)
        refine wl_nil (x_then (hK23 _ _ ?_))
        clear hK23 K23
        refine c_reg ?_ -- region 26 measure.go:43
        refine wl (ro_move rfl) ?_
        refine wl (ro_nilCheck rfl) ?_
        refine wl (ro_fieldAddr (k := 2) rfl fo_101_2) ?_
        refine wl (ro_loadB rfl sc_97 (hB) (rfl)) ?_
        refine wl (ro_move rfl) ?_
        refine wl (ro_move rfl) ?_
        refine wl (ro_indexAddr (et := 3) (k := 1) rfl rfl se_97 (rfl) ((by omega : n < 24))) ?_
        refine wl_put rfl rfl rfl sz_3 hZ ((cel_lt (by omega))) ((cel_put n (by omega))) (fun w12 hZ F12 => ?_)
        replace hF := hF.thenDrew.thenO F12 (by first | exact .inr (by omega) | exact .inl rfl | exact .inl (by assumption))
        replace hB := F12.blkO hB (by omega)
        replace hH := F12.blkO hH (by omega)
        replace hT := F12.blkO hT (by omega)
        refine wl_nil (x_blk (x_then (hK4 _ _ ?_)))
        clear hK4 K4
        refine c_reg ?_ -- region 2 measure.go:15
        refine wl (ro_move rfl) ?_
        refine wl (ro_arith rfl rfl rfl (Go.IntWalk.i64_in _ (by omega))) ?_
        refine wl (ro_assign rfl) ?_
        refine wl_nil (x_then ?_)
        refine ⟨T.length - (n + 1), by omega, n + 1, _, _, rfl, by omega, hB, hH, hZ, hT, ?_, hF, kp _ ⟨rfl, rfl, rfl, trivial⟩⟩
        intro k q hk hkq
        by_cases hkn : k = n
        · subst hkn
          rw [hr] at hkq
          cases hkq
          exact hms
        · obtain ⟨s', z', h1, h2, h3⟩ := hall k q (by omega) hkq
          exact ⟨s', z', by rw [pt_ne hkn]; exact h1, by rw [pt_ne hkn]; exact h2, h3⟩
    · skip
      refine c_reg ?_ -- region 3 measure.go:16
      refine wl (ro_move rfl) ?_
      refine wl (ro_move rfl) ?_
      refine wl (ro_indexAddr (et := 89) (k := 11) rfl rfl se_98 (rfl) (hc11)) ?_
      refine wl (ro_loadAggB rfl ag_89 (hT) (rfl) (hld)) ?_
      refine wl_new (ze_89) (fun xb w13 hbxb hX F13 => ?_)
      have hbsxb := Nat.le_trans hF.size hbxb
      have hneB.sbxb : B.sb < xb := Nat.lt_of_lt_of_le hB.lt hbxb
      have hneB.hbxb : B.hb < xb := Nat.lt_of_lt_of_le hH.lt hbxb
      have hneB.zbxb : B.zb < xb := Nat.lt_of_lt_of_le hZ.lt hbxb
      have hnenbxb : nb < xb := Nat.lt_of_lt_of_le hT.lt hbxb
      replace hF := hF.thenDrew.thenN F13
      replace hB := F13.blkN hB
      replace hH := F13.blkN hH
      replace hZ := F13.blkN hZ
      replace hT := F13.blkN hT
      refine wl_puta rfl rfl (by simp [Value.oneCell', i64c, u64c, u8c, ptr]) sz_89 (rfl) hX ((by simp)) (rfl) (fun w14 hX F14 => ?_)
      replace hF := hF.thenDrew.thenO F14 (by first | exact .inr (by omega) | exact .inl rfl | exact .inl (by assumption))
      replace hB := F14.blkO hB (by omega)
      replace hH := F14.blkO hH (by omega)
      replace hZ := F14.blkO hZ (by omega)
      replace hT := F14.blkO hT (by omega)
      refine wl_nil (x_then (hK5 _ _ ?_))
      clear hK5 K5
      refine forget [(0, _), (1, _), (4, _), (5, _)] ⟨rfl, rfl, rfl, rfl, trivial⟩ (fun e => ?_)
      refine c_seq (fun K24 hK24 => ?_)
      refine c_reg ?_ -- region 4 measure.go:17
      refine wl (ro_assign rfl) ?_
      refine wl_nil (x_then (hK24 _ _ ?_))
      clear hK24 K24
      refine forget [(0, _), (1, _), (4, _), (5, _), (6, _)] ⟨rfl, rfl, rfl, rfl, rfl, trivial⟩ (fun e => ?_)
      refine c_seq (fun K25 hK25 => ?_)
      refine c_reg ?_ -- region 5 measure.go:18
      refine wl (ro_assign rfl) ?_
      refine wl_nil (x_then (hK25 _ _ ?_))
      clear hK25 K25
      refine c_mid (fun a' w' => ∃ (s z : Nat), MW r s z ∧ Blk w'.heap B.sb (B.cells no nw nr) 101 ∧ FB w'.heap B.hb 24 fh 3 ∧ FB w'.heap B.zb 24 fz 3 ∧ FB w'.heap nb (cap * 11) c 89 ∧ Fram (two B.hb B.zb) w w' ∧ ∃ e, a' = Fr 101 (upds e [(0, ptr B.sb), (1, .slice (some ⟨nb, 0, none⟩) T.length cap), (4, i64c n), (6, i64c s), (7, i64c z)]) []) ?_ ?_
      · skip
        refine c_seq (fun K26 hK26 => ?_)
        refine c_reg ?_ -- region 6 measure.go:19
        refine wl (ro_fieldAddr (k := 0) rfl fo_89_0) ?_
        refine wl (ro_loadB rfl sc_3 (by assumption) rfl) ?_
        refine wl_nil (x_then (hK26 _ _ ?_))
        clear hK26 K26
        refine c_block ?_
        refine forget [(0, _), (1, _), (4, _), (5, _), (6, _), (7, _), (19, _)] ⟨rfl, rfl, rfl, rfl, rfl, rfl, rfl, trivial⟩ (fun e => ?_)
        refine c_seq (fun K27 hK27 => ?_)
        refine c_reg ?_ -- region 7 measure.go:20
        refine wl (ro_cmp rfl rfl rfl) ?_
        refine wl (ro_assign rfl) ?_
        refine wl_nil (x_then (hK27 _ _ ?_))
        clear hK27 K27
        refine wc_condF rfl ?_
        refine c_seq (fun K28 hK28 => ?_)
        refine c_reg ?_ -- region 9 measure.go:22
        refine wl (ro_cmp rfl rfl rfl) ?_
        refine wl (ro_assign rfl) ?_
        refine wl_nil (x_then (hK28 _ _ ?_))
        clear hK28 K28
        refine wc_condF rfl ?_
        refine c_seq (fun K29 hK29 => ?_)
        refine c_reg ?_ -- region 12 measure.go:26
        refine wl (ro_cmp rfl rfl rfl) ?_
        refine wl (ro_assign rfl) ?_
        refine wl_nil (x_then (hK29 _ _ ?_))
        clear hK29 K29
        refine wc_condF rfl ?_
        refine c_seq (fun K30 hK30 => ?_)
        refine c_reg ?_ -- region 14 measure.go:28
        refine wl (ro_cmp rfl rfl rfl) ?_
        refine wl (ro_assign rfl) ?_
        refine wl_nil (x_then (hK30 _ _ ?_))
        clear hK30 K30
        refine wc_condF rfl ?_
        refine c_seq (fun K31 hK31 => ?_)
        refine c_reg ?_ -- region 16 measure.go:30
        refine wl (ro_cmp rfl rfl rfl) ?_
        refine wl (ro_assign rfl) ?_
        refine wl_nil (x_then (hK31 _ _ ?_))
        clear hK31 K31
        refine wc_condF rfl ?_
        refine c_seq (fun K32 hK32 => ?_)
        refine c_reg ?_ -- region 21 measure.go:36
        refine wl (ro_cmp rfl rfl rfl) ?_
        refine wl (ro_assign rfl) ?_
        refine wl_nil (x_then (hK32 _ _ ?_))
        clear hK32 K32
        refine wc_condF rfl ?_
        refine c_skip (x_blk (x_then ?_))
        exact ⟨2, 1, by rw [hq]; exact ⟨by omega, by omega, by omega, fun hw => ⟨rfl, fun h => rfl⟩⟩, hB, hH, hZ, hT, hF, kp _ ⟨rfl, rfl, rfl, rfl, rfl, trivial⟩⟩
      clear hB hH hZ hT hF
      rintro a' w3 ⟨s, z, hMW, hB, hH, hZ, hT, hF, e, rfl⟩
      refine c_seq (fun K33 hK33 => ?_)
      refine c_seq (fun K34 hK34 => ?_)
      refine c_reg ?_ -- region 23 measure.go:39
      refine wl (ro_move rfl) ?_
      refine wl (ro_cmp (r := decide (s ≠ 2)) rfl rfl (congrArg some (bnec s 2))) ?_
      refine wl_nil (x_then (hK34 _ _ ?_))
      clear hK34 K34
      refine wc_cond rfl (fun hc86 => ?_) (fun hc86 => ?_)
      · try simp only [decide_eq_true_eq, decide_eq_false_iff_not, Bool.not_eq_true', Bool.not_eq_false', Bool.not_eq_eq_eq_not, Bool.not_true, Bool.not_false, beq_iff_eq, bne_iff_ne, ne_eq, beq_eq_false_iff_ne, bne_eq_false_iff_eq, gt_iff_lt, ge_iff_le, Int.not_lt, Int.not_le] at hc86
        have hms : MS (pt fh n (i64c s)) (pt fz n (i64c 1)) n r := ⟨s, 1, pt_same, pt_same, by omega, by omega, hMW.2.2.1, fun hw => ⟨(hMW.2.2.2 hw).1, by rw [zs0 (by rw [← (hMW.2.2.2 hw).1]; exact hc86)]⟩⟩
        refine c_reg ?_ -- region 24 measure.go:40
        refine wl (ro_assign rfl) ?_
        refine wl_nil (x_then (hK33 _ _ ?_))
        clear hK33 K33
        refine forget [(0, _), (1, _), (4, _), (6, _), (7, _)] ⟨rfl, rfl, rfl, rfl, rfl, trivial⟩ (fun e => ?_)
        refine c_seq (fun K35 hK35 => ?_)
        refine c_reg ?_ -- region 25 measure.go:42
        refine wl (ro_move rfl) ?_
        refine wl (ro_nilCheck rfl) ?_
        refine wl (ro_fieldAddr (k := 1) rfl fo_101_1) ?_
        refine wl (ro_loadB rfl sc_97 (hB) (rfl)) ?_
        refine wl (ro_move rfl) ?_
        refine wl (ro_move rfl) ?_
        refine wl (ro_indexAddr (et := 3) (k := 1) rfl rfl se_97 (rfl) ((by omega : n < 24))) ?_
        refine wl_put rfl rfl rfl sz_3 hH ((cel_lt (by omega))) ((cel_put n (by omega))) (fun w15 hH F15 => ?_)
        replace hF := hF.thenDrew.thenO F15 (by first | exact .inr (by omega) | exact .inl rfl | exact .inl (by assumption))
        replace hB := F15.blkO hB (by omega)
        replace hZ := F15.blkO hZ (by omega)
        replace hT := F15.blkO hT (by omega)
        refine wl_nil (x_then (hK35 _ _ ?_))
        clear hK35 K35
        refine c_reg ?_ -- region 26 measure.go:43
        refine wl (ro_move rfl) ?_
        refine wl (ro_nilCheck rfl) ?_
        refine wl (ro_fieldAddr (k := 2) rfl fo_101_2) ?_
        refine wl (ro_loadB rfl sc_97 (hB) (rfl)) ?_
        refine wl (ro_move rfl) ?_
        refine wl (ro_move rfl) ?_
        refine wl (ro_indexAddr (et := 3) (k := 1) rfl rfl se_97 (rfl) ((by omega : n < 24))) ?_
        refine wl_put rfl rfl rfl sz_3 hZ ((cel_lt (by omega))) ((cel_put n (by omega))) (fun w16 hZ F16 => ?_)
        replace hF := hF.thenDrew.thenO F16 (by first | exact .inr (by omega) | exact .inl rfl | exact .inl (by assumption))
        replace hB := F16.blkO hB (by omega)
        replace hH := F16.blkO hH (by omega)
        replace hT := F16.blkO hT (by omega)
        refine wl_nil (x_blk (x_then (hK4 _ _ ?_)))
        clear hK4 K4
        refine c_reg ?_ -- region 2 measure.go:15
        refine wl (ro_move rfl) ?_
        refine wl (ro_arith rfl rfl rfl (Go.IntWalk.i64_in _ (by omega))) ?_
        refine wl (ro_assign rfl) ?_
        refine wl_nil (x_then ?_)
        refine ⟨T.length - (n + 1), by omega, n + 1, _, _, rfl, by omega, hB, hH, hZ, hT, ?_, hF, kp _ ⟨rfl, rfl, rfl, trivial⟩⟩
        intro k q hk hkq
        by_cases hkn : k = n
        · subst hkn
          rw [hr] at hkq
          cases hkq
          exact hms
        · obtain ⟨s', z', h1, h2, h3⟩ := hall k q (by omega) hkq
          exact ⟨s', z', by rw [pt_ne hkn]; exact h1, by rw [pt_ne hkn]; exact h2, h3⟩
      · try simp only [decide_eq_true_eq, decide_eq_false_iff_not, Bool.not_eq_true', Bool.not_eq_false', Bool.not_eq_eq_eq_not, Bool.not_true, Bool.not_false, beq_iff_eq, bne_iff_ne, ne_eq, beq_eq_false_iff_ne, bne_eq_false_iff_eq, gt_iff_lt, ge_iff_le, Int.not_lt, Int.not_le] at hc86
        have hs2 : s = 2 := by omega
        have hms : MS (pt fh n (i64c s)) (pt fz n (i64c z)) n r := ⟨s, z, pt_same, pt_same, hMW.1, hMW.2.1, hMW.2.2.1, fun hw => ⟨(hMW.2.2.2 hw).1, (hMW.2.2.2 hw).2 hs2⟩⟩
        refine c_skip (x_then (hK33 _ _ ?_))
        clear hK33 K33
        refine forget [(0, _), (1, _), (4, _), (6, _), (7, _)] ⟨rfl, rfl, rfl, rfl, rfl, trivial⟩ (fun e => ?_)
        refine c_seq (fun K36 hK36 => ?_)
        refine c_reg ?_ -- region 25 measure.go:42
        refine wl (ro_move rfl) ?_
        refine wl (ro_nilCheck rfl) ?_
        refine wl (ro_fieldAddr (k := 1) rfl fo_101_1) ?_
        refine wl (ro_loadB rfl sc_97 (hB) (rfl)) ?_
        refine wl (ro_move rfl) ?_
        refine wl (ro_move rfl) ?_
        refine wl (ro_indexAddr (et := 3) (k := 1) rfl rfl se_97 (rfl) ((by omega : n < 24))) ?_
        refine wl_put rfl rfl rfl sz_3 hH ((cel_lt (by omega))) ((cel_put n (by omega))) (fun w17 hH F17 => ?_)
        replace hF := hF.thenDrew.thenO F17 (by first | exact .inr (by omega) | exact .inl rfl | exact .inl (by assumption))
        replace hB := F17.blkO hB (by omega)
        replace hZ := F17.blkO hZ (by omega)
        replace hT := F17.blkO hT (by omega)
        refine wl_nil (x_then (hK36 _ _ ?_))
        clear hK36 K36
        refine c_reg ?_ -- region 26 measure.go:43
        refine wl (ro_move rfl) ?_
        refine wl (ro_nilCheck rfl) ?_
        refine wl (ro_fieldAddr (k := 2) rfl fo_101_2) ?_
        refine wl (ro_loadB rfl sc_97 (hB) (rfl)) ?_
        refine wl (ro_move rfl) ?_
        refine wl (ro_move rfl) ?_
        refine wl (ro_indexAddr (et := 3) (k := 1) rfl rfl se_97 (rfl) ((by omega : n < 24))) ?_
        refine wl_put rfl rfl rfl sz_3 hZ ((cel_lt (by omega))) ((cel_put n (by omega))) (fun w18 hZ F18 => ?_)
        replace hF := hF.thenDrew.thenO F18 (by first | exact .inr (by omega) | exact .inl rfl | exact .inl (by assumption))
        replace hB := F18.blkO hB (by omega)
        replace hH := F18.blkO hH (by omega)
        replace hT := F18.blkO hT (by omega)
        refine wl_nil (x_blk (x_then (hK4 _ _ ?_)))
        clear hK4 K4
        refine c_reg ?_ -- region 2 measure.go:15
        refine wl (ro_move rfl) ?_
        refine wl (ro_arith rfl rfl rfl (Go.IntWalk.i64_in _ (by omega))) ?_
        refine wl (ro_assign rfl) ?_
        refine wl_nil (x_then ?_)
        refine ⟨T.length - (n + 1), by omega, n + 1, _, _, rfl, by omega, hB, hH, hZ, hT, ?_, hF, kp _ ⟨rfl, rfl, rfl, trivial⟩⟩
        intro k q hk hkq
        by_cases hkn : k = n
        · subst hkn
          rw [hr] at hkq
          cases hkq
          exact hms
        · obtain ⟨s', z', h1, h2, h3⟩ := hall k q (by omega) hkq
          exact ⟨s', z', by rw [pt_ne hkn]; exact h1, by rw [pt_ne hkn]; exact h2, h3⟩
    · skip
      refine c_reg ?_ -- region 3 measure.go:16
      refine wl (ro_move rfl) ?_
      refine wl (ro_move rfl) ?_
      refine wl (ro_indexAddr (et := 89) (k := 11) rfl rfl se_98 (rfl) (hc11)) ?_
      refine wl (ro_loadAggB rfl ag_89 (hT) (rfl) (hld)) ?_
      refine wl_new (ze_89) (fun xb w19 hbxb hX F19 => ?_)
      have hbsxb := Nat.le_trans hF.size hbxb
      have hneB.sbxb : B.sb < xb := Nat.lt_of_lt_of_le hB.lt hbxb
      have hneB.hbxb : B.hb < xb := Nat.lt_of_lt_of_le hH.lt hbxb
      have hneB.zbxb : B.zb < xb := Nat.lt_of_lt_of_le hZ.lt hbxb
      have hnenbxb : nb < xb := Nat.lt_of_lt_of_le hT.lt hbxb
      replace hF := hF.thenDrew.thenN F19
      replace hB := F19.blkN hB
      replace hH := F19.blkN hH
      replace hZ := F19.blkN hZ
      replace hT := F19.blkN hT
      refine wl_puta rfl rfl (by simp [Value.oneCell', i64c, u64c, u8c, ptr]) sz_89 (rfl) hX ((by simp)) (rfl) (fun w20 hX F20 => ?_)
      replace hF := hF.thenDrew.thenO F20 (by first | exact .inr (by omega) | exact .inl rfl | exact .inl (by assumption))
      replace hB := F20.blkO hB (by omega)
      replace hH := F20.blkO hH (by omega)
      replace hZ := F20.blkO hZ (by omega)
      replace hT := F20.blkO hT (by omega)
      refine wl_nil (x_then (hK5 _ _ ?_))
      clear hK5 K5
      refine forget [(0, _), (1, _), (4, _), (5, _)] ⟨rfl, rfl, rfl, rfl, trivial⟩ (fun e => ?_)
      refine c_seq (fun K37 hK37 => ?_)
      refine c_reg ?_ -- region 4 measure.go:17
      refine wl (ro_assign rfl) ?_
      refine wl_nil (x_then (hK37 _ _ ?_))
      clear hK37 K37
      refine forget [(0, _), (1, _), (4, _), (5, _), (6, _)] ⟨rfl, rfl, rfl, rfl, rfl, trivial⟩ (fun e => ?_)
      refine c_seq (fun K38 hK38 => ?_)
      refine c_reg ?_ -- region 5 measure.go:18
      refine wl (ro_assign rfl) ?_
      refine wl_nil (x_then (hK38 _ _ ?_))
      clear hK38 K38
      refine c_mid (fun a' w' => ∃ (s z : Nat), MW r s z ∧ Blk w'.heap B.sb (B.cells no nw nr) 101 ∧ FB w'.heap B.hb 24 fh 3 ∧ FB w'.heap B.zb 24 fz 3 ∧ FB w'.heap nb (cap * 11) c 89 ∧ Fram (two B.hb B.zb) w w' ∧ ∃ e, a' = Fr 101 (upds e [(0, ptr B.sb), (1, .slice (some ⟨nb, 0, none⟩) T.length cap), (4, i64c n), (6, i64c s), (7, i64c z)]) []) ?_ ?_
      · skip
        refine c_seq (fun K39 hK39 => ?_)
        refine c_reg ?_ -- region 6 measure.go:19
        refine wl (ro_fieldAddr (k := 0) rfl fo_89_0) ?_
        refine wl (ro_loadB rfl sc_3 (by assumption) rfl) ?_
        refine wl_nil (x_then (hK39 _ _ ?_))
        clear hK39 K39
        refine c_block ?_
        refine forget [(0, _), (1, _), (4, _), (5, _), (6, _), (7, _), (19, _)] ⟨rfl, rfl, rfl, rfl, rfl, rfl, rfl, trivial⟩ (fun e => ?_)
        refine c_seq (fun K40 hK40 => ?_)
        refine c_reg ?_ -- region 7 measure.go:20
        refine wl (ro_cmp rfl rfl rfl) ?_
        refine wl (ro_assign rfl) ?_
        refine wl_nil (x_then (hK40 _ _ ?_))
        clear hK40 K40
        refine wc_condF rfl ?_
        refine c_seq (fun K41 hK41 => ?_)
        refine c_reg ?_ -- region 9 measure.go:22
        refine wl (ro_cmp rfl rfl rfl) ?_
        refine wl (ro_assign rfl) ?_
        refine wl_nil (x_then (hK41 _ _ ?_))
        clear hK41 K41
        refine wc_condF rfl ?_
        refine c_seq (fun K42 hK42 => ?_)
        refine c_reg ?_ -- region 12 measure.go:26
        refine wl (ro_cmp rfl rfl rfl) ?_
        refine wl (ro_assign rfl) ?_
        refine wl_nil (x_then (hK42 _ _ ?_))
        clear hK42 K42
        refine wc_condF rfl ?_
        refine c_seq (fun K43 hK43 => ?_)
        refine c_reg ?_ -- region 14 measure.go:28
        refine wl (ro_cmp rfl rfl rfl) ?_
        refine wl (ro_assign rfl) ?_
        refine wl_nil (x_then (hK43 _ _ ?_))
        clear hK43 K43
        refine wc_condF rfl ?_
        refine c_seq (fun K44 hK44 => ?_)
        refine c_reg ?_ -- region 16 measure.go:30
        refine wl (ro_cmp rfl rfl rfl) ?_
        refine wl (ro_assign rfl) ?_
        refine wl_nil (x_then (hK44 _ _ ?_))
        clear hK44 K44
        refine wc_condF rfl ?_
        refine c_seq (fun K45 hK45 => ?_)
        refine c_reg ?_ -- region 21 measure.go:36
        refine wl (ro_cmp rfl rfl rfl) ?_
        refine wl (ro_assign rfl) ?_
        refine wl_nil (x_then (hK45 _ _ ?_))
        clear hK45 K45
        refine wc_condF rfl ?_
        refine c_skip (x_blk (x_then ?_))
        exact ⟨2, 1, by rw [hq]; exact ⟨by omega, by omega, by omega, fun hw => ⟨rfl, fun h => rfl⟩⟩, hB, hH, hZ, hT, hF, kp _ ⟨rfl, rfl, rfl, rfl, rfl, trivial⟩⟩
      clear hB hH hZ hT hF
      rintro a' w3 ⟨s, z, hMW, hB, hH, hZ, hT, hF, e, rfl⟩
      refine c_seq (fun K46 hK46 => ?_)
      refine c_seq (fun K47 hK47 => ?_)
      refine c_reg ?_ -- region 23 measure.go:39
      refine wl (ro_move rfl) ?_
      refine wl (ro_cmp (r := decide (s ≠ 2)) rfl rfl (congrArg some (bnec s 2))) ?_
      refine wl_nil (x_then (hK47 _ _ ?_))
      clear hK47 K47
      refine wc_cond rfl (fun hc86 => ?_) (fun hc86 => ?_)
      · try simp only [decide_eq_true_eq, decide_eq_false_iff_not, Bool.not_eq_true', Bool.not_eq_false', Bool.not_eq_eq_eq_not, Bool.not_true, Bool.not_false, beq_iff_eq, bne_iff_ne, ne_eq, beq_eq_false_iff_ne, bne_eq_false_iff_eq, gt_iff_lt, ge_iff_le, Int.not_lt, Int.not_le] at hc86
        have hms : MS (pt fh n (i64c s)) (pt fz n (i64c 1)) n r := ⟨s, 1, pt_same, pt_same, by omega, by omega, hMW.2.2.1, fun hw => ⟨(hMW.2.2.2 hw).1, by rw [zs0 (by rw [← (hMW.2.2.2 hw).1]; exact hc86)]⟩⟩
        refine c_reg ?_ -- region 24 measure.go:40
        refine wl (ro_assign rfl) ?_
        refine wl_nil (x_then (hK46 _ _ ?_))
        clear hK46 K46
        refine forget [(0, _), (1, _), (4, _), (6, _), (7, _)] ⟨rfl, rfl, rfl, rfl, rfl, trivial⟩ (fun e => ?_)
        refine c_seq (fun K48 hK48 => ?_)
        refine c_reg ?_ -- region 25 measure.go:42
        refine wl (ro_move rfl) ?_
        refine wl (ro_nilCheck rfl) ?_
        refine wl (ro_fieldAddr (k := 1) rfl fo_101_1) ?_
        refine wl (ro_loadB rfl sc_97 (hB) (rfl)) ?_
        refine wl (ro_move rfl) ?_
        refine wl (ro_move rfl) ?_
        refine wl (ro_indexAddr (et := 3) (k := 1) rfl rfl se_97 (rfl) ((by omega : n < 24))) ?_
        refine wl_put rfl rfl rfl sz_3 hH ((cel_lt (by omega))) ((cel_put n (by omega))) (fun w21 hH F21 => ?_)
        replace hF := hF.thenDrew.thenO F21 (by first | exact .inr (by omega) | exact .inl rfl | exact .inl (by assumption))
        replace hB := F21.blkO hB (by omega)
        replace hZ := F21.blkO hZ (by omega)
        replace hT := F21.blkO hT (by omega)
        refine wl_nil (x_then (hK48 _ _ ?_))
        clear hK48 K48
        refine c_reg ?_ -- region 26 measure.go:43
        refine wl (ro_move rfl) ?_
        refine wl (ro_nilCheck rfl) ?_
        refine wl (ro_fieldAddr (k := 2) rfl fo_101_2) ?_
        refine wl (ro_loadB rfl sc_97 (hB) (rfl)) ?_
        refine wl (ro_move rfl) ?_
        refine wl (ro_move rfl) ?_
        refine wl (ro_indexAddr (et := 3) (k := 1) rfl rfl se_97 (rfl) ((by omega : n < 24))) ?_
        refine wl_put rfl rfl rfl sz_3 hZ ((cel_lt (by omega))) ((cel_put n (by omega))) (fun w22 hZ F22 => ?_)
        replace hF := hF.thenDrew.thenO F22 (by first | exact .inr (by omega) | exact .inl rfl | exact .inl (by assumption))
        replace hB := F22.blkO hB (by omega)
        replace hH := F22.blkO hH (by omega)
        replace hT := F22.blkO hT (by omega)
        refine wl_nil (x_blk (x_then (hK4 _ _ ?_)))
        clear hK4 K4
        refine c_reg ?_ -- region 2 measure.go:15
        refine wl (ro_move rfl) ?_
        refine wl (ro_arith rfl rfl rfl (Go.IntWalk.i64_in _ (by omega))) ?_
        refine wl (ro_assign rfl) ?_
        refine wl_nil (x_then ?_)
        refine ⟨T.length - (n + 1), by omega, n + 1, _, _, rfl, by omega, hB, hH, hZ, hT, ?_, hF, kp _ ⟨rfl, rfl, rfl, trivial⟩⟩
        intro k q hk hkq
        by_cases hkn : k = n
        · subst hkn
          rw [hr] at hkq
          cases hkq
          exact hms
        · obtain ⟨s', z', h1, h2, h3⟩ := hall k q (by omega) hkq
          exact ⟨s', z', by rw [pt_ne hkn]; exact h1, by rw [pt_ne hkn]; exact h2, h3⟩
      · try simp only [decide_eq_true_eq, decide_eq_false_iff_not, Bool.not_eq_true', Bool.not_eq_false', Bool.not_eq_eq_eq_not, Bool.not_true, Bool.not_false, beq_iff_eq, bne_iff_ne, ne_eq, beq_eq_false_iff_ne, bne_eq_false_iff_eq, gt_iff_lt, ge_iff_le, Int.not_lt, Int.not_le] at hc86
        have hs2 : s = 2 := by omega
        have hms : MS (pt fh n (i64c s)) (pt fz n (i64c z)) n r := ⟨s, z, pt_same, pt_same, hMW.1, hMW.2.1, hMW.2.2.1, fun hw => ⟨(hMW.2.2.2 hw).1, (hMW.2.2.2 hw).2 hs2⟩⟩
        refine c_skip (x_then (hK46 _ _ ?_))
        clear hK46 K46
        refine forget [(0, _), (1, _), (4, _), (6, _), (7, _)] ⟨rfl, rfl, rfl, rfl, rfl, trivial⟩ (fun e => ?_)
        refine c_seq (fun K49 hK49 => ?_)
        refine c_reg ?_ -- region 25 measure.go:42
        refine wl (ro_move rfl) ?_
        refine wl (ro_nilCheck rfl) ?_
        refine wl (ro_fieldAddr (k := 1) rfl fo_101_1) ?_
        refine wl (ro_loadB rfl sc_97 (hB) (rfl)) ?_
        refine wl (ro_move rfl) ?_
        refine wl (ro_move rfl) ?_
        refine wl (ro_indexAddr (et := 3) (k := 1) rfl rfl se_97 (rfl) ((by omega : n < 24))) ?_
        refine wl_put rfl rfl rfl sz_3 hH ((cel_lt (by omega))) ((cel_put n (by omega))) (fun w23 hH F23 => ?_)
        replace hF := hF.thenDrew.thenO F23 (by first | exact .inr (by omega) | exact .inl rfl | exact .inl (by assumption))
        replace hB := F23.blkO hB (by omega)
        replace hZ := F23.blkO hZ (by omega)
        replace hT := F23.blkO hT (by omega)
        refine wl_nil (x_then (hK49 _ _ ?_))
        clear hK49 K49
        refine c_reg ?_ -- region 26 measure.go:43
        refine wl (ro_move rfl) ?_
        refine wl (ro_nilCheck rfl) ?_
        refine wl (ro_fieldAddr (k := 2) rfl fo_101_2) ?_
        refine wl (ro_loadB rfl sc_97 (hB) (rfl)) ?_
        refine wl (ro_move rfl) ?_
        refine wl (ro_move rfl) ?_
        refine wl (ro_indexAddr (et := 3) (k := 1) rfl rfl se_97 (rfl) ((by omega : n < 24))) ?_
        refine wl_put rfl rfl rfl sz_3 hZ ((cel_lt (by omega))) ((cel_put n (by omega))) (fun w24 hZ F24 => ?_)
        replace hF := hF.thenDrew.thenO F24 (by first | exact .inr (by omega) | exact .inl rfl | exact .inl (by assumption))
        replace hB := F24.blkO hB (by omega)
        replace hH := F24.blkO hH (by omega)
        replace hT := F24.blkO hT (by omega)
        refine wl_nil (x_blk (x_then (hK4 _ _ ?_)))
        clear hK4 K4
        refine c_reg ?_ -- region 2 measure.go:15
        refine wl (ro_move rfl) ?_
        refine wl (ro_arith rfl rfl rfl (Go.IntWalk.i64_in _ (by omega))) ?_
        refine wl (ro_assign rfl) ?_
        refine wl_nil (x_then ?_)
        refine ⟨T.length - (n + 1), by omega, n + 1, _, _, rfl, by omega, hB, hH, hZ, hT, ?_, hF, kp _ ⟨rfl, rfl, rfl, trivial⟩⟩
        intro k q hk hkq
        by_cases hkn : k = n
        · subst hkn
          rw [hr] at hkq
          cases hkq
          exact hms
        · obtain ⟨s', z', h1, h2, h3⟩ := hall k q (by omega) hkq
          exact ⟨s', z', by rw [pt_ne hkn]; exact h1, by rw [pt_ne hkn]; exact h2, h3⟩
    · skip
      obtain ⟨sa, za, ha1, ha2, hma⟩ := hall i x hi hia
      obtain ⟨sb, zb, hb1, hb2, hmb⟩ := hall j y hj hjb
      refine c_reg ?_ -- region 3 measure.go:16
      refine wl (ro_move rfl) ?_
      refine wl (ro_move rfl) ?_
      refine wl (ro_indexAddr (et := 89) (k := 11) rfl rfl se_98 (rfl) (hc11)) ?_
      refine wl (ro_loadAggB rfl ag_89 (hT) (rfl) (hld)) ?_
      refine wl_new (ze_89) (fun xb w25 hbxb hX F25 => ?_)
      have hbsxb := Nat.le_trans hF.size hbxb
      have hneB.sbxb : B.sb < xb := Nat.lt_of_lt_of_le hB.lt hbxb
      have hneB.hbxb : B.hb < xb := Nat.lt_of_lt_of_le hH.lt hbxb
      have hneB.zbxb : B.zb < xb := Nat.lt_of_lt_of_le hZ.lt hbxb
      have hnenbxb : nb < xb := Nat.lt_of_lt_of_le hT.lt hbxb
      replace hF := hF.thenDrew.thenN F25
      replace hB := F25.blkN hB
      replace hH := F25.blkN hH
      replace hZ := F25.blkN hZ
      replace hT := F25.blkN hT
      refine wl_puta rfl rfl (by simp [Value.oneCell', i64c, u64c, u8c, ptr]) sz_89 (rfl) hX ((by simp)) (rfl) (fun w26 hX F26 => ?_)
      replace hF := hF.thenDrew.thenO F26 (by first | exact .inr (by omega) | exact .inl rfl | exact .inl (by assumption))
      replace hB := F26.blkO hB (by omega)
      replace hH := F26.blkO hH (by omega)
      replace hZ := F26.blkO hZ (by omega)
      replace hT := F26.blkO hT (by omega)
      refine wl_nil (x_then (hK5 _ _ ?_))
      clear hK5 K5
      refine forget [(0, _), (1, _), (4, _), (5, _)] ⟨rfl, rfl, rfl, rfl, trivial⟩ (fun e => ?_)
      refine c_seq (fun K50 hK50 => ?_)
      refine c_reg ?_ -- region 4 measure.go:17
      refine wl (ro_assign rfl) ?_
      refine wl_nil (x_then (hK50 _ _ ?_))
      clear hK50 K50
      refine forget [(0, _), (1, _), (4, _), (5, _), (6, _)] ⟨rfl, rfl, rfl, rfl, rfl, trivial⟩ (fun e => ?_)
      refine c_seq (fun K51 hK51 => ?_)
      refine c_reg ?_ -- region 5 measure.go:18
      refine wl (ro_assign rfl) ?_
      refine wl_nil (x_then (hK51 _ _ ?_))
      clear hK51 K51
      refine c_mid (fun a' w' => ∃ (s z : Nat), MW r s z ∧ Blk w'.heap B.sb (B.cells no nw nr) 101 ∧ FB w'.heap B.hb 24 fh 3 ∧ FB w'.heap B.zb 24 fz 3 ∧ FB w'.heap nb (cap * 11) c 89 ∧ Fram (two B.hb B.zb) w w' ∧ ∃ e, a' = Fr 101 (upds e [(0, ptr B.sb), (1, .slice (some ⟨nb, 0, none⟩) T.length cap), (4, i64c n), (6, i64c s), (7, i64c z)]) []) ?_ ?_
      · skip
        refine c_seq (fun K52 hK52 => ?_)
        refine c_reg ?_ -- region 6 measure.go:19
        refine wl (ro_fieldAddr (k := 0) rfl fo_89_0) ?_
        refine wl (ro_loadB rfl sc_3 (by assumption) rfl) ?_
        refine wl_nil (x_then (hK52 _ _ ?_))
        clear hK52 K52
        refine c_block ?_
        refine forget [(0, _), (1, _), (4, _), (5, _), (6, _), (7, _), (19, _)] ⟨rfl, rfl, rfl, rfl, rfl, rfl, rfl, trivial⟩ (fun e => ?_)
        refine c_seq (fun K53 hK53 => ?_)
        refine c_reg ?_ -- region 7 measure.go:20
        refine wl (ro_cmp rfl rfl rfl) ?_
        refine wl (ro_assign rfl) ?_
        refine wl_nil (x_then (hK53 _ _ ?_))
        clear hK53 K53
        refine wc_condF rfl ?_
        refine c_seq (fun K54 hK54 => ?_)
        refine c_reg ?_ -- region 9 measure.go:22
        refine wl (ro_cmp rfl rfl rfl) ?_
        refine wl (ro_assign rfl) ?_
        refine wl_nil (x_then (hK54 _ _ ?_))
        clear hK54 K54
        refine wc_condF rfl ?_
        refine c_seq (fun K55 hK55 => ?_)
        refine c_reg ?_ -- region 12 measure.go:26
        refine wl (ro_cmp rfl rfl rfl) ?_
        refine wl (ro_assign rfl) ?_
        refine wl_nil (x_then (hK55 _ _ ?_))
        clear hK55 K55
        refine wc_condT rfl ?_
        refine c_reg ?_ -- region 13 measure.go:27
        refine wl (ro_move rfl) ?_
        refine wl (ro_fieldAddr (k := 1) rfl fo_89_1) ?_
        refine wl (ro_loadB rfl sc_3 (hX) (rfl)) ?_
        refine wl (ro_fieldAddr (k := 2) rfl fo_89_2) ?_
        refine wl (ro_loadB rfl sc_3 (hX) (rfl)) ?_
        refine wl_call rfl en_98 (cat98 ⟨hB, hH, hZ⟩ (by omega) (by omega) ha1 ha2 hb1 hb2 hma.2.1 hmb.2.1) ?_
        rintro _ w27 ⟨rfl, F27⟩
        replace hF := hF.thenDrew.thenN F27
        replace hB := F27.blkN hB
        replace hH := F27.blkN hH
        replace hZ := F27.blkN hZ
        replace hT := F27.blkN hT
        replace hX := F27.blkN hX
        refine wl (ro_move rfl) ?_
        refine wl (ro_extract rfl rfl) ?_
        refine wl (ro_extract rfl rfl) ?_
        refine wl (ro_assign rfl) ?_
        refine wl (ro_assign rfl) ?_
        refine wl_nil (x_blk (x_then ?_))
        exact ⟨_, _, by rw [hq]; exact mw_cat hma hmb, hB, hH, hZ, hT, hF, kp _ ⟨rfl, rfl, rfl, rfl, rfl, trivial⟩⟩
      clear hB hH hZ hT hF
      rintro a' w3 ⟨s, z, hMW, hB, hH, hZ, hT, hF, e, rfl⟩
      refine c_seq (fun K56 hK56 => ?_)
      refine c_seq (fun K57 hK57 => ?_)
      refine c_reg ?_ -- region 23 measure.go:39
      refine wl (ro_move rfl) ?_
      refine wl (ro_cmp (r := decide (s ≠ 2)) rfl rfl (congrArg some (bnec s 2))) ?_
      refine wl_nil (x_then (hK57 _ _ ?_))
      clear hK57 K57
      refine wc_cond rfl (fun hc86 => ?_) (fun hc86 => ?_)
      · try simp only [decide_eq_true_eq, decide_eq_false_iff_not, Bool.not_eq_true', Bool.not_eq_false', Bool.not_eq_eq_eq_not, Bool.not_true, Bool.not_false, beq_iff_eq, bne_iff_ne, ne_eq, beq_eq_false_iff_ne, bne_eq_false_iff_eq, gt_iff_lt, ge_iff_le, Int.not_lt, Int.not_le] at hc86
        have hms : MS (pt fh n (i64c s)) (pt fz n (i64c 1)) n r := ⟨s, 1, pt_same, pt_same, by omega, by omega, hMW.2.2.1, fun hw => ⟨(hMW.2.2.2 hw).1, by rw [zs0 (by rw [← (hMW.2.2.2 hw).1]; exact hc86)]⟩⟩
        refine c_reg ?_ -- region 24 measure.go:40
        refine wl (ro_assign rfl) ?_
        refine wl_nil (x_then (hK56 _ _ ?_))
        clear hK56 K56
        refine forget [(0, _), (1, _), (4, _), (6, _), (7, _)] ⟨rfl, rfl, rfl, rfl, rfl, trivial⟩ (fun e => ?_)
        refine c_seq (fun K58 hK58 => ?_)
        refine c_reg ?_ -- region 25 measure.go:42
        refine wl (ro_move rfl) ?_
        refine wl (ro_nilCheck rfl) ?_
        refine wl (ro_fieldAddr (k := 1) rfl fo_101_1) ?_
        refine wl (ro_loadB rfl sc_97 (hB) (rfl)) ?_
        refine wl (ro_move rfl) ?_
        refine wl (ro_move rfl) ?_
        refine wl (ro_indexAddr (et := 3) (k := 1) rfl rfl se_97 (rfl) ((by omega : n < 24))) ?_
        refine wl_put rfl rfl rfl sz_3 hH ((cel_lt (by omega))) ((cel_put n (by omega))) (fun w28 hH F28 => ?_)
        replace hF := hF.thenDrew.thenO F28 (by first | exact .inr (by omega) | exact .inl rfl | exact .inl (by assumption))
        replace hB := F28.blkO hB (by omega)
        replace hZ := F28.blkO hZ (by omega)
        replace hT := F28.blkO hT (by omega)
        refine wl_nil (x_then (hK58 _ _ ?_))
        clear hK58 K58
        refine c_reg ?_ -- region 26 measure.go:43
        refine wl (ro_move rfl) ?_
        refine wl (ro_nilCheck rfl) ?_
        refine wl (ro_fieldAddr (k := 2) rfl fo_101_2) ?_
        refine wl (ro_loadB rfl sc_97 (hB) (rfl)) ?_
        refine wl (ro_move rfl) ?_
        refine wl (ro_move rfl) ?_
        refine wl (ro_indexAddr (et := 3) (k := 1) rfl rfl se_97 (rfl) ((by omega : n < 24))) ?_
        refine wl_put rfl rfl rfl sz_3 hZ ((cel_lt (by omega))) ((cel_put n (by omega))) (fun w29 hZ F29 => ?_)
        replace hF := hF.thenDrew.thenO F29 (by first | exact .inr (by omega) | exact .inl rfl | exact .inl (by assumption))
        replace hB := F29.blkO hB (by omega)
        replace hH := F29.blkO hH (by omega)
        replace hT := F29.blkO hT (by omega)
        refine wl_nil (x_blk (x_then (hK4 _ _ ?_)))
        clear hK4 K4
        refine c_reg ?_ -- region 2 measure.go:15
        refine wl (ro_move rfl) ?_
        refine wl (ro_arith rfl rfl rfl (Go.IntWalk.i64_in _ (by omega))) ?_
        refine wl (ro_assign rfl) ?_
        refine wl_nil (x_then ?_)
        refine ⟨T.length - (n + 1), by omega, n + 1, _, _, rfl, by omega, hB, hH, hZ, hT, ?_, hF, kp _ ⟨rfl, rfl, rfl, trivial⟩⟩
        intro k q hk hkq
        by_cases hkn : k = n
        · subst hkn
          rw [hr] at hkq
          cases hkq
          exact hms
        · obtain ⟨s', z', h1, h2, h3⟩ := hall k q (by omega) hkq
          exact ⟨s', z', by rw [pt_ne hkn]; exact h1, by rw [pt_ne hkn]; exact h2, h3⟩
      · try simp only [decide_eq_true_eq, decide_eq_false_iff_not, Bool.not_eq_true', Bool.not_eq_false', Bool.not_eq_eq_eq_not, Bool.not_true, Bool.not_false, beq_iff_eq, bne_iff_ne, ne_eq, beq_eq_false_iff_ne, bne_eq_false_iff_eq, gt_iff_lt, ge_iff_le, Int.not_lt, Int.not_le] at hc86
        have hs2 : s = 2 := by omega
        have hms : MS (pt fh n (i64c s)) (pt fz n (i64c z)) n r := ⟨s, z, pt_same, pt_same, hMW.1, hMW.2.1, hMW.2.2.1, fun hw => ⟨(hMW.2.2.2 hw).1, (hMW.2.2.2 hw).2 hs2⟩⟩
        refine c_skip (x_then (hK56 _ _ ?_))
        clear hK56 K56
        refine forget [(0, _), (1, _), (4, _), (6, _), (7, _)] ⟨rfl, rfl, rfl, rfl, rfl, trivial⟩ (fun e => ?_)
        refine c_seq (fun K59 hK59 => ?_)
        refine c_reg ?_ -- region 25 measure.go:42
        refine wl (ro_move rfl) ?_
        refine wl (ro_nilCheck rfl) ?_
        refine wl (ro_fieldAddr (k := 1) rfl fo_101_1) ?_
        refine wl (ro_loadB rfl sc_97 (hB) (rfl)) ?_
        refine wl (ro_move rfl) ?_
        refine wl (ro_move rfl) ?_
        refine wl (ro_indexAddr (et := 3) (k := 1) rfl rfl se_97 (rfl) ((by omega : n < 24))) ?_
        refine wl_put rfl rfl rfl sz_3 hH ((cel_lt (by omega))) ((cel_put n (by omega))) (fun w30 hH F30 => ?_)
        replace hF := hF.thenDrew.thenO F30 (by first | exact .inr (by omega) | exact .inl rfl | exact .inl (by assumption))
        replace hB := F30.blkO hB (by omega)
        replace hZ := F30.blkO hZ (by omega)
        replace hT := F30.blkO hT (by omega)
        refine wl_nil (x_then (hK59 _ _ ?_))
        clear hK59 K59
        refine c_reg ?_ -- region 26 measure.go:43
        refine wl (ro_move rfl) ?_
        refine wl (ro_nilCheck rfl) ?_
        refine wl (ro_fieldAddr (k := 2) rfl fo_101_2) ?_
        refine wl (ro_loadB rfl sc_97 (hB) (rfl)) ?_
        refine wl (ro_move rfl) ?_
        refine wl (ro_move rfl) ?_
        refine wl (ro_indexAddr (et := 3) (k := 1) rfl rfl se_97 (rfl) ((by omega : n < 24))) ?_
        refine wl_put rfl rfl rfl sz_3 hZ ((cel_lt (by omega))) ((cel_put n (by omega))) (fun w31 hZ F31 => ?_)
        replace hF := hF.thenDrew.thenO F31 (by first | exact .inr (by omega) | exact .inl rfl | exact .inl (by assumption))
        replace hB := F31.blkO hB (by omega)
        replace hH := F31.blkO hH (by omega)
        replace hT := F31.blkO hT (by omega)
        refine wl_nil (x_blk (x_then (hK4 _ _ ?_)))
        clear hK4 K4
        refine c_reg ?_ -- region 2 measure.go:15
        refine wl (ro_move rfl) ?_
        refine wl (ro_arith rfl rfl rfl (Go.IntWalk.i64_in _ (by omega))) ?_
        refine wl (ro_assign rfl) ?_
        refine wl_nil (x_then ?_)
        refine ⟨T.length - (n + 1), by omega, n + 1, _, _, rfl, by omega, hB, hH, hZ, hT, ?_, hF, kp _ ⟨rfl, rfl, rfl, trivial⟩⟩
        intro k q hk hkq
        by_cases hkn : k = n
        · subst hkn
          rw [hr] at hkq
          cases hkq
          exact hms
        · obtain ⟨s', z', h1, h2, h3⟩ := hall k q (by omega) hkq
          exact ⟨s', z', by rw [pt_ne hkn]; exact h1, by rw [pt_ne hkn]; exact h2, h3⟩
    · skip
      obtain ⟨sa, za, ha1, ha2, hma⟩ := hall i x hi hia
      obtain ⟨sb, zb, hb1, hb2, hmb⟩ := hall j y hj hjb
      refine c_reg ?_ -- region 3 measure.go:16
      refine wl (ro_move rfl) ?_
      refine wl (ro_move rfl) ?_
      refine wl (ro_indexAddr (et := 89) (k := 11) rfl rfl se_98 (rfl) (hc11)) ?_
      refine wl (ro_loadAggB rfl ag_89 (hT) (rfl) (hld)) ?_
      refine wl_new (ze_89) (fun xb w32 hbxb hX F32 => ?_)
      have hbsxb := Nat.le_trans hF.size hbxb
      have hneB.sbxb : B.sb < xb := Nat.lt_of_lt_of_le hB.lt hbxb
      have hneB.hbxb : B.hb < xb := Nat.lt_of_lt_of_le hH.lt hbxb
      have hneB.zbxb : B.zb < xb := Nat.lt_of_lt_of_le hZ.lt hbxb
      have hnenbxb : nb < xb := Nat.lt_of_lt_of_le hT.lt hbxb
      replace hF := hF.thenDrew.thenN F32
      replace hB := F32.blkN hB
      replace hH := F32.blkN hH
      replace hZ := F32.blkN hZ
      replace hT := F32.blkN hT
      refine wl_puta rfl rfl (by simp [Value.oneCell', i64c, u64c, u8c, ptr]) sz_89 (rfl) hX ((by simp)) (rfl) (fun w33 hX F33 => ?_)
      replace hF := hF.thenDrew.thenO F33 (by first | exact .inr (by omega) | exact .inl rfl | exact .inl (by assumption))
      replace hB := F33.blkO hB (by omega)
      replace hH := F33.blkO hH (by omega)
      replace hZ := F33.blkO hZ (by omega)
      replace hT := F33.blkO hT (by omega)
      refine wl_nil (x_then (hK5 _ _ ?_))
      clear hK5 K5
      refine forget [(0, _), (1, _), (4, _), (5, _)] ⟨rfl, rfl, rfl, rfl, trivial⟩ (fun e => ?_)
      refine c_seq (fun K60 hK60 => ?_)
      refine c_reg ?_ -- region 4 measure.go:17
      refine wl (ro_assign rfl) ?_
      refine wl_nil (x_then (hK60 _ _ ?_))
      clear hK60 K60
      refine forget [(0, _), (1, _), (4, _), (5, _), (6, _)] ⟨rfl, rfl, rfl, rfl, rfl, trivial⟩ (fun e => ?_)
      refine c_seq (fun K61 hK61 => ?_)
      refine c_reg ?_ -- region 5 measure.go:18
      refine wl (ro_assign rfl) ?_
      refine wl_nil (x_then (hK61 _ _ ?_))
      clear hK61 K61
      refine c_mid (fun a' w' => ∃ (s z : Nat), MW r s z ∧ Blk w'.heap B.sb (B.cells no nw nr) 101 ∧ FB w'.heap B.hb 24 fh 3 ∧ FB w'.heap B.zb 24 fz 3 ∧ FB w'.heap nb (cap * 11) c 89 ∧ Fram (two B.hb B.zb) w w' ∧ ∃ e, a' = Fr 101 (upds e [(0, ptr B.sb), (1, .slice (some ⟨nb, 0, none⟩) T.length cap), (4, i64c n), (6, i64c s), (7, i64c z)]) []) ?_ ?_
      · skip
        refine c_seq (fun K62 hK62 => ?_)
        refine c_reg ?_ -- region 6 measure.go:19
        refine wl (ro_fieldAddr (k := 0) rfl fo_89_0) ?_
        refine wl (ro_loadB rfl sc_3 (by assumption) rfl) ?_
        refine wl_nil (x_then (hK62 _ _ ?_))
        clear hK62 K62
        refine c_block ?_
        refine forget [(0, _), (1, _), (4, _), (5, _), (6, _), (7, _), (19, _)] ⟨rfl, rfl, rfl, rfl, rfl, rfl, rfl, trivial⟩ (fun e => ?_)
        refine c_seq (fun K63 hK63 => ?_)
        refine c_reg ?_ -- region 7 measure.go:20
        refine wl (ro_cmp rfl rfl rfl) ?_
        refine wl (ro_assign rfl) ?_
        refine wl_nil (x_then (hK63 _ _ ?_))
        clear hK63 K63
        refine wc_condF rfl ?_
        refine c_seq (fun K64 hK64 => ?_)
        refine c_reg ?_ -- region 9 measure.go:22
        refine wl (ro_cmp rfl rfl rfl) ?_
        refine wl (ro_assign rfl) ?_
        refine wl_nil (x_then (hK64 _ _ ?_))
        clear hK64 K64
        refine wc_condF rfl ?_
        refine c_seq (fun K65 hK65 => ?_)
        refine c_reg ?_ -- region 12 measure.go:26
        refine wl (ro_cmp rfl rfl rfl) ?_
        refine wl (ro_assign rfl) ?_
        refine wl_nil (x_then (hK65 _ _ ?_))
        clear hK65 K65
        refine wc_condF rfl ?_
        refine c_seq (fun K66 hK66 => ?_)
        refine c_reg ?_ -- region 14 measure.go:28
        refine wl (ro_cmp rfl rfl rfl) ?_
        refine wl (ro_assign rfl) ?_
        refine wl_nil (x_then (hK66 _ _ ?_))
        clear hK66 K66
        refine wc_condT rfl ?_
        refine c_reg ?_ -- region 15 measure.go:29
        refine wl (ro_move rfl) ?_
        refine wl (ro_fieldAddr (k := 1) rfl fo_89_1) ?_
        refine wl (ro_loadB rfl sc_3 (hX) (rfl)) ?_
        refine wl (ro_fieldAddr (k := 2) rfl fo_89_2) ?_
        refine wl (ro_loadB rfl sc_3 (hX) (rfl)) ?_
        refine wl_call rfl en_99 (alt99 ⟨hB, hH, hZ⟩ (by omega) (by omega) ha1 ha2 hb1 hb2 hma.2.1 hmb.2.1) ?_
        rintro _ w34 ⟨rfl, F34⟩
        replace hF := hF.thenDrew.thenN F34
        replace hB := F34.blkN hB
        replace hH := F34.blkN hH
        replace hZ := F34.blkN hZ
        replace hT := F34.blkN hT
        replace hX := F34.blkN hX
        refine wl (ro_move rfl) ?_
        refine wl (ro_extract rfl rfl) ?_
        refine wl (ro_extract rfl rfl) ?_
        refine wl (ro_assign rfl) ?_
        refine wl (ro_assign rfl) ?_
        refine wl_nil (x_blk (x_then ?_))
        exact ⟨_, _, by rw [hq]; exact mw_alt hma hmb, hB, hH, hZ, hT, hF, kp _ ⟨rfl, rfl, rfl, rfl, rfl, trivial⟩⟩
      clear hB hH hZ hT hF
      rintro a' w3 ⟨s, z, hMW, hB, hH, hZ, hT, hF, e, rfl⟩
      refine c_seq (fun K67 hK67 => ?_)
      refine c_seq (fun K68 hK68 => ?_)
      refine c_reg ?_ -- region 23 measure.go:39
      refine wl (ro_move rfl) ?_
      refine wl (ro_cmp (r := decide (s ≠ 2)) rfl rfl (congrArg some (bnec s 2))) ?_
      refine wl_nil (x_then (hK68 _ _ ?_))
      clear hK68 K68
      refine wc_cond rfl (fun hc86 => ?_) (fun hc86 => ?_)
      · try simp only [decide_eq_true_eq, decide_eq_false_iff_not, Bool.not_eq_true', Bool.not_eq_false', Bool.not_eq_eq_eq_not, Bool.not_true, Bool.not_false, beq_iff_eq, bne_iff_ne, ne_eq, beq_eq_false_iff_ne, bne_eq_false_iff_eq, gt_iff_lt, ge_iff_le, Int.not_lt, Int.not_le] at hc86
        have hms : MS (pt fh n (i64c s)) (pt fz n (i64c 1)) n r := ⟨s, 1, pt_same, pt_same, by omega, by omega, hMW.2.2.1, fun hw => ⟨(hMW.2.2.2 hw).1, by rw [zs0 (by rw [← (hMW.2.2.2 hw).1]; exact hc86)]⟩⟩
        refine c_reg ?_ -- region 24 measure.go:40
        refine wl (ro_assign rfl) ?_
        refine wl_nil (x_then (hK67 _ _ ?_))
        clear hK67 K67
        refine forget [(0, _), (1, _), (4, _), (6, _), (7, _)] ⟨rfl, rfl, rfl, rfl, rfl, trivial⟩ (fun e => ?_)
        refine c_seq (fun K69 hK69 => ?_)
        refine c_reg ?_ -- region 25 measure.go:42
        refine wl (ro_move rfl) ?_
        refine wl (ro_nilCheck rfl) ?_
        refine wl (ro_fieldAddr (k := 1) rfl fo_101_1) ?_
        refine wl (ro_loadB rfl sc_97 (hB) (rfl)) ?_
        refine wl (ro_move rfl) ?_
        refine wl (ro_move rfl) ?_
        refine wl (ro_indexAddr (et := 3) (k := 1) rfl rfl se_97 (rfl) ((by omega : n < 24))) ?_
        refine wl_put rfl rfl rfl sz_3 hH ((cel_lt (by omega))) ((cel_put n (by omega))) (fun w35 hH F35 => ?_)
        replace hF := hF.thenDrew.thenO F35 (by first | exact .inr (by omega) | exact .inl rfl | exact .inl (by assumption))
        replace hB := F35.blkO hB (by omega)
        replace hZ := F35.blkO hZ (by omega)
        replace hT := F35.blkO hT (by omega)
        refine wl_nil (x_then (hK69 _ _ ?_))
        clear hK69 K69
        refine c_reg ?_ -- region 26 measure.go:43
        refine wl (ro_move rfl) ?_
        refine wl (ro_nilCheck rfl) ?_
        refine wl (ro_fieldAddr (k := 2) rfl fo_101_2) ?_
        refine wl (ro_loadB rfl sc_97 (hB) (rfl)) ?_
        refine wl (ro_move rfl) ?_
        refine wl (ro_move rfl) ?_
        refine wl (ro_indexAddr (et := 3) (k := 1) rfl rfl se_97 (rfl) ((by omega : n < 24))) ?_
        refine wl_put rfl rfl rfl sz_3 hZ ((cel_lt (by omega))) ((cel_put n (by omega))) (fun w36 hZ F36 => ?_)
        replace hF := hF.thenDrew.thenO F36 (by first | exact .inr (by omega) | exact .inl rfl | exact .inl (by assumption))
        replace hB := F36.blkO hB (by omega)
        replace hH := F36.blkO hH (by omega)
        replace hT := F36.blkO hT (by omega)
        refine wl_nil (x_blk (x_then (hK4 _ _ ?_)))
        clear hK4 K4
        refine c_reg ?_ -- region 2 measure.go:15
        refine wl (ro_move rfl) ?_
        refine wl (ro_arith rfl rfl rfl (Go.IntWalk.i64_in _ (by omega))) ?_
        refine wl (ro_assign rfl) ?_
        refine wl_nil (x_then ?_)
        refine ⟨T.length - (n + 1), by omega, n + 1, _, _, rfl, by omega, hB, hH, hZ, hT, ?_, hF, kp _ ⟨rfl, rfl, rfl, trivial⟩⟩
        intro k q hk hkq
        by_cases hkn : k = n
        · subst hkn
          rw [hr] at hkq
          cases hkq
          exact hms
        · obtain ⟨s', z', h1, h2, h3⟩ := hall k q (by omega) hkq
          exact ⟨s', z', by rw [pt_ne hkn]; exact h1, by rw [pt_ne hkn]; exact h2, h3⟩
      · try simp only [decide_eq_true_eq, decide_eq_false_iff_not, Bool.not_eq_true', Bool.not_eq_false', Bool.not_eq_eq_eq_not, Bool.not_true, Bool.not_false, beq_iff_eq, bne_iff_ne, ne_eq, beq_eq_false_iff_ne, bne_eq_false_iff_eq, gt_iff_lt, ge_iff_le, Int.not_lt, Int.not_le] at hc86
        have hs2 : s = 2 := by omega
        have hms : MS (pt fh n (i64c s)) (pt fz n (i64c z)) n r := ⟨s, z, pt_same, pt_same, hMW.1, hMW.2.1, hMW.2.2.1, fun hw => ⟨(hMW.2.2.2 hw).1, (hMW.2.2.2 hw).2 hs2⟩⟩
        refine c_skip (x_then (hK67 _ _ ?_))
        clear hK67 K67
        refine forget [(0, _), (1, _), (4, _), (6, _), (7, _)] ⟨rfl, rfl, rfl, rfl, rfl, trivial⟩ (fun e => ?_)
        refine c_seq (fun K70 hK70 => ?_)
        refine c_reg ?_ -- region 25 measure.go:42
        refine wl (ro_move rfl) ?_
        refine wl (ro_nilCheck rfl) ?_
        refine wl (ro_fieldAddr (k := 1) rfl fo_101_1) ?_
        refine wl (ro_loadB rfl sc_97 (hB) (rfl)) ?_
        refine wl (ro_move rfl) ?_
        refine wl (ro_move rfl) ?_
        refine wl (ro_indexAddr (et := 3) (k := 1) rfl rfl se_97 (rfl) ((by omega : n < 24))) ?_
        refine wl_put rfl rfl rfl sz_3 hH ((cel_lt (by omega))) ((cel_put n (by omega))) (fun w37 hH F37 => ?_)
        replace hF := hF.thenDrew.thenO F37 (by first | exact .inr (by omega) | exact .inl rfl | exact .inl (by assumption))
        replace hB := F37.blkO hB (by omega)
        replace hZ := F37.blkO hZ (by omega)
        replace hT := F37.blkO hT (by omega)
        refine wl_nil (x_then (hK70 _ _ ?_))
        clear hK70 K70
        refine c_reg ?_ -- region 26 measure.go:43
        refine wl (ro_move rfl) ?_
        refine wl (ro_nilCheck rfl) ?_
        refine wl (ro_fieldAddr (k := 2) rfl fo_101_2) ?_
        refine wl (ro_loadB rfl sc_97 (hB) (rfl)) ?_
        refine wl (ro_move rfl) ?_
        refine wl (ro_move rfl) ?_
        refine wl (ro_indexAddr (et := 3) (k := 1) rfl rfl se_97 (rfl) ((by omega : n < 24))) ?_
        refine wl_put rfl rfl rfl sz_3 hZ ((cel_lt (by omega))) ((cel_put n (by omega))) (fun w38 hZ F38 => ?_)
        replace hF := hF.thenDrew.thenO F38 (by first | exact .inr (by omega) | exact .inl rfl | exact .inl (by assumption))
        replace hB := F38.blkO hB (by omega)
        replace hH := F38.blkO hH (by omega)
        replace hT := F38.blkO hT (by omega)
        refine wl_nil (x_blk (x_then (hK4 _ _ ?_)))
        clear hK4 K4
        refine c_reg ?_ -- region 2 measure.go:15
        refine wl (ro_move rfl) ?_
        refine wl (ro_arith rfl rfl rfl (Go.IntWalk.i64_in _ (by omega))) ?_
        refine wl (ro_assign rfl) ?_
        refine wl_nil (x_then ?_)
        refine ⟨T.length - (n + 1), by omega, n + 1, _, _, rfl, by omega, hB, hH, hZ, hT, ?_, hF, kp _ ⟨rfl, rfl, rfl, trivial⟩⟩
        intro k q hk hkq
        by_cases hkn : k = n
        · subst hkn
          rw [hr] at hkq
          cases hkq
          exact hms
        · obtain ⟨s', z', h1, h2, h3⟩ := hall k q (by omega) hkq
          exact ⟨s', z', by rw [pt_ne hkn]; exact h1, by rw [pt_ne hkn]; exact h2, h3⟩
    · skip
      obtain ⟨sa, za, ha1, ha2, hma⟩ := hall i y hi hia
      refine c_reg ?_ -- region 3 measure.go:16
      refine wl (ro_move rfl) ?_
      refine wl (ro_move rfl) ?_
      refine wl (ro_indexAddr (et := 89) (k := 11) rfl rfl se_98 (rfl) (hc11)) ?_
      refine wl (ro_loadAggB rfl ag_89 (hT) (rfl) (hld)) ?_
      refine wl_new (ze_89) (fun xb w39 hbxb hX F39 => ?_)
      have hbsxb := Nat.le_trans hF.size hbxb
      have hneB.sbxb : B.sb < xb := Nat.lt_of_lt_of_le hB.lt hbxb
      have hneB.hbxb : B.hb < xb := Nat.lt_of_lt_of_le hH.lt hbxb
      have hneB.zbxb : B.zb < xb := Nat.lt_of_lt_of_le hZ.lt hbxb
      have hnenbxb : nb < xb := Nat.lt_of_lt_of_le hT.lt hbxb
      replace hF := hF.thenDrew.thenN F39
      replace hB := F39.blkN hB
      replace hH := F39.blkN hH
      replace hZ := F39.blkN hZ
      replace hT := F39.blkN hT
      refine wl_puta rfl rfl (by simp [Value.oneCell', i64c, u64c, u8c, ptr]) sz_89 (rfl) hX ((by simp)) (rfl) (fun w40 hX F40 => ?_)
      replace hF := hF.thenDrew.thenO F40 (by first | exact .inr (by omega) | exact .inl rfl | exact .inl (by assumption))
      replace hB := F40.blkO hB (by omega)
      replace hH := F40.blkO hH (by omega)
      replace hZ := F40.blkO hZ (by omega)
      replace hT := F40.blkO hT (by omega)
      refine wl_nil (x_then (hK5 _ _ ?_))
      clear hK5 K5
      refine forget [(0, _), (1, _), (4, _), (5, _)] ⟨rfl, rfl, rfl, rfl, trivial⟩ (fun e => ?_)
      refine c_seq (fun K71 hK71 => ?_)
      refine c_reg ?_ -- region 4 measure.go:17
      refine wl (ro_assign rfl) ?_
      refine wl_nil (x_then (hK71 _ _ ?_))
      clear hK71 K71
      refine forget [(0, _), (1, _), (4, _), (5, _), (6, _)] ⟨rfl, rfl, rfl, rfl, rfl, trivial⟩ (fun e => ?_)
      refine c_seq (fun K72 hK72 => ?_)
      refine c_reg ?_ -- region 5 measure.go:18
      refine wl (ro_assign rfl) ?_
      refine wl_nil (x_then (hK72 _ _ ?_))
      clear hK72 K72
      refine c_mid (fun a' w' => ∃ (s z : Nat), MW r s z ∧ Blk w'.heap B.sb (B.cells no nw nr) 101 ∧ FB w'.heap B.hb 24 fh 3 ∧ FB w'.heap B.zb 24 fz 3 ∧ FB w'.heap nb (cap * 11) c 89 ∧ Fram (two B.hb B.zb) w w' ∧ ∃ e, a' = Fr 101 (upds e [(0, ptr B.sb), (1, .slice (some ⟨nb, 0, none⟩) T.length cap), (4, i64c n), (6, i64c s), (7, i64c z)]) []) ?_ ?_
      · skip
        refine c_seq (fun K73 hK73 => ?_)
        refine c_reg ?_ -- region 6 measure.go:19
        refine wl (ro_fieldAddr (k := 0) rfl fo_89_0) ?_
        refine wl (ro_loadB rfl sc_3 (by assumption) rfl) ?_
        refine wl_nil (x_then (hK73 _ _ ?_))
        clear hK73 K73
        refine c_block ?_
        refine forget [(0, _), (1, _), (4, _), (5, _), (6, _), (7, _), (19, _)] ⟨rfl, rfl, rfl, rfl, rfl, rfl, rfl, trivial⟩ (fun e => ?_)
        refine c_seq (fun K74 hK74 => ?_)
        refine c_reg ?_ -- region 7 measure.go:20
        refine wl (ro_cmp rfl rfl rfl) ?_
        refine wl (ro_assign rfl) ?_
        refine wl_nil (x_then (hK74 _ _ ?_))
        clear hK74 K74
        refine wc_condF rfl ?_
        refine c_seq (fun K75 hK75 => ?_)
        refine c_reg ?_ -- region 9 measure.go:22
        refine wl (ro_cmp rfl rfl rfl) ?_
        refine wl (ro_assign rfl) ?_
        refine wl_nil (x_then (hK75 _ _ ?_))
        clear hK75 K75
        refine wc_condF rfl ?_
        refine c_seq (fun K76 hK76 => ?_)
        refine c_reg ?_ -- region 12 measure.go:26
        refine wl (ro_cmp rfl rfl rfl) ?_
        refine wl (ro_assign rfl) ?_
        refine wl_nil (x_then (hK76 _ _ ?_))
        clear hK76 K76
        refine wc_condF rfl ?_
        refine c_seq (fun K77 hK77 => ?_)
        refine c_reg ?_ -- region 14 measure.go:28
        refine wl (ro_cmp rfl rfl rfl) ?_
        refine wl (ro_assign rfl) ?_
        refine wl_nil (x_then (hK77 _ _ ?_))
        clear hK77 K77
        refine wc_condF rfl ?_
        refine c_seq (fun K78 hK78 => ?_)
        refine c_reg ?_ -- region 16 measure.go:30
        refine wl (ro_cmp rfl rfl rfl) ?_
        refine wl (ro_assign rfl) ?_
        refine wl_nil (x_then (hK78 _ _ ?_))
        clear hK78 K78
        refine wc_condF rfl ?_
        refine c_seq (fun K79 hK79 => ?_)
        refine c_reg ?_ -- region 21 measure.go:36
        refine wl (ro_cmp rfl rfl rfl) ?_
        refine wl (ro_assign rfl) ?_
        refine wl_nil (x_then (hK79 _ _ ?_))
        clear hK79 K79
        refine wc_condT rfl ?_
        refine c_reg ?_ -- region 22 measure.go:37
        refine wl (ro_move rfl) ?_
        refine wl (ro_fieldAddr (k := 1) rfl fo_89_1) ?_
        refine wl (ro_loadB rfl sc_3 (hX) (rfl)) ?_
        refine wl (ro_fieldAddr (k := 3) rfl fo_89_3) ?_
        refine wl (ro_loadB rfl sc_3 (hX) (rfl)) ?_
        refine wl (ro_fieldAddr (k := 4) rfl fo_89_4) ?_
        refine wl (ro_loadB rfl sc_3 (hX) (rfl)) ?_
        refine wl_call rfl en_101 (rep101 ⟨hB, hH, hZ⟩ (by omega) ha1 ha2 hma.2.1 hma.1 hcn.1 hcn.2) ?_
        rintro _ w41 ⟨rfl, F41⟩
        replace hF := hF.thenDrew.thenN F41
        replace hB := F41.blkN hB
        replace hH := F41.blkN hH
        replace hZ := F41.blkN hZ
        replace hT := F41.blkN hT
        replace hX := F41.blkN hX
        refine wl (ro_move rfl) ?_
        refine wl (ro_extract rfl rfl) ?_
        refine wl (ro_extract rfl rfl) ?_
        refine wl (ro_assign rfl) ?_
        refine wl (ro_assign rfl) ?_
        refine wl_nil (x_blk (x_then ?_))
        exact ⟨_, _, by rw [hq]; exact mw_rep hma hcn, hB, hH, hZ, hT, hF, kp _ ⟨rfl, rfl, rfl, rfl, rfl, trivial⟩⟩
      clear hB hH hZ hT hF
      rintro a' w3 ⟨s, z, hMW, hB, hH, hZ, hT, hF, e, rfl⟩
      refine c_seq (fun K80 hK80 => ?_)
      refine c_seq (fun K81 hK81 => ?_)
      refine c_reg ?_ -- region 23 measure.go:39
      refine wl (ro_move rfl) ?_
      refine wl (ro_cmp (r := decide (s ≠ 2)) rfl rfl (congrArg some (bnec s 2))) ?_
      refine wl_nil (x_then (hK81 _ _ ?_))
      clear hK81 K81
      refine wc_cond rfl (fun hc86 => ?_) (fun hc86 => ?_)
      · try simp only [decide_eq_true_eq, decide_eq_false_iff_not, Bool.not_eq_true', Bool.not_eq_false', Bool.not_eq_eq_eq_not, Bool.not_true, Bool.not_false, beq_iff_eq, bne_iff_ne, ne_eq, beq_eq_false_iff_ne, bne_eq_false_iff_eq, gt_iff_lt, ge_iff_le, Int.not_lt, Int.not_le] at hc86
        have hms : MS (pt fh n (i64c s)) (pt fz n (i64c 1)) n r := ⟨s, 1, pt_same, pt_same, by omega, by omega, hMW.2.2.1, fun hw => ⟨(hMW.2.2.2 hw).1, by rw [zs0 (by rw [← (hMW.2.2.2 hw).1]; exact hc86)]⟩⟩
        refine c_reg ?_ -- region 24 measure.go:40
        refine wl (ro_assign rfl) ?_
        refine wl_nil (x_then (hK80 _ _ ?_))
        clear hK80 K80
        refine forget [(0, _), (1, _), (4, _), (6, _), (7, _)] ⟨rfl, rfl, rfl, rfl, rfl, trivial⟩ (fun e => ?_)
        refine c_seq (fun K82 hK82 => ?_)
        refine c_reg ?_ -- region 25 measure.go:42
        refine wl (ro_move rfl) ?_
        refine wl (ro_nilCheck rfl) ?_
        refine wl (ro_fieldAddr (k := 1) rfl fo_101_1) ?_
        refine wl (ro_loadB rfl sc_97 (hB) (rfl)) ?_
        refine wl (ro_move rfl) ?_
        refine wl (ro_move rfl) ?_
        refine wl (ro_indexAddr (et := 3) (k := 1) rfl rfl se_97 (rfl) ((by omega : n < 24))) ?_
        refine wl_put rfl rfl rfl sz_3 hH ((cel_lt (by omega))) ((cel_put n (by omega))) (fun w42 hH F42 => ?_)
        replace hF := hF.thenDrew.thenO F42 (by first | exact .inr (by omega) | exact .inl rfl | exact .inl (by assumption))
        replace hB := F42.blkO hB (by omega)
        replace hZ := F42.blkO hZ (by omega)
        replace hT := F42.blkO hT (by omega)
        refine wl_nil (x_then (hK82 _ _ ?_))
        clear hK82 K82
        refine c_reg ?_ -- region 26 measure.go:43
        refine wl (ro_move rfl) ?_
        refine wl (ro_nilCheck rfl) ?_
        refine wl (ro_fieldAddr (k := 2) rfl fo_101_2) ?_
        refine wl (ro_loadB rfl sc_97 (hB) (rfl)) ?_
        refine wl (ro_move rfl) ?_
        refine wl (ro_move rfl) ?_
        refine wl (ro_indexAddr (et := 3) (k := 1) rfl rfl se_97 (rfl) ((by omega : n < 24))) ?_
        refine wl_put rfl rfl rfl sz_3 hZ ((cel_lt (by omega))) ((cel_put n (by omega))) (fun w43 hZ F43 => ?_)
        replace hF := hF.thenDrew.thenO F43 (by first | exact .inr (by omega) | exact .inl rfl | exact .inl (by assumption))
        replace hB := F43.blkO hB (by omega)
        replace hH := F43.blkO hH (by omega)
        replace hT := F43.blkO hT (by omega)
        refine wl_nil (x_blk (x_then (hK4 _ _ ?_)))
        clear hK4 K4
        refine c_reg ?_ -- region 2 measure.go:15
        refine wl (ro_move rfl) ?_
        refine wl (ro_arith rfl rfl rfl (Go.IntWalk.i64_in _ (by omega))) ?_
        refine wl (ro_assign rfl) ?_
        refine wl_nil (x_then ?_)
        refine ⟨T.length - (n + 1), by omega, n + 1, _, _, rfl, by omega, hB, hH, hZ, hT, ?_, hF, kp _ ⟨rfl, rfl, rfl, trivial⟩⟩
        intro k q hk hkq
        by_cases hkn : k = n
        · subst hkn
          rw [hr] at hkq
          cases hkq
          exact hms
        · obtain ⟨s', z', h1, h2, h3⟩ := hall k q (by omega) hkq
          exact ⟨s', z', by rw [pt_ne hkn]; exact h1, by rw [pt_ne hkn]; exact h2, h3⟩
      · try simp only [decide_eq_true_eq, decide_eq_false_iff_not, Bool.not_eq_true', Bool.not_eq_false', Bool.not_eq_eq_eq_not, Bool.not_true, Bool.not_false, beq_iff_eq, bne_iff_ne, ne_eq, beq_eq_false_iff_ne, bne_eq_false_iff_eq, gt_iff_lt, ge_iff_le, Int.not_lt, Int.not_le] at hc86
        have hs2 : s = 2 := by omega
        have hms : MS (pt fh n (i64c s)) (pt fz n (i64c z)) n r := ⟨s, z, pt_same, pt_same, hMW.1, hMW.2.1, hMW.2.2.1, fun hw => ⟨(hMW.2.2.2 hw).1, (hMW.2.2.2 hw).2 hs2⟩⟩
        refine c_skip (x_then (hK80 _ _ ?_))
        clear hK80 K80
        refine forget [(0, _), (1, _), (4, _), (6, _), (7, _)] ⟨rfl, rfl, rfl, rfl, rfl, trivial⟩ (fun e => ?_)
        refine c_seq (fun K83 hK83 => ?_)
        refine c_reg ?_ -- region 25 measure.go:42
        refine wl (ro_move rfl) ?_
        refine wl (ro_nilCheck rfl) ?_
        refine wl (ro_fieldAddr (k := 1) rfl fo_101_1) ?_
        refine wl (ro_loadB rfl sc_97 (hB) (rfl)) ?_
        refine wl (ro_move rfl) ?_
        refine wl (ro_move rfl) ?_
        refine wl (ro_indexAddr (et := 3) (k := 1) rfl rfl se_97 (rfl) ((by omega : n < 24))) ?_
        refine wl_put rfl rfl rfl sz_3 hH ((cel_lt (by omega))) ((cel_put n (by omega))) (fun w44 hH F44 => ?_)
        replace hF := hF.thenDrew.thenO F44 (by first | exact .inr (by omega) | exact .inl rfl | exact .inl (by assumption))
        replace hB := F44.blkO hB (by omega)
        replace hZ := F44.blkO hZ (by omega)
        replace hT := F44.blkO hT (by omega)
        refine wl_nil (x_then (hK83 _ _ ?_))
        clear hK83 K83
        refine c_reg ?_ -- region 26 measure.go:43
        refine wl (ro_move rfl) ?_
        refine wl (ro_nilCheck rfl) ?_
        refine wl (ro_fieldAddr (k := 2) rfl fo_101_2) ?_
        refine wl (ro_loadB rfl sc_97 (hB) (rfl)) ?_
        refine wl (ro_move rfl) ?_
        refine wl (ro_move rfl) ?_
        refine wl (ro_indexAddr (et := 3) (k := 1) rfl rfl se_97 (rfl) ((by omega : n < 24))) ?_
        refine wl_put rfl rfl rfl sz_3 hZ ((cel_lt (by omega))) ((cel_put n (by omega))) (fun w45 hZ F45 => ?_)
        replace hF := hF.thenDrew.thenO F45 (by first | exact .inr (by omega) | exact .inl rfl | exact .inl (by assumption))
        replace hB := F45.blkO hB (by omega)
        replace hH := F45.blkO hH (by omega)
        replace hT := F45.blkO hT (by omega)
        refine wl_nil (x_blk (x_then (hK4 _ _ ?_)))
        clear hK4 K4
        refine c_reg ?_ -- region 2 measure.go:15
        refine wl (ro_move rfl) ?_
        refine wl (ro_arith rfl rfl rfl (Go.IntWalk.i64_in _ (by omega))) ?_
        refine wl (ro_assign rfl) ?_
        refine wl_nil (x_then ?_)
        refine ⟨T.length - (n + 1), by omega, n + 1, _, _, rfl, by omega, hB, hH, hZ, hT, ?_, hF, kp _ ⟨rfl, rfl, rfl, trivial⟩⟩
        intro k q hk hkq
        by_cases hkn : k = n
        · subst hkn
          rw [hr] at hkq
          cases hkq
          exact hms
        · obtain ⟨s', z', h1, h2, h3⟩ := hall k q (by omega) hkq
          exact ⟨s', z', by rw [pt_ne hkn]; exact h1, by rw [pt_ne hkn]; exact h2, h3⟩
    · skip
      obtain ⟨sa, za, ha1, ha2, hma⟩ := hall i x hi hia
      refine c_reg ?_ -- region 3 measure.go:16
      refine wl (ro_move rfl) ?_
      refine wl (ro_move rfl) ?_
      refine wl (ro_indexAddr (et := 89) (k := 11) rfl rfl se_98 (rfl) (hc11)) ?_
      refine wl (ro_loadAggB rfl ag_89 (hT) (rfl) (hld)) ?_
      refine wl_new (ze_89) (fun xb w46 hbxb hX F46 => ?_)
      have hbsxb := Nat.le_trans hF.size hbxb
      have hneB.sbxb : B.sb < xb := Nat.lt_of_lt_of_le hB.lt hbxb
      have hneB.hbxb : B.hb < xb := Nat.lt_of_lt_of_le hH.lt hbxb
      have hneB.zbxb : B.zb < xb := Nat.lt_of_lt_of_le hZ.lt hbxb
      have hnenbxb : nb < xb := Nat.lt_of_lt_of_le hT.lt hbxb
      replace hF := hF.thenDrew.thenN F46
      replace hB := F46.blkN hB
      replace hH := F46.blkN hH
      replace hZ := F46.blkN hZ
      replace hT := F46.blkN hT
      refine wl_puta rfl rfl (by simp [Value.oneCell', i64c, u64c, u8c, ptr]) sz_89 (rfl) hX ((by simp)) (rfl) (fun w47 hX F47 => ?_)
      replace hF := hF.thenDrew.thenO F47 (by first | exact .inr (by omega) | exact .inl rfl | exact .inl (by assumption))
      replace hB := F47.blkO hB (by omega)
      replace hH := F47.blkO hH (by omega)
      replace hZ := F47.blkO hZ (by omega)
      replace hT := F47.blkO hT (by omega)
      refine wl_nil (x_then (hK5 _ _ ?_))
      clear hK5 K5
      refine forget [(0, _), (1, _), (4, _), (5, _)] ⟨rfl, rfl, rfl, rfl, trivial⟩ (fun e => ?_)
      refine c_seq (fun K84 hK84 => ?_)
      refine c_reg ?_ -- region 4 measure.go:17
      refine wl (ro_assign rfl) ?_
      refine wl_nil (x_then (hK84 _ _ ?_))
      clear hK84 K84
      refine forget [(0, _), (1, _), (4, _), (5, _), (6, _)] ⟨rfl, rfl, rfl, rfl, rfl, trivial⟩ (fun e => ?_)
      refine c_seq (fun K85 hK85 => ?_)
      refine c_reg ?_ -- region 5 measure.go:18
      refine wl (ro_assign rfl) ?_
      refine wl_nil (x_then (hK85 _ _ ?_))
      clear hK85 K85
      refine c_mid (fun a' w' => ∃ (s z : Nat), MW r s z ∧ Blk w'.heap B.sb (B.cells no nw nr) 101 ∧ FB w'.heap B.hb 24 fh 3 ∧ FB w'.heap B.zb 24 fz 3 ∧ FB w'.heap nb (cap * 11) c 89 ∧ Fram (two B.hb B.zb) w w' ∧ ∃ e, a' = Fr 101 (upds e [(0, ptr B.sb), (1, .slice (some ⟨nb, 0, none⟩) T.length cap), (4, i64c n), (6, i64c s), (7, i64c z)]) []) ?_ ?_
      · skip
        refine c_seq (fun K86 hK86 => ?_)
        refine c_reg ?_ -- region 6 measure.go:19
        refine wl (ro_fieldAddr (k := 0) rfl fo_89_0) ?_
        refine wl (ro_loadB rfl sc_3 (by assumption) rfl) ?_
        refine wl_nil (x_then (hK86 _ _ ?_))
        clear hK86 K86
        refine c_block ?_
        refine forget [(0, _), (1, _), (4, _), (5, _), (6, _), (7, _), (19, _)] ⟨rfl, rfl, rfl, rfl, rfl, rfl, rfl, trivial⟩ (fun e => ?_)
        refine c_seq (fun K87 hK87 => ?_)
        refine c_reg ?_ -- region 7 measure.go:20
        refine wl (ro_cmp rfl rfl rfl) ?_
        refine wl (ro_assign rfl) ?_
        refine wl_nil (x_then (hK87 _ _ ?_))
        clear hK87 K87
        refine wc_condF rfl ?_
        refine c_seq (fun K88 hK88 => ?_)
        refine c_reg ?_ -- region 9 measure.go:22
        refine wl (ro_cmp rfl rfl rfl) ?_
        refine wl (ro_assign rfl) ?_
        refine wl_nil (x_then (hK88 _ _ ?_))
        clear hK88 K88
        refine wc_condF rfl ?_
        refine c_seq (fun K89 hK89 => ?_)
        refine c_reg ?_ -- region 12 measure.go:26
        refine wl (ro_cmp rfl rfl rfl) ?_
        refine wl (ro_assign rfl) ?_
        refine wl_nil (x_then (hK89 _ _ ?_))
        clear hK89 K89
        refine wc_condF rfl ?_
        refine c_seq (fun K90 hK90 => ?_)
        refine c_reg ?_ -- region 14 measure.go:28
        refine wl (ro_cmp rfl rfl rfl) ?_
        refine wl (ro_assign rfl) ?_
        refine wl_nil (x_then (hK90 _ _ ?_))
        clear hK90 K90
        refine wc_condF rfl ?_
        refine c_seq (fun K91 hK91 => ?_)
        refine c_reg ?_ -- region 16 measure.go:30
        refine wl (ro_cmp rfl rfl rfl) ?_
        refine wl (ro_assign rfl) ?_
        refine wl_nil (x_then (hK91 _ _ ?_))
        clear hK91 K91
        refine wc_condT rfl ?_
        refine c_seq (fun K92 hK92 => ?_)
        refine c_pi [(0, false), (1, false), (2, false), (3, false), (4, false), (5, false), (6, false), (7, false), (8, false)] (SameH _) mixed (by kernel_rfl) rfl (by kernel_rfl) (po_then (po_blk (po_then (po_blk (po_then (po_then (po_blk (po_bp)))))))) (sameH_now _ _) ?_ -- region 17 measure.go:31
        refine pi_ro rfl (fun w hS => ro_move rfl) ?_
        refine pi_ro rfl (fun w hS => ro_nilCheck rfl) ?_
        refine pi_ro rfl (fun w hS => ro_fieldAddr (k := 1) rfl fo_101_1) ?_
        refine pi_ro rfl (fun w hS => ro_loadB rfl sc_97 (Blk.of_heap hB hS) (rfl)) ?_
        refine pi_ro rfl (fun w hS => ro_fieldAddr (k := 1) rfl fo_89_1) ?_
        refine pi_ro rfl (fun w hS => ro_loadB rfl sc_3 (Blk.of_heap hX hS) (rfl)) ?_
        refine pi_ro rfl (fun w hS => ro_indexAddr (et := 3) (k := 1) rfl rfl se_97 (rfl) ((by omega : i < 24))) ?_
        refine pi_ro rfl (fun w hS => ro_loadB rfl sc_3 (Blk.of_heap hH hS) (cel_at (by omega) (by omega) ha1)) ?_
        refine pi_ro rfl (fun w hS => ro_assign rfl) ?_
        refine pi_nil (x_then (hK92 _ _ ?_))
        clear hK92 K92
        refine forget [(0, _), (1, _), (4, _), (5, _), (6, _), (7, _)] ⟨rfl, rfl, rfl, rfl, rfl, rfl, trivial⟩ (fun e => ?_)
        refine c_seq (fun K93 hK93 => ?_)
        refine c_reg ?_ -- region 18 measure.go:32
        refine wl (ro_move rfl) ?_
        refine wl (ro_cmp (r := decide (sa ≠ 1)) rfl rfl (congrArg some (bnec sa 1))) ?_
        refine wl_nil (x_then (hK93 _ _ ?_))
        clear hK93 K93
        refine wc_cond rfl (fun hc61 => ?_) (fun hc61 => ?_)
        · try simp only [decide_eq_true_eq, decide_eq_false_iff_not, Bool.not_eq_true', Bool.not_eq_false', Bool.not_eq_eq_eq_not, Bool.not_true, Bool.not_false, beq_iff_eq, bne_iff_ne, ne_eq, beq_eq_false_iff_ne, bne_eq_false_iff_eq, gt_iff_lt, ge_iff_le, Int.not_lt, Int.not_le] at hc61
          have hg : grpM sa za = (2, min (za + 1) 32) := by unfold grpM; rw [if_neg hc61]
          refine c_seq (fun K94 hK94 => ?_)
          refine c_reg ?_ -- region 19 measure.go:33
          refine wl (ro_assign rfl) ?_
          refine wl_nil (x_then (hK94 _ _ ?_))
          clear hK94 K94
          refine c_pi [(0, false), (1, false), (2, false), (3, false), (4, false), (5, false), (6, false), (7, false), (8, false), (9, true), (10, false)] (SameH _) mixed (by kernel_rfl) rfl (by kernel_rfl) (po_blk (po_then (po_blk (po_then (po_then (po_blk (po_bp))))))) (sameH_now _ _) ?_ -- region 20 measure.go:34
          refine pi_ro rfl (fun w hS => ro_move rfl) ?_
          refine pi_ro rfl (fun w hS => ro_nilCheck rfl) ?_
          refine pi_ro rfl (fun w hS => ro_fieldAddr (k := 2) rfl fo_101_2) ?_
          refine pi_ro rfl (fun w hS => ro_loadB rfl sc_97 (Blk.of_heap hB hS) (rfl)) ?_
          refine pi_ro rfl (fun w hS => ro_fieldAddr (k := 1) rfl fo_89_1) ?_
          refine pi_ro rfl (fun w hS => ro_loadB rfl sc_3 (Blk.of_heap hX hS) (rfl)) ?_
          refine pi_ro rfl (fun w hS => ro_indexAddr (et := 3) (k := 1) rfl rfl se_97 (rfl) ((by omega : i < 24))) ?_
          refine pi_ro rfl (fun w hS => ro_loadB rfl sc_3 (Blk.of_heap hZ hS) (cel_at (by omega) (by omega) ha2)) ?_
          refine pi_ro rfl (fun w hS => ro_arith rfl rfl rfl (Go.IntWalk.i64_in _ (by omega))) ?_
          refine pi_call rfl rfl en_100 (lid100 (n := za + 1)) ?_
          rintro _ _ ⟨rfl, rfl⟩
          refine ⟨sameH_now _ _, ?_⟩
          refine pi_ro rfl (fun w hS => ro_assign rfl) ?_
          refine pi_nil (x_blk (x_then ?_))
          have hmw := mw_grp (g := g) hma
          rw [hg] at hmw
          first | exact ⟨2, min (za + 1) 32, by rw [hq]; exact hmw, hB, hH, hZ, hT, hF.thenDrew.thenDrew, kp _ ⟨rfl, rfl, rfl, rfl, rfl, trivial⟩⟩ | exact ⟨sa, 1, by rw [hq, hg1]; exact hmw, hB, hH, hZ, hT, hF.thenDrew, kp _ ⟨rfl, rfl, rfl, rfl, rfl, trivial⟩⟩
        · try simp only [decide_eq_true_eq, decide_eq_false_iff_not, Bool.not_eq_true', Bool.not_eq_false', Bool.not_eq_eq_eq_not, Bool.not_true, Bool.not_false, beq_iff_eq, bne_iff_ne, ne_eq, beq_eq_false_iff_ne, bne_eq_false_iff_eq, gt_iff_lt, ge_iff_le, Int.not_lt, Int.not_le] at hc61
          have hg1 : sa = 1 := by omega
          have hg : grpM sa za = (1, 1) := by unfold grpM; rw [if_pos hg1]
          refine c_skip (x_blk (x_then ?_))
          have hmw := mw_grp (g := g) hma
          rw [hg] at hmw
          first | exact ⟨2, min (za + 1) 32, by rw [hq]; exact hmw, hB, hH, hZ, hT, hF.thenDrew.thenDrew, kp _ ⟨rfl, rfl, rfl, rfl, rfl, trivial⟩⟩ | exact ⟨sa, 1, by rw [hq, hg1]; exact hmw, hB, hH, hZ, hT, hF.thenDrew, kp _ ⟨rfl, rfl, rfl, rfl, rfl, trivial⟩⟩
      clear hB hH hZ hT hF
      rintro a' w3 ⟨s, z, hMW, hB, hH, hZ, hT, hF, e, rfl⟩
      refine c_seq (fun K95 hK95 => ?_)
      refine c_seq (fun K96 hK96 => ?_)
      refine c_reg ?_ -- region 23 measure.go:39
      refine wl (ro_move rfl) ?_
      refine wl (ro_cmp (r := decide (s ≠ 2)) rfl rfl (congrArg some (bnec s 2))) ?_
      refine wl_nil (x_then (hK96 _ _ ?_))
      clear hK96 K96
      refine wc_cond rfl (fun hc86 => ?_) (fun hc86 => ?_)
      · try simp only [decide_eq_true_eq, decide_eq_false_iff_not, Bool.not_eq_true', Bool.not_eq_false', Bool.not_eq_eq_eq_not, Bool.not_true, Bool.not_false, beq_iff_eq, bne_iff_ne, ne_eq, beq_eq_false_iff_ne, bne_eq_false_iff_eq, gt_iff_lt, ge_iff_le, Int.not_lt, Int.not_le] at hc86
        have hms : MS (pt fh n (i64c s)) (pt fz n (i64c 1)) n r := ⟨s, 1, pt_same, pt_same, by omega, by omega, hMW.2.2.1, fun hw => ⟨(hMW.2.2.2 hw).1, by rw [zs0 (by rw [← (hMW.2.2.2 hw).1]; exact hc86)]⟩⟩
        refine c_reg ?_ -- region 24 measure.go:40
        refine wl (ro_assign rfl) ?_
        refine wl_nil (x_then (hK95 _ _ ?_))
        clear hK95 K95
        refine forget [(0, _), (1, _), (4, _), (6, _), (7, _)] ⟨rfl, rfl, rfl, rfl, rfl, trivial⟩ (fun e => ?_)
        refine c_seq (fun K97 hK97 => ?_)
        refine c_reg ?_ -- region 25 measure.go:42
        refine wl (ro_move rfl) ?_
        refine wl (ro_nilCheck rfl) ?_
        refine wl (ro_fieldAddr (k := 1) rfl fo_101_1) ?_
        refine wl (ro_loadB rfl sc_97 (hB) (rfl)) ?_
        refine wl (ro_move rfl) ?_
        refine wl (ro_move rfl) ?_
        refine wl (ro_indexAddr (et := 3) (k := 1) rfl rfl se_97 (rfl) ((by omega : n < 24))) ?_
        refine wl_put rfl rfl rfl sz_3 hH ((cel_lt (by omega))) ((cel_put n (by omega))) (fun w48 hH F48 => ?_)
        replace hF := hF.thenDrew.thenO F48 (by first | exact .inr (by omega) | exact .inl rfl | exact .inl (by assumption))
        replace hB := F48.blkO hB (by omega)
        replace hZ := F48.blkO hZ (by omega)
        replace hT := F48.blkO hT (by omega)
        refine wl_nil (x_then (hK97 _ _ ?_))
        clear hK97 K97
        refine c_reg ?_ -- region 26 measure.go:43
        refine wl (ro_move rfl) ?_
        refine wl (ro_nilCheck rfl) ?_
        refine wl (ro_fieldAddr (k := 2) rfl fo_101_2) ?_
        refine wl (ro_loadB rfl sc_97 (hB) (rfl)) ?_
        refine wl (ro_move rfl) ?_
        refine wl (ro_move rfl) ?_
        refine wl (ro_indexAddr (et := 3) (k := 1) rfl rfl se_97 (rfl) ((by omega : n < 24))) ?_
        refine wl_put rfl rfl rfl sz_3 hZ ((cel_lt (by omega))) ((cel_put n (by omega))) (fun w49 hZ F49 => ?_)
        replace hF := hF.thenDrew.thenO F49 (by first | exact .inr (by omega) | exact .inl rfl | exact .inl (by assumption))
        replace hB := F49.blkO hB (by omega)
        replace hH := F49.blkO hH (by omega)
        replace hT := F49.blkO hT (by omega)
        refine wl_nil (x_blk (x_then (hK4 _ _ ?_)))
        clear hK4 K4
        refine c_reg ?_ -- region 2 measure.go:15
        refine wl (ro_move rfl) ?_
        refine wl (ro_arith rfl rfl rfl (Go.IntWalk.i64_in _ (by omega))) ?_
        refine wl (ro_assign rfl) ?_
        refine wl_nil (x_then ?_)
        refine ⟨T.length - (n + 1), by omega, n + 1, _, _, rfl, by omega, hB, hH, hZ, hT, ?_, hF, kp _ ⟨rfl, rfl, rfl, trivial⟩⟩
        intro k q hk hkq
        by_cases hkn : k = n
        · subst hkn
          rw [hr] at hkq
          cases hkq
          exact hms
        · obtain ⟨s', z', h1, h2, h3⟩ := hall k q (by omega) hkq
          exact ⟨s', z', by rw [pt_ne hkn]; exact h1, by rw [pt_ne hkn]; exact h2, h3⟩
      · try simp only [decide_eq_true_eq, decide_eq_false_iff_not, Bool.not_eq_true', Bool.not_eq_false', Bool.not_eq_eq_eq_not, Bool.not_true, Bool.not_false, beq_iff_eq, bne_iff_ne, ne_eq, beq_eq_false_iff_ne, bne_eq_false_iff_eq, gt_iff_lt, ge_iff_le, Int.not_lt, Int.not_le] at hc86
        have hs2 : s = 2 := by omega
        have hms : MS (pt fh n (i64c s)) (pt fz n (i64c z)) n r := ⟨s, z, pt_same, pt_same, hMW.1, hMW.2.1, hMW.2.2.1, fun hw => ⟨(hMW.2.2.2 hw).1, (hMW.2.2.2 hw).2 hs2⟩⟩
        refine c_skip (x_then (hK95 _ _ ?_))
        clear hK95 K95
        refine forget [(0, _), (1, _), (4, _), (6, _), (7, _)] ⟨rfl, rfl, rfl, rfl, rfl, trivial⟩ (fun e => ?_)
        refine c_seq (fun K98 hK98 => ?_)
        refine c_reg ?_ -- region 25 measure.go:42
        refine wl (ro_move rfl) ?_
        refine wl (ro_nilCheck rfl) ?_
        refine wl (ro_fieldAddr (k := 1) rfl fo_101_1) ?_
        refine wl (ro_loadB rfl sc_97 (hB) (rfl)) ?_
        refine wl (ro_move rfl) ?_
        refine wl (ro_move rfl) ?_
        refine wl (ro_indexAddr (et := 3) (k := 1) rfl rfl se_97 (rfl) ((by omega : n < 24))) ?_
        refine wl_put rfl rfl rfl sz_3 hH ((cel_lt (by omega))) ((cel_put n (by omega))) (fun w50 hH F50 => ?_)
        replace hF := hF.thenDrew.thenO F50 (by first | exact .inr (by omega) | exact .inl rfl | exact .inl (by assumption))
        replace hB := F50.blkO hB (by omega)
        replace hZ := F50.blkO hZ (by omega)
        replace hT := F50.blkO hT (by omega)
        refine wl_nil (x_then (hK98 _ _ ?_))
        clear hK98 K98
        refine c_reg ?_ -- region 26 measure.go:43
        refine wl (ro_move rfl) ?_
        refine wl (ro_nilCheck rfl) ?_
        refine wl (ro_fieldAddr (k := 2) rfl fo_101_2) ?_
        refine wl (ro_loadB rfl sc_97 (hB) (rfl)) ?_
        refine wl (ro_move rfl) ?_
        refine wl (ro_move rfl) ?_
        refine wl (ro_indexAddr (et := 3) (k := 1) rfl rfl se_97 (rfl) ((by omega : n < 24))) ?_
        refine wl_put rfl rfl rfl sz_3 hZ ((cel_lt (by omega))) ((cel_put n (by omega))) (fun w51 hZ F51 => ?_)
        replace hF := hF.thenDrew.thenO F51 (by first | exact .inr (by omega) | exact .inl rfl | exact .inl (by assumption))
        replace hB := F51.blkO hB (by omega)
        replace hH := F51.blkO hH (by omega)
        replace hT := F51.blkO hT (by omega)
        refine wl_nil (x_blk (x_then (hK4 _ _ ?_)))
        clear hK4 K4
        refine c_reg ?_ -- region 2 measure.go:15
        refine wl (ro_move rfl) ?_
        refine wl (ro_arith rfl rfl rfl (Go.IntWalk.i64_in _ (by omega))) ?_
        refine wl (ro_assign rfl) ?_
        refine wl_nil (x_then ?_)
        refine ⟨T.length - (n + 1), by omega, n + 1, _, _, rfl, by omega, hB, hH, hZ, hT, ?_, hF, kp _ ⟨rfl, rfl, rfl, trivial⟩⟩
        intro k q hk hkq
        by_cases hkn : k = n
        · subst hkn
          rw [hr] at hkq
          cases hkq
          exact hms
        · obtain ⟨s', z', h1, h2, h3⟩ := hall k q (by omega) hkq
          exact ⟨s', z', by rw [pt_ne hkn]; exact h1, by rw [pt_ne hkn]; exact h2, h3⟩
  · try simp only [decide_eq_true_eq, decide_eq_false_iff_not, Bool.not_eq_true', Bool.not_eq_false', Bool.not_eq_eq_eq_not, Bool.not_true, Bool.not_false, beq_iff_eq, bne_iff_ne, ne_eq, beq_eq_false_iff_ne, bne_eq_false_iff_eq, gt_iff_lt, ge_iff_le, Int.not_lt, Int.not_le] at hc11
    refine c_exit (x_thenX (x_thenX (x_blkX ?_)))
    refine bp_end Tryz.results71 rfl ?_
    exact ⟨rfl, ⟨fh, fz, ⟨hB, hH, hZ⟩, fun k r hk => hall k r (by have := (List.getElem?_eq_some_iff.1 hk).1; omega) hk⟩, hF⟩

end Go.Proofs.Qxb6500567aGreat
