import Derived.Test.Qxb6500567aGreatKb
/- The lock-step machine: add. -/
namespace Go.Proofs.Qxb6500567aGreat
set_option linter.unusedVariables false
set_option linter.unusedSimpArgs false

/-- Frames that may be played. -/
def FrmOK (p : List Ins) : Frm → Prop
  | .inl pc => pc < p.length
  | .inr (k, _) => k < 8

theorem follow_ok {p : List Ins} {n i pc : Nat} {l l' : List Ent} {st st' : List Frm} {reg reg' : List Int} (hp : PrgOK p) (h : follow p n i l st reg pc = ⟨l', st', reg'⟩) (hs : ∀ x ∈ st, FrmOK p x) : ∀ x ∈ st', FrmOK p x := by
  have key : (follow p n i l st reg pc).st = st' := by rw [h]
  have go : ∀ q (s : List Frm), q < p.length → (∀ x ∈ s, FrmOK p x) → ∀ x ∈ (Sum.inl q : Frm) :: s, FrmOK p x := by
    intro q s hq hs x hx
    rcases List.mem_cons.1 hx with rfl | hx
    · exact hq
    · exact hs x hx
  unfold follow at key
  cases hx : p[pc]? with
  | none => rw [hx] at key; simp only at key; subst key; exact hs
  | some y =>
    rw [hx] at key
    have hok := hp.ok pc y hx
    rcases y with S | ⟨a, b⟩ | a | a | ⟨⟩ | ⟨⟩ | ⟨⟩
    · simp only at key; subst key; exact hs
    · simp only at key; subst key
      exact go a _ hok.1 (go b _ hok.2 hs)
    · simp only at key; subst key
      exact go a _ hok hs
    · simp only at key; subst key
      refine go _ _ hok.1 ?_
      intro x hx
      rcases List.mem_cons.1 hx with rfl | hx
      · exact hok.2.2
      · exact hs x hx
    · simp only at key; subst key
      split
      · exact go _ _ hok hs
      · exact hs
    · simp only at key; subst key
      split
      · exact go _ _ hok hs
      · exact hs
    · simp only at key; subst key; exact hs

theorem frc_cells (x : Frm) : ∀ u ∈ frc x, u.oneCell' = true := by
  rcases x with x | ⟨k, v⟩
  · intro u hu
    simp only [frc, List.mem_cons, List.not_mem_nil, or_false] at hu
    rcases hu with rfl | rfl | rfl <;> rfl
  · intro u hu
    simp only [frc, List.mem_cons, List.not_mem_nil, or_false] at hu
    rcases hu with rfl | rfl | rfl <;> rfl

theorem SV.load {sf : Nat → Value} {st : List Frm} {x : Frm} (h : SV sf (st ++ [x])) (hl : st.length < 65) : ((cel 195 sf).drop (0 + st.length * 3)).take 3 = frc x := by
  rw [cel_sub (by omega), Nat.zero_add]
  exact h.top

set_option maxHeartbeats 8000000 in
theorem add64 {w : World} {P : PK} {i n at0 pc gb z : Nat} {f h sf : Nat → Value} {p : List Ins} {l l' : List Ent} {reg : List Int} (ho : PKo P) (M : AM w P i f h sf p l [] reg z) (hi : i < 2) (hG : PGB w.heap gb (insL p)) (hp : PrgOK p) (hpc : pc < p.length) (hadd : AddR p n at0 l pc reg l') (hz : z ≤ 100000000) (hat : at0 ≤ 300) (hnl : n ≤ 300) :
    Ret Tryz.prog 64 [ptr P.pb, pgs gb p.length, i64c n, i64c i, i64c pc, i64c at0] w (fun v w' => v = .tuple #[] ∧ (∃ f' h' sf' z', z' ≤ z + 200 ∧ AM w' P i f' h' sf' p l' [] reg z' ∧ (∀ j l2, j < 2 → j ≠ i → LV f j l2 → LV f' j l2)) ∧ PGB w'.heap gb (insL p) ∧ Fram (fset P i) w w') := by
  have hF : Fram (fset P i) w w := Fram.refl _ _
  obtain ⟨hB, hC, hK, hR, hA, hL, hcp, hsv, hr8⟩ := M
  have o1 := (ho.mid hi).1
  have o2 := (ho.mid hi).2
  have o3 := ho.d
  have hple := hp.le
  have hgb : gb ≠ P.pb := fun e => by rw [e] at hG; exact absurd (hG.uniq hB).2 (by decide)
  have hgc : gb ≠ P.c i := fun e => by rw [e] at hG; exact absurd (hG.uniq hC).2 (by decide)
  have hgs : gb ≠ P.st := fun e => by rw [e] at hG; exact absurd (hG.uniq hK).2 (by decide)
  have hgr : gb ≠ P.rg := fun e => by rw [e] at hG; exact absurd (hG.uniq hR).2 (by decide)
  have hm1 : fset P i P.pb := .inl rfl
  have hm2 : fset P i P.rg := .inr (.inr (.inr rfl))
  obtain ⟨m0, hm0⟩ := hadd
  have hA0 : AF P (pt f 261 (i64c 0)) 0 z := hA.sp'
  have hL0 : LV (pt f 261 (i64c 0)) i l := hL.pt hi (by omega)
  refine ret_of Tryz.func64 rfl Tryz.ntmps64 rfl ?_
  refine c_seq (fun K1 hK1 => ?_)
  refine c_reg ?_ -- region 0 machine.go:82
  refine wl (ro_move rfl) ?_
  refine wl (ro_nilCheck rfl) ?_
  refine wl (ro_fieldAddr (k := 261) rfl fo_108_2) ?_
  refine wl_put rfl rfl rfl sz_3 hB ((cel_lt (by omega))) ((cel_put 261 (by omega))) (fun w1 hB F1 => ?_)
  replace hF := hF.thenDrew.thenO F1 (by first | exact .inr (by omega) | exact .inl rfl | exact .inl (by assumption))
  replace hC := F1.blkO hC (by omega)
  replace hK := F1.blkO hK (by omega)
  replace hR := F1.blkO hR (by omega)
  replace hG := F1.blkO hG (by omega)
  refine wl_nil (x_then (hK1 _ _ ?_))
  clear hK1 K1
  refine forget [(0, _), (1, _), (2, _), (3, _), (4, _), (5, _)] ⟨rfl, rfl, rfl, rfl, rfl, rfl, trivial⟩ (fun e => ?_)
  refine c_seq (fun K2 hK2 => ?_)
  refine c_reg ?_ -- region 1 machine.go:83
  refine wl (ro_move rfl) ?_
  refine wl (ro_move rfl) ?_
  refine wl_call rfl en_85 (push85 (sp := 0) (c := 0) hB hK hA0.st hA0.sp (by omega) (by omega)) ?_
  rintro _ w3 ⟨rfl, hB, hK, F3⟩
  replace hF := hF.transG F3 (by intro k hk h; simp only [one, two, none', fset] at h ⊢ <;> omega)
  replace hC := F3.blkF hC (by intro h; simp only [one, two, none', fset] at h <;> omega)
  replace hR := F3.blkF hR (by intro h; simp only [one, two, none', fset] at h <;> omega)
  replace hG := F3.blkF hG (by intro h; simp only [one, two, none', fset] at h <;> omega)
  have hA1 : AF P (pt (pt f 261 (i64c 0)) 261 (i64c (0 + 1 : Nat))) [(Sum.inl pc : Frm)].length z := hA0.sp'
  have hL1 := hL0.pt (v := i64c (0 + 1 : Nat)) (q := 261) hi (by omega)
  have hsv1 : SV (pts sf (0 * 3) [i64c pc, icv (-1), icv 0]) [(Sum.inl pc : Frm)] := (SV.nil sf).push (.inl pc)
  have hll := hL.len
  refine wl_nil (x_then (hK2 _ _ ?_))
  clear hK2 K2
  refine c_block ?_
  -- loop@r2: live slots [0, 1, 2, 3, 5]
  refine c_loopG (fun m a' w' => ∃ (l1 : List Ent) (S : List Frm) (reg1 : List Int) (f1 h1 sf1 : Nat → Value) (z1 : Nat), arun p n at0 m ⟨l1, S.reverse, reg1⟩ = some ⟨l', [], reg⟩ ∧ AM w' P i f1 h1 sf1 p l1 S reg1 z1 ∧ S.length ≤ 1 + l1.length ∧ z1 + S.length + 2 * (64 - l1.length) ≤ z + 129 ∧ (∀ x ∈ S, FrmOK p x) ∧ (∀ j l2, j < 2 → j ≠ i → LV f j l2 → LV f1 j l2) ∧ PGB w'.heap gb (insL p) ∧ Fram (fset P i) w w' ∧ ∃ e, a' = Fr 76 (upds e [(0, ptr P.pb), (1, pgs gb p.length), (2, i64c n), (3, i64c i), (5, i64c at0)]) []) m0 ⟨l, [.inl pc], reg, _, h, _, z, hm0, ⟨hB, hC, hK, hR, hA1, hL1, hcp, hsv1, hr8⟩, by simp, by simp; omega, fun x hx ↦ by simp at hx; subst hx; exact hpc, fun j l2 h1 h2 h3 ↦ (h3.pt h1 (by omega)).pt h1 (by omega), hG, hF, kp _ ⟨rfl, rfl, rfl, rfl, rfl, trivial⟩⟩ ?_
  clear hB hC hK hR hG hF hA hL hcp hsv hr8 hA0 hL0 hA1 hL1 hsv1 hm0
  rintro m a' w1 ⟨l1, S, reg1, f1, h1, sf1, z1, hrun, ⟨hB, hC, hK, hR, hA, hL, hcp, hsv, hr8⟩, hst, hzz, hfo, hot, hG, hF, e, rfl⟩
  have hll := hL.len
  refine c_seq (fun K3 hK3 => ?_)
  refine c_seq (fun K4 hK4 => ?_)
  refine c_reg ?_ -- region 2 machine.go:84
  refine wl (ro_move rfl) ?_
  refine wl (ro_nilCheck rfl) ?_
  refine wl (ro_fieldAddr (k := 261) rfl fo_108_2) ?_
  refine wl (ro_loadB rfl sc_3 (hB) (cel_at (by omega) (by omega) hA.sp)) ?_
  refine wl (ro_cmp (r := decide (0 < S.length)) rfl rfl (congrArg some (decide_eq_decide.2 (by show ((S.length : Nat) : Int) > 0 ↔ _; omega)))) ?_
  refine wl_nil (x_then (hK4 _ _ ?_))
  clear hK4 K4
  refine wc_cond rfl (fun hc24 => ?_) (fun hc24 => ?_)
  · try simp only [decide_eq_true_eq, decide_eq_false_iff_not, Bool.not_eq_true', Bool.not_eq_false', Bool.not_eq_eq_eq_not, Bool.not_true, Bool.not_false, beq_iff_eq, bne_iff_ne, ne_eq, beq_eq_false_iff_ne, bne_eq_false_iff_eq, gt_iff_lt, ge_iff_le, Int.not_lt, Int.not_le] at hc24
    obtain ⟨S', x, rfl⟩ : ∃ S' x, S = S' ++ [x] := by
      rcases List.eq_nil_or_concat S with h | ⟨L, b, h⟩
      · rw [h] at hc24; simp at hc24
      · exact ⟨L, b, by rw [h, List.concat_eq_append]⟩
    have hx3 : (∃ q, x = .inl q ∧ q ∈ pcs l1) ∨ (∃ q, x = .inl q ∧ q ∉ pcs l1) ∨ ∃ k v, x = .inr (k, v) := by
      rcases x with q | ⟨k, v⟩
      · by_cases hon : q ∈ pcs l1
        · exact .inl ⟨q, rfl, hon⟩
        · exact .inr (.inl ⟨q, rfl, hon⟩)
      · exact .inr (.inr ⟨k, v, rfl⟩)
    have hlen1 : (S' ++ [x]).length = S'.length + 1 := by simp
    rw [hlen1] at hst hzz
    have hxo := hfo x (by simp)
    have hfo' : ∀ y ∈ S', FrmOK p y := fun y hy => hfo y (List.mem_append_left _ hy)
    obtain ⟨m', rfl⟩ : ∃ m', m = m' + 1 := by
      cases m with
      | zero => rw [List.reverse_append] at hrun; simp [arun] at hrun
      | succ m' => exact ⟨m', rfl⟩
    rw [List.reverse_append, List.reverse_singleton, List.singleton_append] at hrun
    have hld := hsv.load (by omega)
    have hsv' := hsv.pop
    have hA2 : AF P (pt f1 265 (i64c (z1 + 1 : Nat))) (S' ++ [x]).length (z1 + 1) := hA.z'
    have hA3 : AF P (pt (pt f1 265 (i64c (z1 + 1 : Nat))) 261 (i64c S'.length)) S'.length (z1 + 1) := hA2.sp'
    have hL3 : LV (pt (pt f1 265 (i64c (z1 + 1 : Nat))) 261 (i64c S'.length)) i l1 := (hL.pt hi (by omega)).pt hi (by omega)
    have hot3 : ∀ j l2, j < 2 → j ≠ i → LV f j l2 → LV (pt (pt f1 265 (i64c (z1 + 1 : Nat))) 261 (i64c S'.length)) j l2 := fun j l2 h1 h2 h3 => ((hot j l2 h1 h2 h3).pt h1 (by omega)).pt h1 (by omega)
    refine c_skip (x_then (hK3 _ _ ?_))
    clear hK3 K3
    refine c_block ?_
    refine forget [(0, _), (1, _), (2, _), (3, _), (5, _)] ⟨rfl, rfl, rfl, rfl, rfl, trivial⟩ (fun e => ?_)
    refine c_seq (fun K5 hK5 => ?_)
    refine c_reg ?_ -- region 3 machine.go:85
    refine wl (ro_move rfl) ?_
    refine wl (ro_nilCheck rfl) ?_
    refine wl (ro_fieldAddr (k := 265) rfl fo_108_6) ?_
    refine wl (ro_loadB rfl sc_3 (hB) (cel_at (by omega) (by omega) hA.z)) ?_
    refine wl (ro_arith (r := ((z1 + 1 : Nat) : Int)) rfl rfl rfl (Go.IntWalk.i64_in _ (by omega))) ?_
    refine wl (ro_nilCheck rfl) ?_
    refine wl (ro_fieldAddr (k := 265) rfl fo_108_6) ?_
    refine wl_put rfl rfl rfl sz_3 hB ((cel_lt (by omega))) ((cel_put 265 (by omega))) (fun w2 hB F2 => ?_)
    replace hF := hF.thenDrew.thenO F2 (by first | exact .inr (by omega) | exact .inl rfl | exact .inl (by assumption))
    replace hC := F2.blkO hC (by omega)
    replace hK := F2.blkO hK (by omega)
    replace hR := F2.blkO hR (by omega)
    replace hG := F2.blkO hG (by omega)
    refine wl_nil (x_then (hK5 _ _ ?_))
    clear hK5 K5
    refine forget [(0, _), (1, _), (2, _), (3, _), (5, _)] ⟨rfl, rfl, rfl, rfl, rfl, trivial⟩ (fun e => ?_)
    refine c_seq (fun K6 hK6 => ?_)
    refine c_reg ?_ -- region 4 machine.go:86
    refine wl (ro_move rfl) ?_
    refine wl (ro_nilCheck rfl) ?_
    refine wl (ro_fieldAddr (k := 261) rfl fo_108_2) ?_
    refine wl (ro_loadB rfl sc_3 (hB) (cel_at (by omega) (by omega) hA2.sp)) ?_
    refine wl (ro_arith (r := (S'.length : Int)) rfl rfl (congrArg some (by rw [hlen1]; omega)) (Go.IntWalk.i64_in _ (by omega))) ?_
    refine wl (ro_nilCheck rfl) ?_
    refine wl (ro_fieldAddr (k := 261) rfl fo_108_2) ?_
    refine wl_put rfl rfl rfl sz_3 hB ((cel_lt (by omega))) ((cel_put 261 (by omega))) (fun w3 hB F3 => ?_)
    replace hF := hF.thenDrew.thenO F3 (by first | exact .inr (by omega) | exact .inl rfl | exact .inl (by assumption))
    replace hC := F3.blkO hC (by omega)
    replace hK := F3.blkO hK (by omega)
    replace hR := F3.blkO hR (by omega)
    replace hG := F3.blkO hG (by omega)
    refine wl_nil (x_then (hK6 _ _ ?_))
    clear hK6 K6
    refine forget [(0, _), (1, _), (2, _), (3, _), (5, _)] ⟨rfl, rfl, rfl, rfl, rfl, trivial⟩ (fun e => ?_)
    refine c_seq (fun K7 hK7 => ?_)
    refine c_piL 11 [(0, false), (1, false), (2, false), (3, false), (4, false), (5, false), (6, false), (7, false), (8, false), (9, false), (10, true)] (fun w' => FB w'.heap P.pb 266 (pt (pt f1 265 (i64c (z1 + 1 : Nat))) 261 (i64c S'.length)) 108 ∧ FB w'.heap P.st 195 sf1 182) mixed (by kernel_rfl) rfl (by kernel_rfl) (po_then (po_blk (po_then (po_blk (po_bp))))) (⟨hB, hK⟩) ?_ -- region 5 machine.go:87
    refine ql_ro rfl (fun w hS => ro_move rfl) ?_
    refine ql_ro rfl (fun w hS => ro_nilCheck rfl) ?_
    refine ql_ro rfl (fun w hS => ro_fieldAddr (k := 260) rfl fo_108_1) ?_
    refine ql_ro rfl (fun w hS => ro_loadB rfl sc_106 (hS.1) (cel_at (by omega) (by omega) hA3.st)) ?_
    refine ql_ro rfl (fun w hS => ro_move rfl) ?_
    refine ql_ro rfl (fun w hS => ro_nilCheck rfl) ?_
    refine ql_ro rfl (fun w hS => ro_fieldAddr (k := 261) rfl fo_108_2) ?_
    refine ql_ro rfl (fun w hS => ro_loadB rfl sc_3 (hS.1) (cel_at (by omega) (by omega) hA3.sp)) ?_
    refine ql_ro rfl (fun w hS => ro_indexAddr (et := 182) (k := 3) rfl rfl se_106 (rfl) ((by omega : S'.length < 65))) ?_
    refine ql_ro rfl (fun w hS => ro_loadAggB rfl ag_182 (hS.2) ((frc_len x)) (hld)) ?_
    refine ql_new rfl ze_182 (fun w1 F ↦ ⟨F.blkN hB, F.blkN hK⟩) ?_
    intro xb w4 hbxb hX F4
    have hbsxb := Nat.le_trans hF.size hbxb
    have hneP.pbxb : P.pb < xb := Nat.lt_of_lt_of_le hB.lt hbxb
    have hneP.cixb : P.c i < xb := Nat.lt_of_lt_of_le hC.lt hbxb
    have hneP.stxb : P.st < xb := Nat.lt_of_lt_of_le hK.lt hbxb
    have hneP.rgxb : P.rg < xb := Nat.lt_of_lt_of_le hR.lt hbxb
    have hnegbxb : gb < xb := Nat.lt_of_lt_of_le hG.lt hbxb
    replace hF := hF.thenDrew.thenN F4
    replace hB := F4.blkN hB
    replace hC := F4.blkN hC
    replace hK := F4.blkN hK
    replace hR := F4.blkN hR
    replace hG := F4.blkN hG
    refine ql_puta rfl rfl rfl ((frc_cells x)) sz_182 ((frc_len x)) hX ((by simp)) ((show _ = frc x by simp [frc_len])) (fun w5 hX F5 => ?_)
    replace hF := hF.thenDrew.thenO F5 (by first | exact .inr (by omega) | exact .inl rfl | exact .inl (by assumption))
    replace hB := F5.blkO hB (by omega)
    replace hC := F5.blkO hC (by omega)
    replace hK := F5.blkO hK (by omega)
    replace hR := F5.blkO hR (by omega)
    replace hG := F5.blkO hG (by omega)
    refine x_then (hK7 _ _ ?_)
    clear hK7 K7
    refine forget [(0, _), (1, _), (2, _), (3, _), (5, _), (12, _)] ⟨rfl, rfl, rfl, rfl, rfl, rfl, trivial⟩ (fun e => ?_)
    refine c_seq (fun K8 hK8 => ?_)
    rcases hx3 with ⟨q, rfl, hon⟩ | ⟨q, rfl, hon⟩ | ⟨k, v, rfl⟩
    · skip
      have hq : q < p.length := hxo
      have hrun' : arun p n at0 m' ⟨l1, S'.reverse, reg1⟩ = some ⟨l', [], reg⟩ := by
        simp only [arun] at hrun
        rw [if_pos hon] at hrun
        exact hrun
      refine c_reg ?_ -- region 6 machine.go:88
      refine wl (ro_fieldAddr (k := 1) rfl fo_182_1) ?_
      refine wl (ro_loadB rfl sc_3 (hX) (rfl)) ?_
      refine wl (ro_cmp (r := false) rfl rfl rfl) ?_
      refine wl_nil (x_then (hK8 _ _ ?_))
      clear hK8 K8
      refine wc_condF rfl ?_
      refine c_seq (fun K9 hK9 => ?_)
      refine c_reg ?_ -- region 8 machine.go:91
      refine wl (ro_move rfl) ?_
      refine wl (ro_move rfl) ?_
      refine wl (ro_fieldAddr (k := 0) rfl fo_182_0) ?_
      refine wl (ro_loadB rfl sc_3 (hX) ((show _ = some (i64c q) from rfl))) ?_
      refine wl_call rfl en_86 (has86 hB hA3 hi hL3 (show q < 64 by omega)) ?_
      rintro _ _ ⟨hv, rfl⟩
      rw [decide_eq_true hon] at hv
      subst hv
      refine wl (ro_assign rfl) ?_
      refine wl_nil (x_then (hK9 _ _ ?_))
      clear hK9 K9
      refine forget [(0, _), (1, _), (2, _), (3, _), (5, _), (12, _), (13, _)] ⟨rfl, rfl, rfl, rfl, rfl, rfl, rfl, trivial⟩ (fun e => ?_)
      refine c_seq (fun K10 hK10 => ?_)
      refine c_reg ?_ -- region 9 machine.go:92
      refine wl (ro_move rfl) ?_
      refine wl (ro_not rfl) ?_
      refine wl_nil (x_then (hK10 _ _ ?_))
      clear hK10 K10
      refine wc_condF rfl ?_
      refine c_skip (x_blk (x_then ?_))
      exact ⟨m', by omega, l1, S', reg1, _, h1, sf1, z1 + 1, hrun', ⟨hB, hC, hK, hR, hA3, hL3, hcp, hsv', hr8⟩, by omega, by omega, hfo', hot3, hG, hF, kp _ ⟨rfl, rfl, rfl, rfl, rfl, trivial⟩⟩
    · skip
      have hq : q < p.length := hxo
      have hrun' : arun p n at0 m' (follow p n at0 l1 S'.reverse reg1 q) = some ⟨l', [], reg⟩ := by
        simp only [arun] at hrun
        rw [if_neg hon] at hrun
        exact hrun
      refine c_reg ?_ -- region 6 machine.go:88
      refine wl (ro_fieldAddr (k := 1) rfl fo_182_1) ?_
      refine wl (ro_loadB rfl sc_3 (hX) (rfl)) ?_
      refine wl (ro_cmp (r := false) rfl rfl rfl) ?_
      refine wl_nil (x_then (hK8 _ _ ?_))
      clear hK8 K8
      refine wc_condF rfl ?_
      refine c_seq (fun K11 hK11 => ?_)
      refine c_reg ?_ -- region 8 machine.go:91
      refine wl (ro_move rfl) ?_
      refine wl (ro_move rfl) ?_
      refine wl (ro_fieldAddr (k := 0) rfl fo_182_0) ?_
      refine wl (ro_loadB rfl sc_3 (hX) ((show _ = some (i64c q) from rfl))) ?_
      refine wl_call rfl en_86 (has86 hB hA3 hi hL3 (show q < 64 by omega)) ?_
      rintro _ _ ⟨hv, rfl⟩
      rw [decide_eq_false hon] at hv
      subst hv
      refine wl (ro_assign rfl) ?_
      refine wl_nil (x_then (hK11 _ _ ?_))
      clear hK11 K11
      refine forget [(0, _), (1, _), (2, _), (3, _), (5, _), (12, _), (13, _)] ⟨rfl, rfl, rfl, rfl, rfl, rfl, rfl, trivial⟩ (fun e => ?_)
      refine c_seq (fun K12 hK12 => ?_)
      refine c_reg ?_ -- region 9 machine.go:92
      refine wl (ro_move rfl) ?_
      refine wl (ro_not rfl) ?_
      refine wl_nil (x_then (hK12 _ _ ?_))
      clear hK12 K12
      refine wc_condT rfl ?_
      refine c_reg ?_ -- region 10 machine.go:93
      refine wl (ro_move rfl) ?_
      refine wl (ro_move rfl) ?_
      refine wl (ro_move rfl) ?_
      refine wl (ro_move rfl) ?_
      refine wl (ro_fieldAddr (k := 0) rfl fo_182_0) ?_
      refine wl (ro_loadB rfl sc_3 (hX) ((show _ = some (i64c q) from rfl))) ?_
      refine wl (ro_move rfl) ?_
      refine wl_call rfl en_87 (follow87 ho ⟨hB, hC, hK, hR, hA3, hL3, hcp, hsv', hr8⟩ hi hG hp hq hon (by omega) hat hnl) ?_
      rintro _ w4 ⟨rfl, ⟨f4, h4, sf4, l4, S4, reg4, hfw, hl4, hs4, M4, hot4⟩, hG, F4⟩
      replace hF := hF.trans F4
      rw [hfw] at hrun'
      have hfo4 : ∀ y ∈ S4, FrmOK p y := fun y hy => follow_ok hp hfw (fun y hy => hfo' y (List.mem_reverse.1 hy)) y (List.mem_reverse.2 hy)
      have hl44 := M4.lv.len
      refine wl_nil (x_blk (x_then ?_))
      exact ⟨m', by omega, l4, S4, reg4, f4, h4, sf4, z1 + 1, hrun', M4, by omega, by omega, hfo4, fun j l2 h1 h2 h3 ↦ hot4 j l2 h1 h2 (hot3 j l2 h1 h2 h3), hG, hF, kp _ ⟨rfl, rfl, rfl, rfl, rfl, trivial⟩⟩
    · skip
      have hk8 : k < 8 := hxo
      have hrun' : arun p n at0 m' ⟨l1, S'.reverse, reg1.set k v⟩ = some ⟨l', [], reg⟩ := hrun
      refine c_reg ?_ -- region 6 machine.go:88
      refine wl (ro_fieldAddr (k := 1) rfl fo_182_1) ?_
      refine wl (ro_loadB rfl sc_3 (hX) (rfl)) ?_
      refine wl (ro_cmp (r := true) rfl rfl (congrArg some (bne_iff_ne.2 (show ((k : Nat) : Int) ≠ -1 by omega)))) ?_
      refine wl_nil (x_then (hK8 _ _ ?_))
      clear hK8 K8
      refine wc_condT rfl ?_
      refine c_piL 9 [(0, false), (1, false), (2, false), (3, false), (4, false), (5, false), (6, false), (7, false), (8, false)] (SameH _) mixed (by kernel_rfl) rfl (by kernel_rfl) (po_blk (po_then (po_blk (po_bp)))) (sameH_now _ _) ?_ -- region 7 machine.go:89
      refine ql_ro rfl (fun w hS => ro_move rfl) ?_
      refine ql_ro rfl (fun w hS => ro_nilCheck rfl) ?_
      refine ql_ro rfl (fun w hS => ro_fieldAddr (k := 262) rfl fo_108_3) ?_
      refine ql_ro rfl (fun w hS => ro_loadB rfl sc_97 (Blk.of_heap hB hS) (cel_at (by omega) (by omega) hA3.rg)) ?_
      refine ql_ro rfl (fun w hS => ro_fieldAddr (k := 1) rfl fo_182_1) ?_
      refine ql_ro rfl (fun w hS => ro_loadB rfl sc_3 (Blk.of_heap hX hS) ((show _ = some (i64c k) from rfl))) ?_
      refine ql_ro rfl (fun w hS => ro_fieldAddr (k := 2) rfl fo_182_2) ?_
      refine ql_ro rfl (fun w hS => ro_loadB rfl sc_3 (Blk.of_heap hX hS) ((show _ = some (icv v) from rfl))) ?_
      refine ql_ro rfl (fun w hS => ro_indexAddr (et := 3) (k := 1) rfl rfl se_97 (rfl) (hk8)) ?_
      refine ql_put rfl rfl rfl rfl sz_3 hR ((cel_lt (by omega))) ((cel_put k (by omega))) (fun w6 hR F6 => ?_)
      replace hF := hF.thenDrew.thenO F6 (by first | exact .inr (by omega) | exact .inl rfl | exact .inl (by assumption))
      replace hB := F6.blkO hB (by omega)
      replace hC := F6.blkO hC (by omega)
      replace hK := F6.blkO hK (by omega)
      replace hG := F6.blkO hG (by omega)
      replace hX := F6.blkO hX (by omega)
      refine x_blk (x_then ?_)
      exact ⟨m', by omega, l1, S', reg1.set k v, _, h1, sf1, z1 + 1, hrun', ⟨hB, hC, hK, by rw [rgv_set (by omega)]; exact hR, hA3, hL3, hcp, hsv', by rw [List.length_set]; exact hr8⟩, by omega, by omega, hfo', hot3, hG, hF, kp _ ⟨rfl, rfl, rfl, rfl, rfl, trivial⟩⟩
  · try simp only [decide_eq_true_eq, decide_eq_false_iff_not, Bool.not_eq_true', Bool.not_eq_false', Bool.not_eq_eq_eq_not, Bool.not_true, Bool.not_false, beq_iff_eq, bne_iff_ne, ne_eq, beq_eq_false_iff_ne, bne_eq_false_iff_eq, gt_iff_lt, ge_iff_le, Int.not_lt, Int.not_le] at hc24
    refine c_exit (x_thenX (x_thenX (x_blkX ?_)))
    refine bp_end Tryz.results64 rfl ?_
    have hs0 : S = [] := List.length_eq_zero_iff.1 (by omega)
    subst hs0
    rw [List.reverse_nil, arun_nil] at hrun
    cases hrun
    exact ⟨rfl, ⟨f1, h1, sf1, z1, by omega, ⟨hB, hC, hK, hR, hA, hL, hcp, hsv, hr8⟩, hot⟩, hG, hF⟩

end Go.Proofs.Qxb6500567aGreat
