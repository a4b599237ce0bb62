import Derived.Test.Qxb6500568aGreatDoorJb
/- The compiler: numeric loops (written by tools/mk_zs.py). -/
namespace Go.Proofs.Qxb6500568aGreatDoor
open Ieee
set_option linter.unusedVariables false
set_option linter.unusedSimpArgs false
set_option linter.unusedSectionVars false

theorem one_eq : fInt 1 = 4607182418800017408 := by decide
section
variable {E : ZEnv} {S : Fns} {f : ZAct} {q : List ZAct} {N : List Nat} {B B' : Nat}
theorem FX.con (h : FX E S f q N B) {v : PV} (hv : KOK v) (hB : B' + kb v ≤ B) : FX E (conF f.j v S).2 f q N B' := by
  have hm := (conF_mo (v := v) h.jl h.ch).1
  obtain ⟨hb, ht, -⟩ := conF_bd h.bd h.jl hv
  exact ⟨hm.ch, h.fit.mo hm, hb, h.L, h.cp, by have := h.tt; omega, by have := h.lq; omega, h.lb, h.g0⟩
end
/-- the code of a numeric loop. -/
theorem cat5 {f A R T Z c1 d1 c2 d2 c3 : Cod} {x y : Nat × Nat} (h1 : c1 = f ++ A) (h2 : d1 = c1 ++ [x]) (h3 : c2 = d1 ++ R) (h4 : d2 = c2 ++ [y]) (h5 : c3 = d2 ++ T) : f ++ (A ++ [x] ++ R ++ [y] ++ T ++ Z) = c3 ++ Z := by
  rw [h5, h4, h3, h2, h1]
  simp
theorem cat5b {f A R Z c1 d1 c2 d2 c3 : Cod} {x y t : Nat × Nat} (h1 : c1 = f ++ A) (h2 : d1 = c1 ++ [x]) (h3 : c2 = d1 ++ R) (h4 : d2 = c2 ++ [y]) (h5 : c3 = d2 ++ [t]) : f ++ (A ++ [x] ++ R ++ [y, t] ++ Z) = c3 ++ Z := by
  rw [h5, h4, h3, h2, h1]
  simp
theorem for_code {c3 c4 c4j c5 B1 c6 c7 c8 : Cod} {b : Nat} (h4 : c4 = c3 ++ [(6, b + 2)] ++ [(30, b)] ++ [(31, b)]) (h4j : c4j = c4 ++ [(22, 65535)]) (h5 : c5 = c4j ++ [(5, b)] ++ [(6, b + 3)]) (h6 : c6 = c5 ++ B1) (h7 : c7 = c6 ++ [(29, b + 3)] ++ [(5, b), (5, b + 2), (15, 1), (6, b), (21, c3.length + 2)]) (h8 : c8 = setX c7 c4.length c7.length) : pch c8 (hp c5.length B1) c8.length ++ [(29, b)] = c3 ++ numTail b c3.length (B1.map (holeF (c3.length + 6 + B1.length + 6))) := by
  have e1 : ∀ K, setX c7 c4.length K = c4 ++ [(22, K)] ++ ([(5, b), (6, b + 3)] ++ B1 ++ [(29, b + 3), (5, b), (5, b + 2), (15, 1), (6, b), (21, c3.length + 2)]) := fun K => by
    rw [h7, h6, h5, h4j, show c4 ++ [(22, 65535)] ++ [(5, b)] ++ [(6, b + 3)] ++ B1 ++ [(29, b + 3)] ++ [(5, b), (5, b + 2), (15, 1), (6, b), (21, c3.length + 2)] = c4 ++ [(22, 65535)] ++ ([(5, b), (6, b + 3)] ++ B1 ++ [(29, b + 3), (5, b), (5, b + 2), (15, 1), (6, b), (21, c3.length + 2)]) by simp]
    exact setX_mid
  have hl7 : c7.length = c3.length + 6 + B1.length + 6 := by rw [h7, h6, h5, h4j, h4]; simp; omega
  have hl8 : c8.length = c7.length := by rw [h8, setX_len]
  have hl5 : c5.length = (c4 ++ [(22, c7.length)] ++ [(5, b), (6, b + 3)]).length := by rw [h5, h4j]; simp
  rw [hl8, hl5, hl7]
  rw [e1, hl7] at h8
  have e2 : ∀ K, pch c8 (hp (c4 ++ [(22, c3.length + 6 + B1.length + 6)] ++ [(5, b), (6, b + 3)]).length B1) K = c4 ++ [(22, c3.length + 6 + B1.length + 6)] ++ [(5, b), (6, b + 3)] ++ B1.map (holeF K) ++ [(29, b + 3), (5, b), (5, b + 2), (15, 1), (6, b), (21, c3.length + 2)] := fun K => by
    rw [h8, ← pch_hp K [(29, b + 3), (5, b), (5, b + 2), (15, 1), (6, b), (21, c3.length + 2)] B1 (c4 ++ [(22, c3.length + 6 + B1.length + 6)] ++ [(5, b), (6, b + 3)])]
    congr 1
    simp
  rw [e2, h4]
  unfold numTail
  simp
section
variable {E : ZEnv} {w : World} {ow : Nat → Nat} {O : List Nat} {S : Fns} {f : ZAct} {q : List ZAct}
set_option maxHeartbeats 32000000 in
theorem count193b {s : Str} {a l b : Tr} (ha : XE a) (hl : XE l) (hb : XB b true) {n pn : Nat} {cs : List Value} (hcs : cs = ndc (nd E.G n, pn)) (hR : CM E w ow O S (f :: q)) (hs : (nd E.G n).S = s) (hi1 : IsE E.G (nd E.G n).A a) (hi2 : IsE E.G (nd E.G (nd E.G n).A).Nx l) (hn3 : (nd E.G (nd E.G (nd E.G n).A).Nx).Nx = 0) (hi4 : IsSL E.G (nd E.G n).B b) (hw4 : f.L.length + 4 ≤ 12) (hw1 : W a false f.L.length) (hw2 : W l false (f.L.length + 1)) (hwb : W b true (f.L.length + 4)) (hp1 : PaT E.pa a f.j) (hp2 : PaT E.pa l f.j) (hp4 : PaT E.pa b f.j) (hx0 : FX E S f q (numsT a ++ (numsT l ++ (numsT b ++ []))) (100 * ndT a + (100 * ndT l + (100 * ndT b + 90)))) :
    Ret Tryz.prog 193 [fptr E f.j, .agg cs.toArray] w (fun r w' => r = .tuple #[] ∧ ZP E w ow (O ++ numsT (St.for2 s a l b)) (cmp (St.for2 s a l b) 0 (chn (f :: q)) (lpB f.lps) f.code.length S).2 (⟨f.j, f.L, f.code ++ (cmp (St.for2 s a l b) 0 (chn (f :: q)) (lpB f.lps) f.code.length S).1 65535, f.lps⟩ :: q) w') := by
  have hAl := hi1.lt
  have hBl := hi2.lt
  have hF : Fram (tg ow cpT) w w := Fram.refl _ _
  have hX : Xt w ow ow := Xt.refl _ _
  subst hcs
  obtain ⟨gn, capn, ln_, env, hN, khN, hcapn, hrow⟩ := hR.nodes hx0.g0.1
  have hcl : 3 * f.code.length ≤ 31000 := hx0.clen
  have hL12 := hx0.L
  have hjl := hx0.jl
  have hjl9 := hjl
  refine retd_of Tryz.func193 rfl Tryz.ntmps193 rfl ?_
  refine c_np ?_
  refine c_seq (fun K1 hK1 => ?_)
  refine c_reg ?_ -- region 0 stmt.go:99
  refine wl_box rfl rfl (fun b3 w1 hbb3 h3 F1 => ?_)
  have hbsb3 := Nat.le_trans hF.size hbb3
  have hnegnb3 : gn < b3 := Nat.lt_of_lt_of_le hN.lt hbb3
  have kh3 := hR.df b3 hbb3
  replace hF := hF.thenDrew.thenN F1
  replace hR := hR.thruN ((Fram.refl none' _).thenDrew.thenN F1)
  replace hN := F1.blkN hN
  have h3 : Blk (w1).heap b3 (ndc (nd E.G n, pn)) 148 := h3
  unfold ndc at h3
  rw [hs] at h3
  refine wl_nil (x_then (hK1 _ _ ?_))
  clear hK1 K1
  refine forget [(0, _), (3, _)] ⟨rfl, rfl, trivial⟩ (fun e => ?_)
  refine c_seq (fun K2 hK2 => ?_)
  obtain ⟨R_, z_, op⟩ := hR.open (f := f) (by simp)
  have hG := op.B
  have hC := hR.cb
  have khG := hR.ta
  have khC := hR.tc
  refine c_reg ?_ -- region 1 stmt.go:100
  refine wl (ro_move rfl) ?_
  refine wl (ro_nilCheck rfl) ?_
  refine wl (ro_fieldAddr (k := 3) rfl fo_199_3) ?_
  refine wl (ro_loadB rfl sc_192 hG (op.row 3 (by decide))) ?_
  refine wl (ro_lenL rfl se_192) ?_
  refine wl (ro_assign rfl) ?_
  have hG9 := hG
  refine wl_nil (x_then (hK2 _ _ ?_))
  clear hK2 K2
  refine forget [(0, _), (3, _), (4, _)] ⟨rfl, rfl, rfl, trivial⟩ (fun e => ?_)
  refine c_seq (fun K3 hK3 => ?_)
  refine c_reg ?_ -- region 2 stmt.go:101
  refine wl (ro_move rfl) ?_
  refine wl (ro_move rfl) ?_
  refine wl_deferA rfl ?_
  refine wl_nil (x_then (hK3 _ _ ?_))
  clear hK3 K3
  refine forget [(0, _), (3, _), (4, _)] ⟨rfl, rfl, rfl, trivial⟩ (fun e => ?_)
  refine c_seq (fun K4 hK4 => ?_)
  refine c_reg ?_ -- region 3 stmt.go:102
  refine wl (ro_move rfl) ?_
  refine wl (ro_conv rfl sc_3 in_201 (Go.IntWalk.u16_in _ (by omega))) ?_
  refine wl (ro_assign rfl) ?_
  refine wl_nil (x_then (hK4 _ _ ?_))
  clear hK4 K4
  refine forget [(0, _), (3, _), (4, _), (5, _)] ⟨rfl, rfl, rfl, rfl, trivial⟩ (fun e => ?_)
  refine c_seq (fun K5 hK5 => ?_)
  obtain ⟨pa, hpa9⟩ := hrow _ hAl
  obtain ⟨pb, hpb9⟩ := hrow _ hBl
  obtain ⟨R_, z_, op⟩ := hR.open (f := f) (by simp)
  have hG := op.B
  have hC := hR.cb
  have khG := hR.ta
  have khC := hR.tc
  rw [env] at hC
  refine c_pi [(0, false), (1, false), (2, false), (3, false), (4, false), (5, false), (6, false), (7, false), (8, false), (9, false), (10, false), (11, false), (12, false)] (SameH _) mixed (by kernel_rfl) rfl (by kernel_rfl) (po_then (po_np)) (sameH_now _ _) ?_ -- region 4 stmt.go:103
  refine pi_ro rfl (fun w hS => ro_move rfl) ?_
  refine pi_ro rfl (fun w hS => ro_nilCheck rfl) ?_
  refine pi_ro rfl (fun w hS => ro_fieldAddr (k := 0) rfl fo_199_0) ?_
  refine pi_ro rfl (fun w hS => ro_loadB rfl sc_22 (Blk.of_heap hG hS) (op.row 0 (by decide))) ?_
  refine pi_ro rfl (fun w hS => ro_nilCheck rfl) ?_
  refine pi_ro rfl (fun w hS => ro_fieldAddr (k := 2) rfl fo_94_2) ?_
  refine pi_ro rfl (fun w hS => ro_loadB rfl sc_77 (Blk.of_heap hC hS) rfl) ?_
  refine pi_ro rfl (fun w hS => ro_fieldAddr (k := 1) rfl fo_148_1) ?_
  refine pi_ro rfl (fun w hS => ro_loadB rfl sc_3 (Blk.of_heap h3 hS) rfl) ?_
  refine pi_ro rfl (fun w hS => ro_indexAddr (et := 148) (k := 8) rfl rfl se_77 (rfl) (hAl)) ?_
  refine pi_ro rfl (fun w hS => ro_fieldAddr (k := 4) rfl fo_148_4) ?_
  refine pi_ro rfl (fun w hS => ro_loadB rfl sc_3 (Blk.of_heap hN hS) (row_get hpa9 (by decide))) ?_
  refine pi_ro rfl (fun w hS => ro_assign rfl) ?_
  refine pi_nil (x_then (hK5 _ _ ?_))
  clear hK5 K5
  refine forget [(0, _), (3, _), (4, _), (5, _), (6, _)] ⟨rfl, rfl, rfl, rfl, rfl, trivial⟩ (fun e => ?_)
  refine c_seq (fun K6 hK6 => ?_)
  refine c_reg ?_ -- region 5 stmt.go:104
  refine wl (ro_move rfl) ?_
  refine wl (ro_nilCheck rfl) ?_
  refine wl (ro_fieldAddr (k := 0) rfl fo_199_0) ?_
  refine wl (ro_loadB rfl sc_22 hG (op.row 0 (by decide))) ?_
  refine wl (ro_nilCheck rfl) ?_
  refine wl (ro_fieldAddr (k := 2) rfl fo_94_2) ?_
  refine wl (ro_loadB rfl sc_77 (hC) rfl) ?_
  refine wl (ro_move rfl) ?_
  refine wl (ro_indexAddr (et := 148) (k := 8) rfl rfl se_77 (rfl) (hBl)) ?_
  refine wl (ro_fieldAddr (k := 4) rfl fo_148_4) ?_
  refine wl (ro_loadB rfl sc_3 (hN) (row_get hpb9 (by decide))) ?_
  refine wl (ro_assign rfl) ?_
  refine wl_nil (x_then (hK6 _ _ ?_))
  clear hK6 K6
  refine forget [(0, _), (3, _), (4, _), (5, _), (6, _), (7, _)] ⟨rfl, rfl, rfl, rfl, rfl, rfl, trivial⟩ (fun e => ?_)
  refine c_seq (fun K7 hK7 => ?_)
  refine c_reg ?_ -- region 6 stmt.go:105
  refine wl (ro_move rfl) ?_
  refine wl (ro_fieldAddr (k := 1) rfl fo_148_1) ?_
  refine wl (ro_loadB rfl sc_3 (by assumption) rfl) ?_
  refine wl_call rfl en_186 (ha E _ _ _ _ f q _ hR.dr hi1 hw1 hp1 (hx0.left.le (by omega))) ?_
  rintro _ u2 ⟨rfl, ow2, x2, f2, r2⟩
  obtain ⟨hN, khN⟩ := cp_loc x2 f2 hN khN
  obtain ⟨h3, kh3⟩ := cp_loc x2 f2 h3 kh3
  have hs2 := hF.size
  replace hF := cp_trans hX hF f2
  replace hX := hX.trans hs2 x2
  replace hR := r2
  have hx1 := hx0.eE hi1 hw1
  obtain ⟨S1, hS1⟩ : ∃ z9, z9 = (cmp a 0 (chn (f :: q)) 0 f.code.length S).2 := ⟨_, rfl⟩
  obtain ⟨c1, hc1⟩ : ∃ z9, z9 = f.code ++ (cmp a 0 (chn (f :: q)) 0 f.code.length S).1 65535 := ⟨_, rfl⟩
  have hl1 : c1.length = f.code.length + ln (cmp a 0 (chn (f :: q)) 0 f.code.length S) := by rw [hc1, List.length_append]; congr 1; exact hx0.ln
  replace hx1 : FX E (cmp a 0 (chn (f :: q)) 0 f.code.length S).2 { f with code := f.code ++ (cmp a 0 (chn (f :: q)) 0 f.code.length S).1 65535 } q _ _ := hx1
  have hR : CM E _ _ _ (cmp a 0 (chn (f :: q)) 0 f.code.length S).2 ({ f with code := f.code ++ (cmp a 0 (chn (f :: q)) 0 f.code.length S).1 65535 } :: q) := hR
  rw [← hS1, ← hc1] at hR hx1
  have hk1 : 3 * c1.length ≤ 31000 := hx1.clen
  refine wl_nil (x_then (hK7 _ _ ?_))
  clear hK7 K7
  refine forget [(0, _), (3, _), (4, _), (5, _), (6, _), (7, _)] ⟨rfl, rfl, rfl, rfl, rfl, rfl, trivial⟩ (fun e => ?_)
  refine c_seq (fun K8 hK8 => ?_)
  refine c_reg ?_ -- region 7 stmt.go:106
  refine wl (ro_move rfl) ?_
  refine wl_call rfl en_187 (bind187 (f := ⟨f.j, f.L, c1, f.lps⟩) (nm := []) hR.dr (by simp; omega) hx1.jl (by simp only; omega)) ?_
  rintro _ u3 ⟨rfl, ow3, x3, f3, r3⟩
  obtain ⟨hN, khN⟩ := cp_loc x3 f3 hN khN
  obtain ⟨h3, kh3⟩ := cp_loc x3 f3 h3 kh3
  have hs3 := hF.size
  replace hF := cp_trans hX hF f3
  replace hX := hX.trans hs3 x3
  replace hR := r3
  have hy1 := FX.emit (B' := 100 * ndT l + (100 * ndT b + 85)) (is := [(6, f.L.length + 0)]) (FX.decl hx1 (s := []) (by simp; omega)) (by simp only [List.length_cons, List.length_nil]; omega)
  obtain ⟨T1, hT1⟩ : ∃ z9, z9 = declF f.j (f.L.length + 1) S1 := ⟨_, rfl⟩
  obtain ⟨d1, hd1⟩ : ∃ z9, z9 = c1 ++ [(6, f.L.length + 0)] := ⟨_, rfl⟩
  have hld1 : d1.length = c1.length + 1 := by rw [hd1, List.length_append]; rfl
  have eL1 : f.L ++ [[]] = (f.L ++ [[]]) := by simp
  have eN1 : (f.L).length = f.L.length + 0 := by simp
  have hR : CM E _ _ _ (declF f.j ((f.L).length + 1) S1) (⟨f.j, f.L ++ [[]], c1 ++ [(6, (f.L).length)], f.lps⟩ :: q) := hR
  replace hy1 : FX E (declF f.j ((f.L).length + 1) S1) ⟨f.j, f.L ++ [[]], c1 ++ [(6, f.L.length + 0)], f.lps⟩ q _ _ := hy1
  rw [eL1, eN1] at hR hy1
  rw [← hd1] at hR hy1
  rw [show declF f.j (f.L.length + 0 + 1) S1 = T1 from hT1.symm] at hR hy1
  have hkd1 : 3 * d1.length ≤ 31000 := hy1.clen
  refine wl_nil (x_then (hK8 _ _ ?_))
  clear hK8 K8
  refine forget [(0, _), (3, _), (4, _), (5, _), (6, _), (7, _)] ⟨rfl, rfl, rfl, rfl, rfl, rfl, trivial⟩ (fun e => ?_)
  refine c_seq (fun K9 hK9 => ?_)
  refine c_reg ?_ -- region 8 stmt.go:107
  refine wl (ro_move rfl) ?_
  refine wl (ro_move rfl) ?_
  refine wl_call rfl en_186 (hl E _ _ _ _ ⟨f.j, (f.L ++ [[]]), d1, f.lps⟩ q _ hR.dr hi2 (by simp only [List.length_append, List.length_cons, List.length_nil]; exact hw2) hp2 (hy1.left.le (by omega))) ?_
  rintro _ u4 ⟨rfl, ow4, x4, f4, r4⟩
  obtain ⟨hN, khN⟩ := cp_loc x4 f4 hN khN
  obtain ⟨h3, kh3⟩ := cp_loc x4 f4 h3 kh3
  have hs4 := hF.size
  replace hF := cp_trans hX hF f4
  replace hX := hX.trans hs4 x4
  replace hR := r4
  have hx2 := hy1.eE hi2 (by simp only [List.length_append, List.length_cons, List.length_nil]; exact hw2)
  obtain ⟨S2, hS2⟩ : ∃ z9, z9 = (cmp l 0 ((f.j, (f.L ++ [[]])) :: chn q) 0 d1.length T1).2 := ⟨_, rfl⟩
  obtain ⟨c2, hc2⟩ : ∃ z9, z9 = d1 ++ (cmp l 0 ((f.j, (f.L ++ [[]])) :: chn q) 0 d1.length T1).1 65535 := ⟨_, rfl⟩
  have hl2 : c2.length = d1.length + ln (cmp l 0 ((f.j, (f.L ++ [[]])) :: chn q) 0 d1.length T1) := by rw [hc2, List.length_append]; congr 1; exact hy1.ln
  replace hx2 : FX E (cmp l 0 ((f.j, (f.L ++ [[]])) :: chn q) 0 d1.length T1).2 ⟨f.j, (f.L ++ [[]]), d1 ++ (cmp l 0 ((f.j, (f.L ++ [[]])) :: chn q) 0 d1.length T1).1 65535, f.lps⟩ q _ _ := hx2
  have hR : CM E _ _ _ (cmp l 0 ((f.j, (f.L ++ [[]])) :: chn q) 0 d1.length T1).2 (⟨f.j, (f.L ++ [[]]), d1 ++ (cmp l 0 ((f.j, (f.L ++ [[]])) :: chn q) 0 d1.length T1).1 65535, f.lps⟩ :: q) := hR
  rw [← hS2, ← hc2] at hR hx2
  have hk2 : 3 * c2.length ≤ 31000 := hx2.clen
  refine wl_nil (x_then (hK9 _ _ ?_))
  clear hK9 K9
  refine forget [(0, _), (3, _), (4, _), (5, _), (7, _)] ⟨rfl, rfl, rfl, rfl, rfl, trivial⟩ (fun e => ?_)
  refine c_seq (fun K10 hK10 => ?_)
  refine c_reg ?_ -- region 9 stmt.go:108
  refine wl (ro_move rfl) ?_
  refine wl_call rfl en_187 (bind187 (f := ⟨f.j, (f.L ++ [[]]), c2, f.lps⟩) (nm := []) hR.dr (by simp; omega) hx2.jl (by simp only; omega)) ?_
  rintro _ u5 ⟨rfl, ow5, x5, f5, r5⟩
  obtain ⟨hN, khN⟩ := cp_loc x5 f5 hN khN
  obtain ⟨h3, kh3⟩ := cp_loc x5 f5 h3 kh3
  have hs5 := hF.size
  replace hF := cp_trans hX hF f5
  replace hX := hX.trans hs5 x5
  replace hR := r5
  have hy2 := FX.emit (B' := 100 * ndT b + 80) (is := [(6, f.L.length + 1)]) (FX.decl hx2 (s := []) (by simp; omega)) (by simp only [List.length_cons, List.length_nil]; omega)
  obtain ⟨T2, hT2⟩ : ∃ z9, z9 = declF f.j (f.L.length + 2) S2 := ⟨_, rfl⟩
  obtain ⟨d2, hd2⟩ : ∃ z9, z9 = c2 ++ [(6, f.L.length + 1)] := ⟨_, rfl⟩
  have hld2 : d2.length = c2.length + 1 := by rw [hd2, List.length_append]; rfl
  have eL2 : (f.L ++ [[]]) ++ [[]] = (f.L ++ [[], []]) := by simp
  have eN2 : ((f.L ++ [[]])).length = f.L.length + 1 := by simp
  have hR : CM E _ _ _ (declF f.j (((f.L ++ [[]])).length + 1) S2) (⟨f.j, (f.L ++ [[]]) ++ [[]], c2 ++ [(6, ((f.L ++ [[]])).length)], f.lps⟩ :: q) := hR
  replace hy2 : FX E (declF f.j (((f.L ++ [[]])).length + 1) S2) ⟨f.j, (f.L ++ [[]]) ++ [[]], c2 ++ [(6, f.L.length + 1)], f.lps⟩ q _ _ := hy2
  rw [eL2, eN2] at hR hy2
  rw [← hd2] at hR hy2
  rw [show declF f.j (f.L.length + 1 + 1) S2 = T2 from hT2.symm] at hR hy2
  have hkd2 : 3 * d2.length ≤ 31000 := hy2.clen
  refine wl_nil (x_then (hK10 _ _ ?_))
  clear hK10 K10
  refine c_seq (fun K11 hK11 => ?_)
  refine c_seq (fun K12 hK12 => ?_)
  refine c_reg ?_ -- region 10 stmt.go:109
  refine wl (ro_move rfl) ?_
  refine wl (ro_cmp rfl rfl rfl) ?_
  refine wl_nil (x_then (hK12 _ _ ?_))
  clear hK12 K12
  skip
  refine wc_cond rfl (fun hc55 => ?_) (fun hc55 => ?_)
  · try simp only [decide_eq_true_eq, decide_eq_false_iff_not, Bool.not_eq_true', Bool.not_eq_false', Bool.not_eq_eq_eq_not, Bool.not_true, Bool.not_false, beq_iff_eq, bne_iff_ne, ne_eq, beq_eq_false_iff_ne, bne_eq_false_iff_eq, gt_iff_lt, ge_iff_le, Int.not_lt, Int.not_le] at hc55
    exact absurd hn3 (by omega)
  · try simp only [decide_eq_true_eq, decide_eq_false_iff_not, Bool.not_eq_true', Bool.not_eq_false', Bool.not_eq_eq_eq_not, Bool.not_true, Bool.not_false, beq_iff_eq, bne_iff_ne, ne_eq, beq_eq_false_iff_ne, bne_eq_false_iff_eq, gt_iff_lt, ge_iff_le, Int.not_lt, Int.not_le] at hc55
    refine c_seq (fun K13 hK13 => ?_)
    refine c_reg ?_ -- region 12 stmt.go:112
    refine wl (ro_move rfl) ?_
    refine wl_call rfl en_228 (number228 (f := ⟨f.j, (f.L ++ [[], []]), d2, f.lps⟩) (x := 4607182418800017408) hR.dr hy2.jl (by have h8 := ks_tot T2 f.j; have h9 := hy2.tt; simp only; omega)) ?_
    rintro _ u6 ⟨rfl, ow6, x6, f6, r6⟩
    obtain ⟨hN, khN⟩ := cp_loc x6 f6 hN khN
    obtain ⟨h3, kh3⟩ := cp_loc x6 f6 h3 kh3
    have hs6 := hF.size
    replace hF := cp_trans hX hF f6
    replace hX := hX.trans hs6 x6
    replace hR := r6
    have hx3z := FX.con (v := vNum (fInt 1)) (B' := 100 * ndT b + 70) hy2 one_ok (by show _ + 9 ≤ _; omega)
    obtain ⟨S3, hS3⟩ : ∃ z9, z9 = (conF f.j (vNum (fInt 1)) T2).2 := ⟨_, rfl⟩
    have hR : CM E _ _ _ (conF f.j (vNum 4607182418800017408) T2).2 (⟨f.j, (f.L ++ [[], []]), d2, f.lps⟩ :: q) := hR
    rw [← one_eq] at hR
    rw [← hS3] at hR
    replace hx3z : FX E (conF f.j (vNum (fInt 1)) T2).2 ⟨f.j, (f.L ++ [[], []]), d2, f.lps⟩ q _ _ := hx3z
    rw [← hS3] at hx3z
    refine wl (ro_assign rfl) ?_
    refine wl_nil (x_then (hK13 _ _ ?_))
    clear hK13 K13
    refine c_reg ?_ -- region 13 stmt.go:113
    refine wl (ro_move rfl) ?_
    refine wl (ro_move rfl) ?_
    refine wl (ro_build rfl bld_203_0_1) ?_
    refine wl_em (is := [(1, (conF f.j (vNum (fInt 1)) T2).1)]) (eo_bsI1 rfl se_196 zx_203) rfl hR rfl (by simp; omega) ?_
    intro u7 ow7 x7 f7 r7
    obtain ⟨hN, khN⟩ := cp_loc' x7 f7 hN khN
    obtain ⟨h3, kh3⟩ := cp_loc' x7 f7 h3 kh3
    have hs7 := hF.size
    replace hF := cp_trans' hX hF f7
    replace hX := hX.trans hs7 x7
    replace hR := r7
    obtain ⟨c3, hc3⟩ : ∃ z9, z9 = d2 ++ [(1, (conF f.j (vNum (fInt 1)) T2).1)] := ⟨_, rfl⟩
    have hl3 : c3.length = d2.length + 1 := by rw [hc3, List.length_append]; rfl
    have hx3 : FX E _ ⟨f.j, (f.L ++ [[], []]), d2 ++ [(1, (conF f.j (vNum (fInt 1)) T2).1)], f.lps⟩ q _ (100 * ndT b + 66) := FX.emit (B' := 100 * ndT b + 66) hx3z (by simp only [List.length_cons, List.length_nil]; omega)
    have hR : CM E _ _ _ _ (⟨f.j, (f.L ++ [[], []]), d2 ++ [(1, (conF f.j (vNum (fInt 1)) T2).1)], f.lps⟩ :: q) := hR
    rw [← hc3] at hR hx3
    have hk3 : 3 * c3.length ≤ 31000 := hx3.clen
    refine wl_nil (x_then (hK11 _ _ ?_))
    clear hK11 K11
    refine forget [(0, _), (3, _), (4, _), (5, _)] ⟨rfl, rfl, rfl, rfl, trivial⟩ (fun e => ?_)
    refine c_seq (fun K14 hK14 => ?_)
    refine c_reg ?_ -- region 14 stmt.go:115
    refine wl (ro_move rfl) ?_
    refine wl_call rfl en_187 (bind187 (f := ⟨f.j, (f.L ++ [[], []]), c3, f.lps⟩) (nm := []) hR.dr (by simp; omega) hx3.jl (by simp only; omega)) ?_
    rintro _ u8 ⟨rfl, ow8, x8, f8, r8⟩
    obtain ⟨hN, khN⟩ := cp_loc x8 f8 hN khN
    obtain ⟨h3, kh3⟩ := cp_loc x8 f8 h3 kh3
    have hs8 := hF.size
    replace hF := cp_trans hX hF f8
    replace hX := hX.trans hs8 x8
    replace hR := r8
    have hy3 := FX.emit (B' := 100 * ndT b + 62) (is := [(6, f.L.length + 2)]) (FX.decl hx3 (s := []) (by simp; omega)) (by simp only [List.length_cons, List.length_nil]; omega)
    obtain ⟨T3, hT3⟩ : ∃ z9, z9 = declF f.j (f.L.length + 3) S3 := ⟨_, rfl⟩
    obtain ⟨d3, hd3⟩ : ∃ z9, z9 = c3 ++ [(6, f.L.length + 2)] := ⟨_, rfl⟩
    have hld3 : d3.length = c3.length + 1 := by rw [hd3, List.length_append]; rfl
    have eL3 : (f.L ++ [[], []]) ++ [[]] = (f.L ++ [[], [], []]) := by simp
    have eN3 : ((f.L ++ [[], []])).length = f.L.length + 2 := by simp
    have hR : CM E _ _ _ (declF f.j (((f.L ++ [[], []])).length + 1) S3) (⟨f.j, (f.L ++ [[], []]) ++ [[]], c3 ++ [(6, ((f.L ++ [[], []])).length)], f.lps⟩ :: q) := hR
    replace hy3 : FX E (declF f.j (((f.L ++ [[], []])).length + 1) S3) ⟨f.j, (f.L ++ [[], []]) ++ [[]], c3 ++ [(6, f.L.length + 2)], f.lps⟩ q _ _ := hy3
    rw [eL3, eN3] at hR hy3
    rw [← hd3] at hR hy3
    rw [show declF f.j (f.L.length + 2 + 1) S3 = T3 from hT3.symm] at hR hy3
    have hkd3 : 3 * d3.length ≤ 31000 := hy3.clen
    refine wl_nil (x_then (hK14 _ _ ?_))
    clear hK14 K14
    refine forget [(0, _), (3, _), (4, _), (5, _)] ⟨rfl, rfl, rfl, rfl, trivial⟩ (fun e => ?_)
    refine c_seq (fun K15 hK15 => ?_)
    refine c_reg ?_ -- region 15 stmt.go:116
    refine wl (ro_move rfl) ?_
    refine wl (ro_move rfl) ?_
    refine wl (ro_build rfl bld_203_0_1) ?_
    refine wl_em (is := [(30, f.L.length)]) (eo_bsI1 rfl se_196 zx_203) rfl hR rfl (by simp; omega) ?_
    intro u9 ow9 x9 f9 r9
    obtain ⟨hN, khN⟩ := cp_loc' x9 f9 hN khN
    obtain ⟨h3, kh3⟩ := cp_loc' x9 f9 h3 kh3
    have hs9 := hF.size
    replace hF := cp_trans' hX hF f9
    replace hX := hX.trans hs9 x9
    replace hR := r9
    obtain ⟨e1, he1⟩ : ∃ z9, z9 = d3 ++ [(30, f.L.length)] := ⟨_, rfl⟩
    have hle1 : e1.length = d3.length + 1 := by rw [he1, List.length_append]; rfl
    have hxe1 : FX E _ ⟨f.j, (f.L ++ [[], [], []]), d3 ++ [(30, f.L.length)], f.lps⟩ q _ (100 * ndT b + 58) := FX.emit (B' := 100 * ndT b + 58) hy3 (by simp only [List.length_cons, List.length_nil]; omega)
    have hR : CM E _ _ _ _ (⟨f.j, (f.L ++ [[], [], []]), d3 ++ [(30, f.L.length)], f.lps⟩ :: q) := hR
    rw [← he1] at hR hxe1
    have hke1 : 3 * e1.length ≤ 31000 := hxe1.clen
    refine wl_nil (x_then (hK15 _ _ ?_))
    clear hK15 K15
    refine forget [(0, _), (3, _), (4, _), (5, _)] ⟨rfl, rfl, rfl, rfl, trivial⟩ (fun e => ?_)
    refine c_seq (fun K16 hK16 => ?_)
    obtain ⟨R8, z8, op8⟩ := hR.open (f := ⟨f.j, (f.L ++ [[], [], []]), e1, f.lps⟩) (by simp)
    have hG8 := op8.B
    refine c_reg ?_ -- region 16 stmt.go:117
    refine wl (ro_move rfl) ?_
    refine wl (ro_nilCheck rfl) ?_
    refine wl (ro_fieldAddr (k := 9) rfl fo_199_9) ?_
    refine wl (ro_loadB rfl sc_196 (hG8) (op8.row 9 (by decide))) ?_
    refine wl (ro_lenL rfl se_196) ?_
    refine wl (ro_assign rfl) ?_
    refine wl_nil (x_then (hK16 _ _ ?_))
    clear hK16 K16
    refine forget [(0, _), (3, _), (4, _), (5, _), (9, _)] ⟨rfl, rfl, rfl, rfl, rfl, trivial⟩ (fun e => ?_)
    refine c_seq (fun K17 hK17 => ?_)
    refine c_reg ?_ -- region 17 stmt.go:118
    refine wl (ro_move rfl) ?_
    refine wl (ro_move rfl) ?_
    refine wl (ro_build rfl bld_203_0_1) ?_
    refine wl_em (is := [(31, f.L.length)]) (eo_bsI1 rfl se_196 zx_203) rfl hR rfl (by simp; omega) ?_
    intro u10 ow10 x10 f10 r10
    obtain ⟨hN, khN⟩ := cp_loc' x10 f10 hN khN
    obtain ⟨h3, kh3⟩ := cp_loc' x10 f10 h3 kh3
    have hs10 := hF.size
    replace hF := cp_trans' hX hF f10
    replace hX := hX.trans hs10 x10
    replace hR := r10
    obtain ⟨c4, hc4⟩ : ∃ z9, z9 = e1 ++ [(31, f.L.length)] := ⟨_, rfl⟩
    have hlc4 : c4.length = e1.length + 1 := by rw [hc4, List.length_append]; rfl
    have hxc4 : FX E _ ⟨f.j, (f.L ++ [[], [], []]), e1 ++ [(31, f.L.length)], f.lps⟩ q _ (100 * ndT b + 54) := FX.emit (B' := 100 * ndT b + 54) hxe1 (by simp only [List.length_cons, List.length_nil]; omega)
    have hR : CM E _ _ _ _ (⟨f.j, (f.L ++ [[], [], []]), e1 ++ [(31, f.L.length)], f.lps⟩ :: q) := hR
    rw [← hc4] at hR hxc4
    have hkc4 : 3 * c4.length ≤ 31000 := hxc4.clen
    refine wl_nil (x_then (hK17 _ _ ?_))
    clear hK17 K17
    refine forget [(0, _), (3, _), (4, _), (5, _), (9, _)] ⟨rfl, rfl, rfl, rfl, rfl, trivial⟩ (fun e => ?_)
    refine c_seq (fun K18 hK18 => ?_)
    refine c_reg ?_ -- region 18 stmt.go:119
    refine wl (ro_move rfl) ?_
    refine wl_call rfl en_195 (jump195 (f := ⟨f.j, (f.L ++ [[], [], []]), c4, f.lps⟩) (oc := 22) hR (by simp only; omega)) ?_
    rintro v9 u9 ⟨ow9, x9, f9, r9, ⟨p2a, p5a, rfl, hq2a, khq2a, hq5a, khq5a⟩⟩
    obtain ⟨hN, khN⟩ := cp_loc x9 f9 hN khN
    obtain ⟨h3, kh3⟩ := cp_loc x9 f9 h3 kh3
    have hs9 := hF.size
    replace hF := cp_trans hX hF f9
    replace hX := hX.trans hs9 x9
    replace hR := r9
    obtain ⟨c4j, hc4j⟩ : ∃ z9, z9 = c4 ++ [(22, 65535)] := ⟨_, rfl⟩
    have hlc4j : c4j.length = c4.length + 1 := by rw [hc4j, List.length_append]; rfl
    have hxc4j : FX E _ ⟨f.j, (f.L ++ [[], [], []]), c4 ++ [(22, 65535)], f.lps⟩ q _ (100 * ndT b + 50) := FX.emit (B' := 100 * ndT b + 50) hxc4 (by simp only [List.length_cons, List.length_nil]; omega)
    have hR : CM E _ _ _ _ (⟨f.j, (f.L ++ [[], [], []]), c4 ++ [(22, 65535)], f.lps⟩ :: q) := hR
    rw [← hc4j] at hR hxc4j
    have hkc4j : 3 * c4j.length ≤ 31000 := hxc4j.clen
    refine wl (ro_assign rfl) ?_
    refine wl_nil (x_then (hK18 _ _ ?_))
    clear hK18 K18
    refine forget [(0, _), (3, _), (4, _), (5, _), (9, _), (10, _)] ⟨rfl, rfl, rfl, rfl, rfl, rfl, trivial⟩ (fun e => ?_)
    refine c_seq (fun K19 hK19 => ?_)
    refine c_reg ?_ -- region 19 stmt.go:120
    refine wl (ro_move rfl) ?_
    refine wl (ro_move rfl) ?_
    refine wl_call rfl en_235 (open235 (f := ⟨f.j, (f.L ++ [[], [], []]), c4j, f.lps⟩) (base := f.L.length) hR.dr (by have := hx0.lq; simp only; omega)) ?_
    rintro _ u11 ⟨rfl, ow11, x11, f11, r11⟩
    obtain ⟨hN, khN⟩ := cp_loc x11 f11 hN khN
    obtain ⟨h3, kh3⟩ := cp_loc x11 f11 h3 kh3
    obtain ⟨hq2a, khq2a⟩ := cp_loc x11 f11 hq2a khq2a
    obtain ⟨hq5a, khq5a⟩ := cp_loc x11 f11 hq5a khq5a
    have hs11 := hF.size
    replace hF := cp_trans hX hF f11
    replace hX := hX.trans hs11 x11
    replace hR := r11
    have hxo := FX.opn (b := f.L.length) (B' := 100 * ndT b + 46) hxc4j hL12 (by omega)
    have hxo : FX E _ ⟨f.j, (f.L ++ [[], [], []]), c4j, (f.L.length, []) :: f.lps⟩ q _ _ := hxo
    refine wl_nil (x_then (hK19 _ _ ?_))
    clear hK19 K19
    refine forget [(0, _), (3, _), (4, _), (5, _), (9, _), (10, _)] ⟨rfl, rfl, rfl, rfl, rfl, rfl, trivial⟩ (fun e => ?_)
    refine c_seq (fun K20 hK20 => ?_)
    refine c_reg ?_ -- region 20 stmt.go:121
    refine wl (ro_move rfl) ?_
    refine wl (ro_move rfl) ?_
    refine wl (ro_build rfl bld_203_0_1) ?_
    refine wl_em (is := [(5, f.L.length)]) (eo_bsI1 rfl se_196 zx_203) rfl hR rfl (by simp; omega) ?_
    intro u12 ow12 x12 f12 r12
    obtain ⟨hN, khN⟩ := cp_loc' x12 f12 hN khN
    obtain ⟨h3, kh3⟩ := cp_loc' x12 f12 h3 kh3
    obtain ⟨hq2a, khq2a⟩ := cp_loc' x12 f12 hq2a khq2a
    obtain ⟨hq5a, khq5a⟩ := cp_loc' x12 f12 hq5a khq5a
    have hs12 := hF.size
    replace hF := cp_trans' hX hF f12
    replace hX := hX.trans hs12 x12
    replace hR := r12
    obtain ⟨e2, he2⟩ : ∃ z9, z9 = c4j ++ [(5, f.L.length)] := ⟨_, rfl⟩
    have hle2 : e2.length = c4j.length + 1 := by rw [he2, List.length_append]; rfl
    have hxe2 : FX E _ ⟨f.j, (f.L ++ [[], [], []]), c4j ++ [(5, f.L.length)], ((f.L.length, []) :: f.lps)⟩ q _ (100 * ndT b + 42) := FX.emit (B' := 100 * ndT b + 42) hxo (by simp only [List.length_cons, List.length_nil]; omega)
    have hR : CM E _ _ _ _ (⟨f.j, (f.L ++ [[], [], []]), c4j ++ [(5, f.L.length)], ((f.L.length, []) :: f.lps)⟩ :: q) := hR
    rw [← he2] at hR hxe2
    have hke2 : 3 * e2.length ≤ 31000 := hxe2.clen
    refine wl_nil (x_then (hK20 _ _ ?_))
    clear hK20 K20
    refine forget [(0, _), (3, _), (4, _), (5, _), (9, _), (10, _)] ⟨rfl, rfl, rfl, rfl, rfl, rfl, trivial⟩ (fun e => ?_)
    refine c_seq (fun K21 hK21 => ?_)
    refine c_reg ?_ -- region 21 stmt.go:122
    refine wl (ro_move rfl) ?_
    refine wl (ro_fieldAddr (k := 6) rfl fo_148_6) ?_
    refine wl (ro_loadB rfl sc_9 (by assumption) rfl) ?_
    refine wl_call rfl en_187 (bind187 (f := ⟨f.j, (f.L ++ [[], [], []]), e2, ((f.L.length, []) :: f.lps)⟩) (nm := s) hR.dr (by simp; omega) hxe2.jl (by simp only; omega)) ?_
    rintro _ u13 ⟨rfl, ow13, x13, f13, r13⟩
    obtain ⟨hN, khN⟩ := cp_loc x13 f13 hN khN
    obtain ⟨h3, kh3⟩ := cp_loc x13 f13 h3 kh3
    obtain ⟨hq2a, khq2a⟩ := cp_loc x13 f13 hq2a khq2a
    obtain ⟨hq5a, khq5a⟩ := cp_loc x13 f13 hq5a khq5a
    have hs13 := hF.size
    replace hF := cp_trans hX hF f13
    replace hX := hX.trans hs13 x13
    replace hR := r13
    have hy4 := FX.emit (B' := 100 * ndT b + 38) (is := [(6, f.L.length + 3)]) (FX.decl hxe2 (s := s) (by simp; omega)) (by simp only [List.length_cons, List.length_nil]; omega)
    obtain ⟨T4, hT4⟩ : ∃ z9, z9 = declF f.j (f.L.length + 4) T3 := ⟨_, rfl⟩
    obtain ⟨d4, hd4⟩ : ∃ z9, z9 = e2 ++ [(6, f.L.length + 3)] := ⟨_, rfl⟩
    have hld4 : d4.length = e2.length + 1 := by rw [hd4, List.length_append]; rfl
    have eL4 : (f.L ++ [[], [], []]) ++ [s] = (f.L ++ [[], [], [], s]) := by simp
    have eN4 : ((f.L ++ [[], [], []])).length = f.L.length + 3 := by simp
    have hR : CM E _ _ _ (declF f.j (((f.L ++ [[], [], []])).length + 1) T3) (⟨f.j, (f.L ++ [[], [], []]) ++ [s], e2 ++ [(6, ((f.L ++ [[], [], []])).length)], ((f.L.length, []) :: f.lps)⟩ :: q) := hR
    replace hy4 : FX E (declF f.j (((f.L ++ [[], [], []])).length + 1) T3) ⟨f.j, (f.L ++ [[], [], []]) ++ [s], e2 ++ [(6, f.L.length + 3)], ((f.L.length, []) :: f.lps)⟩ q _ _ := hy4
    rw [eL4, eN4] at hR hy4
    rw [← hd4] at hR hy4
    rw [show declF f.j (f.L.length + 3 + 1) T3 = T4 from hT4.symm] at hR hy4
    have hkd4 : 3 * d4.length ≤ 31000 := hy4.clen
    have eT4 : T4 = declF f.j (f.L.length + 4) S3 := by rw [hT4, hT3]; exact declF_declF (by omega)
    refine wl_nil (x_then (hK21 _ _ ?_))
    clear hK21 K21
    refine forget [(0, _), (3, _), (4, _), (5, _), (9, _), (10, _)] ⟨rfl, rfl, rfl, rfl, rfl, rfl, trivial⟩ (fun e => ?_)
    refine c_seq (fun K22 hK22 => ?_)
    refine c_reg ?_ -- region 22 stmt.go:123
    refine wl (ro_move rfl) ?_
    refine wl (ro_fieldAddr (k := 2) rfl fo_148_2) ?_
    refine wl (ro_loadB rfl sc_3 (by assumption) rfl) ?_
    refine wl_call rfl en_79 (hb E _ _ _ _ ⟨f.j, (f.L ++ [[], [], [], s]), d4, (f.L.length, []) :: f.lps⟩ q _ hR.dr hi4 (by simp only [List.length_append, List.length_cons, List.length_nil]; exact hwb) hp4 (fun _ h ↦ by cases h) (hy4.left.le (by omega))) ?_
    rintro _ u14 ⟨rfl, ow14, x14, f14, r14⟩
    obtain ⟨hN, khN⟩ := cp_loc x14 f14 hN khN
    obtain ⟨h3, kh3⟩ := cp_loc x14 f14 h3 kh3
    obtain ⟨hq2a, khq2a⟩ := cp_loc x14 f14 hq2a khq2a
    obtain ⟨hq5a, khq5a⟩ := cp_loc x14 f14 hq5a khq5a
    have hs14 := hF.size
    replace hF := cp_trans hX hF f14
    replace hX := hX.trans hs14 x14
    replace hR := r14
    have hwb9 : W b true (f.L ++ [[], [], [], s]).length := by simp only [List.length_append, List.length_cons, List.length_nil]; exact hwb
    have hx6 := FX.bB (B := 34) (hy4.le (by omega)) hi4 hwb9
    have hho : HoP (cmp b (f.L ++ [[], [], [], s]).length ((f.j, (f.L ++ [[], [], [], s])) :: chn q) f.L.length d4.length T4) := FX.hoB (B := 34) (hy4.le (by omega)) hi4 hwb9
    obtain ⟨S6, hS6⟩ : ∃ z9, z9 = (cmp b (f.L ++ [[], [], [], s]).length ((f.j, (f.L ++ [[], [], [], s])) :: chn q) f.L.length d4.length T4).2 := ⟨_, rfl⟩
    obtain ⟨c6, hc6⟩ : ∃ z9, z9 = d4 ++ (cmp b (f.L ++ [[], [], [], s]).length ((f.j, (f.L ++ [[], [], [], s])) :: chn q) f.L.length d4.length T4).1 65535 := ⟨_, rfl⟩
    obtain ⟨l6, hp6⟩ : ∃ z9, z9 = addB ((f.L.length, []) :: f.lps) (hp d4.length ((cmp b (f.L ++ [[], [], [], s]).length ((f.j, (f.L ++ [[], [], [], s])) :: chn q) f.L.length d4.length T4).1 65535)) := ⟨_, rfl⟩
    have hl6 : c6.length = d4.length + ln (cmp b (f.L ++ [[], [], [], s]).length ((f.j, (f.L ++ [[], [], [], s])) :: chn q) f.L.length d4.length T4) := by rw [hc6, List.length_append]; congr 1; exact hy4.ln
    replace hx6 : FX E (cmp b (f.L ++ [[], [], [], s]).length ((f.j, (f.L ++ [[], [], [], s])) :: chn q) f.L.length d4.length T4).2 ⟨f.j, (f.L ++ [[], [], [], s]), d4 ++ (cmp b (f.L ++ [[], [], [], s]).length ((f.j, (f.L ++ [[], [], [], s])) :: chn q) f.L.length d4.length T4).1 65535, addB ((f.L.length, []) :: f.lps) (hp d4.length ((cmp b (f.L ++ [[], [], [], s]).length ((f.j, (f.L ++ [[], [], [], s])) :: chn q) f.L.length d4.length T4).1 65535))⟩ q _ _ := hx6
    have hR : CM E _ _ _ (cmp b (f.L ++ [[], [], [], s]).length ((f.j, (f.L ++ [[], [], [], s])) :: chn q) f.L.length d4.length T4).2 (⟨f.j, (f.L ++ [[], [], [], s]), d4 ++ (cmp b (f.L ++ [[], [], [], s]).length ((f.j, (f.L ++ [[], [], [], s])) :: chn q) f.L.length d4.length T4).1 65535, addB ((f.L.length, []) :: f.lps) (hp d4.length ((cmp b (f.L ++ [[], [], [], s]).length ((f.j, (f.L ++ [[], [], [], s])) :: chn q) f.L.length d4.length T4).1 65535))⟩ :: q) := hR
    rw [← hp6, ← hc6, ← hS6] at hR hx6
    have hk6 : 3 * c6.length ≤ 31000 := hx6.clen
    refine wl_nil (x_then (hK22 _ _ ?_))
    clear hK22 K22
    refine forget [(0, _), (4, _), (5, _), (9, _), (10, _)] ⟨rfl, rfl, rfl, rfl, rfl, trivial⟩ (fun e => ?_)
    refine c_seq (fun K23 hK23 => ?_)
    refine c_reg ?_ -- region 23 stmt.go:124
    refine wl (ro_move rfl) ?_
    refine wl (ro_move rfl) ?_
    refine wl (ro_arith (r := ((f.L.length + 3 : Nat) : Int)) rfl rfl (congrArg some (by show (f.L.length : Int) + 3 = _; omega)) (Go.IntWalk.i64_in _ (by omega))) ?_
    refine wl_call rfl en_137 (leave137 (f := ⟨f.j, (f.L ++ [[], [], [], s]), c6, l6⟩) (base := f.L.length + 3) hR.dr (by simp; omega) (by simp only; omega)) ?_
    rintro _ u15 ⟨rfl, ow15, x15, f15, r15⟩
    obtain ⟨hN, khN⟩ := cp_loc x15 f15 hN khN
    obtain ⟨h3, kh3⟩ := cp_loc x15 f15 h3 kh3
    obtain ⟨hq2a, khq2a⟩ := cp_loc x15 f15 hq2a khq2a
    obtain ⟨hq5a, khq5a⟩ := cp_loc x15 f15 hq5a khq5a
    have hs15 := hF.size
    replace hF := cp_trans hX hF f15
    replace hX := hX.trans hs15 x15
    replace hR := r15
    obtain ⟨e3, he3⟩ : ∃ z9, z9 = c6 ++ [(29, f.L.length + 3)] := ⟨_, rfl⟩
    have hle3 : e3.length = c6.length + 1 := by rw [he3, List.length_append]; rfl
    have hR : CM E _ _ _ _ (⟨f.j, (f.L ++ [[], [], [], s]).take (f.L.length + 3), c6 ++ (if f.L.length + 3 < (f.L ++ [[], [], [], s]).length then [(29, f.L.length + 3)] else []), l6⟩ :: q) := hR
    rw [if_pos (by simp), ← he3, show (f.L ++ [[], [], [], s]).take (f.L.length + 3) = (f.L ++ [[], [], []]) by rw [List.take_append, List.take_of_length_le (by omega), Nat.add_sub_cancel_left]; rfl] at hR
    refine wl_nil (x_then (hK23 _ _ ?_))
    clear hK23 K23
    refine forget [(0, _), (5, _), (9, _), (10, _)] ⟨rfl, rfl, rfl, rfl, trivial⟩ (fun e => ?_)
    refine c_seq (fun K24 hK24 => ?_)
    refine c_reg ?_ -- region 24 stmt.go:125
    refine wl (ro_move rfl) ?_
    refine wl (ro_move rfl) ?_
    refine wl (ro_build rfl bld_203_0_1) ?_
    refine wl (ro_move rfl) ?_
    refine wl (ro_arith rfl rfl rfl (Go.IntWalk.u16_in _ (by omega))) ?_
    refine wl (ro_build rfl bld_203_0_1) ?_
    refine wl (ro_build rfl bld_203_0_1) ?_
    refine wl (ro_move rfl) ?_
    refine wl (ro_build rfl bld_203_0_1) ?_
    refine wl (ro_move rfl) ?_
    refine wl (ro_conv rfl sc_3 in_201 (Go.IntWalk.u16_in _ (by simp only; omega))) ?_
    refine wl (ro_build rfl bld_203_0_1) ?_
    refine wl_em (is := [(5, f.L.length), (5, f.L.length + 2), (15, 1), (6, f.L.length), (21, e1.length)]) (eo_bsI5 rfl rfl rfl rfl rfl se_196 zx_203) rfl hR rfl (by simp; omega) ?_
    intro u16 ow16 x16 f16 r16
    obtain ⟨hN, khN⟩ := cp_loc' x16 f16 hN khN
    obtain ⟨h3, kh3⟩ := cp_loc' x16 f16 h3 kh3
    obtain ⟨hq2a, khq2a⟩ := cp_loc' x16 f16 hq2a khq2a
    obtain ⟨hq5a, khq5a⟩ := cp_loc' x16 f16 hq5a khq5a
    have hs16 := hF.size
    replace hF := cp_trans' hX hF f16
    replace hX := hX.trans hs16 x16
    replace hR := r16
    obtain ⟨c7, hc7⟩ : ∃ z9, z9 = e3 ++ [(5, f.L.length), (5, f.L.length + 2), (15, 1), (6, f.L.length), (21, e1.length)] := ⟨_, rfl⟩
    have hlc7 : c7.length = e3.length + 5 := by rw [hc7, List.length_append]; rfl
    have hR : CM E _ _ _ _ (⟨f.j, (f.L ++ [[], [], []]), e3 ++ [(5, f.L.length), (5, f.L.length + 2), (15, 1), (6, f.L.length), (21, e1.length)], l6⟩ :: q) := hR
    rw [← hc7] at hR
    refine wl_nil (x_then (hK24 _ _ ?_))
    clear hK24 K24
    refine forget [(0, _), (10, _)] ⟨rfl, rfl, trivial⟩ (fun e => ?_)
    refine c_seq (fun K25 hK25 => ?_)
    refine c_reg ?_ -- region 25 stmt.go:126
    refine wl (ro_move rfl) ?_
    refine wl_callV rfl rfl (patch237 (f := ⟨f.j, (f.L ++ [[], [], []]), c7, l6⟩) (p := c4.length) hR ⟨p2a, p5a, rfl, hq2a, khq2a, hq5a, khq5a⟩ (by show c4.length < c7.length; omega) (by show c7.length ≤ _; omega)) ?_
    rintro _ u8 ⟨rfl, ow8, x8, f8, r8⟩
    obtain ⟨hN, khN⟩ := cp_loc x8 f8 hN khN
    obtain ⟨h3, kh3⟩ := cp_loc x8 f8 h3 kh3
    obtain ⟨hq2a, khq2a⟩ := cp_loc x8 f8 hq2a khq2a
    obtain ⟨hq5a, khq5a⟩ := cp_loc x8 f8 hq5a khq5a
    have hs8 := hF.size
    replace hF := cp_trans hX hF f8
    replace hX := hX.trans hs8 x8
    replace hR := r8
    obtain ⟨c8, hc8⟩ : ∃ z9, z9 = setX c7 c4.length c7.length := ⟨_, rfl⟩
    have hlc8 : c8.length = c7.length := by rw [hc8, setX_len]
    have hR : CM E _ _ _ _ (⟨f.j, (f.L ++ [[], [], []]), setX c7 c4.length c7.length, l6⟩ :: q) := hR
    rw [← hc8] at hR
    refine wl_nil (x_then (hK25 _ _ ?_))
    clear hK25 K25
    refine c_reg ?_ -- region 26 stmt.go:127
    refine wl (ro_move rfl) ?_
    refine wl_call rfl en_236 (shut236 (f := ⟨f.j, (f.L ++ [[], [], []]), c8, l6⟩) (b := f.L.length) (br := [] ++ hp d4.length ((cmp b (f.L ++ [[], [], [], s]).length ((f.j, (f.L ++ [[], [], [], s])) :: chn q) f.L.length d4.length T4).1 65535)) (rest := f.lps) hR.dr hp6 (fun p hp ↦ by have := (hx6.lb _ (by rw [hp6]; exact List.mem_cons_self)).2.2 p hp; simp only at this ⊢; omega) (by simp only; omega) (by have := (hx6.lb _ (by rw [hp6]; exact List.mem_cons_self)).2.1; simp only at this; omega) (by have := hx0.lq; omega)) ?_
    rintro _ u17 ⟨rfl, ow17, x17, f17, r17⟩
    obtain ⟨hN, khN⟩ := cp_loc x17 f17 hN khN
    obtain ⟨h3, kh3⟩ := cp_loc x17 f17 h3 kh3
    obtain ⟨hq2a, khq2a⟩ := cp_loc x17 f17 hq2a khq2a
    obtain ⟨hq5a, khq5a⟩ := cp_loc x17 f17 hq5a khq5a
    have hs17 := hF.size
    replace hF := cp_trans hX hF f17
    replace hX := hX.trans hs17 x17
    replace hR := r17
    refine wl_nil ?_
    have hR : CM E _ _ _ S6 (⟨f.j, (f.L ++ [[], [], []]), pch c8 ([] ++ hp d4.length ((cmp b (f.L ++ [[], [], [], s]).length ((f.j, (f.L ++ [[], [], [], s])) :: chn q) f.L.length d4.length T4).1 65535)) c8.length, f.lps⟩ :: q) := hR
    rw [List.nil_append] at hR
    have hlv := leave137W (base := f.L.length) hR (by simp; omega) (by show (pch c8 _ c8.length).length ≤ _; rw [pch_len]; omega)
    refine bpd_one (args := [fptr E f.j, i64c f.L.length]) rfl en_137 hlv (fun v w' hv ↦ ⟨rfl, ZP.tr hX hF ?_⟩)
    have hz := hv.2
    have hz : ZP E _ _ _ S6 (⟨f.j, (f.L ++ [[], [], []]).take f.L.length, pch c8 (hp d4.length ((cmp b (f.L ++ [[], [], [], s]).length ((f.j, (f.L ++ [[], [], [], s])) :: chn q) f.L.length d4.length T4).1 65535)) c8.length ++ (if f.L.length < (f.L ++ [[], [], []]).length then [(29, f.L.length)] else []), f.lps⟩ :: q) w' := hz
    rw [if_pos (by simp), List.take_left] at hz
    rw [for_code (c3 := c3) (c4 := c4) (c4j := c4j) (c5 := d4) (b := f.L.length) (B1 := (cmp b (f.L ++ [[], [], [], s]).length ((f.j, (f.L ++ [[], [], [], s])) :: chn q) f.L.length d4.length T4).1 65535) (by rw [hc4, he1, hd3]) hc4j (by rw [hd4, he2]) hc6 (by rw [hc7, he3, show e1.length = c3.length + 2 by omega]) hc8] at hz
    have hL44 : (f.L ++ [[], [], [], s]).length = f.L.length + 4 := by simp
    rw [hL44] at hz hho hc6 hS6 hl6
    have hBl6 : ((cmp b (f.L.length + 4) ((f.j, (f.L ++ [[], [], [], s])) :: chn q) f.L.length d4.length T4).1 65535).length = ln (cmp b (f.L.length + 4) ((f.j, (f.L ++ [[], [], [], s])) :: chn q) f.L.length d4.length T4) := by
      have h9 := hl6
      rw [hc6, List.length_append] at h9
      omega
    have hd46 : d4.length = c3.length + 6 := by omega
    show ZP E _ _ (O ++ (numsT a ++ (numsT l ++ numsT b))) (cmp b (f.L.length + 4) ((f.j, (f.L ++ [[], [], [], s])) :: chn q) f.L.length (f.code.length + ln (cmp a 0 (chn (f :: q)) 0 f.code.length S) + 1 + ln (cmp l 0 ((f.j, (f.L ++ [[]])) :: chn q) 0 (f.code.length + ln (cmp a 0 (chn (f :: q)) 0 f.code.length S) + 1) (declF f.j (f.L.length + 1) (cmp a 0 (chn (f :: q)) 0 f.code.length S).2)) + 2 + 6) (declF f.j (f.L.length + 4) (conF f.j (vNum (fInt 1)) (declF f.j (f.L.length + 2) (cmp l 0 ((f.j, (f.L ++ [[]])) :: chn q) 0 (f.code.length + ln (cmp a 0 (chn (f :: q)) 0 f.code.length S) + 1) (declF f.j (f.L.length + 1) (cmp a 0 (chn (f :: q)) 0 f.code.length S).2)).2)).2)).2 (⟨f.j, f.L, f.code ++ ((cmp a 0 (chn (f :: q)) 0 f.code.length S).1 65535 ++ [(6, f.L.length)] ++ (cmp l 0 ((f.j, (f.L ++ [[]])) :: chn q) 0 (f.code.length + ln (cmp a 0 (chn (f :: q)) 0 f.code.length S) + 1) (declF f.j (f.L.length + 1) (cmp a 0 (chn (f :: q)) 0 f.code.length S).2)).1 65535 ++ [(6, f.L.length + 1), (1, (conF f.j (vNum (fInt 1)) (declF f.j (f.L.length + 2) (cmp l 0 ((f.j, (f.L ++ [[]])) :: chn q) 0 (f.code.length + ln (cmp a 0 (chn (f :: q)) 0 f.code.length S) + 1) (declF f.j (f.L.length + 1) (cmp a 0 (chn (f :: q)) 0 f.code.length S).2)).2)).1)] ++ numTail f.L.length (f.code.length + ln (cmp a 0 (chn (f :: q)) 0 f.code.length S) + 1 + ln (cmp l 0 ((f.j, (f.L ++ [[]])) :: chn q) 0 (f.code.length + ln (cmp a 0 (chn (f :: q)) 0 f.code.length S) + 1) (declF f.j (f.L.length + 1) (cmp a 0 (chn (f :: q)) 0 f.code.length S).2)) + 2) ((cmp b (f.L.length + 4) ((f.j, (f.L ++ [[], [], [], s])) :: chn q) f.L.length (f.code.length + ln (cmp a 0 (chn (f :: q)) 0 f.code.length S) + 1 + ln (cmp l 0 ((f.j, (f.L ++ [[]])) :: chn q) 0 (f.code.length + ln (cmp a 0 (chn (f :: q)) 0 f.code.length S) + 1) (declF f.j (f.L.length + 1) (cmp a 0 (chn (f :: q)) 0 f.code.length S).2)) + 2 + 6) (declF f.j (f.L.length + 4) (conF f.j (vNum (fInt 1)) (declF f.j (f.L.length + 2) (cmp l 0 ((f.j, (f.L ++ [[]])) :: chn q) 0 (f.code.length + ln (cmp a 0 (chn (f :: q)) 0 f.code.length S) + 1) (declF f.j (f.L.length + 1) (cmp a 0 (chn (f :: q)) 0 f.code.length S).2)).2)).2)).1 (f.code.length + ln (cmp a 0 (chn (f :: q)) 0 f.code.length S) + 1 + ln (cmp l 0 ((f.j, (f.L ++ [[]])) :: chn q) 0 (f.code.length + ln (cmp a 0 (chn (f :: q)) 0 f.code.length S) + 1) (declF f.j (f.L.length + 1) (cmp a 0 (chn (f :: q)) 0 f.code.length S).2)) + 2 + 6 + ln (cmp b (f.L.length + 4) ((f.j, (f.L ++ [[], [], [], s])) :: chn q) f.L.length (f.code.length + ln (cmp a 0 (chn (f :: q)) 0 f.code.length S) + 1 + ln (cmp l 0 ((f.j, (f.L ++ [[]])) :: chn q) 0 (f.code.length + ln (cmp a 0 (chn (f :: q)) 0 f.code.length S) + 1) (declF f.j (f.L.length + 1) (cmp a 0 (chn (f :: q)) 0 f.code.length S).2)) + 2 + 6) (declF f.j (f.L.length + 4) (conF f.j (vNum (fInt 1)) (declF f.j (f.L.length + 2) (cmp l 0 ((f.j, (f.L ++ [[]])) :: chn q) 0 (f.code.length + ln (cmp a 0 (chn (f :: q)) 0 f.code.length S) + 1) (declF f.j (f.L.length + 1) (cmp a 0 (chn (f :: q)) 0 f.code.length S).2)).2)).2)) + 6))), f.lps⟩ :: q) _
    rw [← hl1, ← hS1, ← hT1, ← hld1, ← hl2, ← hS2, ← hT2, ← hS3, ← eT4, show c2.length + 2 = c3.length by omega, ← hd46, ← hS6]
    rw [show f.code ++ ((cmp a 0 (chn (f :: q)) 0 f.code.length S).1 65535 ++ [(6, f.L.length)] ++ (cmp l 0 ((f.j, (f.L ++ [[]])) :: chn q) 0 d1.length T1).1 65535 ++ [(6, f.L.length + 1), (1, (conF f.j (vNum (fInt 1)) T2).1)] ++ numTail f.L.length c3.length ((cmp b (f.L.length + 4) ((f.j, (f.L ++ [[], [], [], s])) :: chn q) f.L.length d4.length T4).1 (d4.length + ln (cmp b (f.L.length + 4) ((f.j, (f.L ++ [[], [], [], s])) :: chn q) f.L.length d4.length T4) + 6))) = c3 ++ numTail f.L.length c3.length ((cmp b (f.L.length + 4) ((f.j, (f.L ++ [[], [], [], s])) :: chn q) f.L.length d4.length T4).1 (d4.length + ln (cmp b (f.L.length + 4) ((f.j, (f.L ++ [[], [], [], s])) :: chn q) f.L.length d4.length T4) + 6)) from cat5b hc1 hd1 hc2 hd2 hc3]
    rw [List.append_assoc, List.append_assoc] at hz
    rw [← hd46] at hz
    rw [← hho, hBl6] at hz
    exact hz
end
section
variable {E : ZEnv} {w : World} {ow : Nat → Nat} {O : List Nat} {S : Fns} {f : ZAct} {q : List ZAct}
set_option maxHeartbeats 32000000 in
theorem count193c {s : Str} {a l p b : Tr} (ha : XE a) (hl : XE l) (hstp : XE p) (hb : XB b true) {n pn : Nat} {cs : List Value} (hcs : cs = ndc (nd E.G n, pn)) (hR : CM E w ow O S (f :: q)) (hs : (nd E.G n).S = s) (hi1 : IsE E.G (nd E.G n).A a) (hi2 : IsE E.G (nd E.G (nd E.G n).A).Nx l) (hn3 : (nd E.G (nd E.G (nd E.G n).A).Nx).Nx ≠ 0) (hi3 : IsE E.G (nd E.G (nd E.G (nd E.G n).A).Nx).Nx p) (hi4 : IsSL E.G (nd E.G n).B b) (hw4 : f.L.length + 4 ≤ 12) (hw1 : W a false f.L.length) (hw2 : W l false (f.L.length + 1)) (hw3 : W p false (f.L.length + 2)) (hwb : W b true (f.L.length + 4)) (hp1 : PaT E.pa a f.j) (hp2 : PaT E.pa l f.j) (hp3 : PaT E.pa p f.j) (hp4 : PaT E.pa b f.j) (hx0 : FX E S f q (numsT a ++ (numsT l ++ (numsT p ++ (numsT b ++ [])))) (100 * ndT a + (100 * ndT l + (100 * ndT p + (100 * ndT b + 90))))) :
    Ret Tryz.prog 193 [fptr E f.j, .agg cs.toArray] w (fun r w' => r = .tuple #[] ∧ ZP E w ow (O ++ numsT (St.for3 s a l p b)) (cmp (St.for3 s a l p b) 0 (chn (f :: q)) (lpB f.lps) f.code.length S).2 (⟨f.j, f.L, f.code ++ (cmp (St.for3 s a l p b) 0 (chn (f :: q)) (lpB f.lps) f.code.length S).1 65535, f.lps⟩ :: q) w') := by
  have hAl := hi1.lt
  have hBl := hi2.lt
  have hF : Fram (tg ow cpT) w w := Fram.refl _ _
  have hX : Xt w ow ow := Xt.refl _ _
  subst hcs
  obtain ⟨gn, capn, ln_, env, hN, khN, hcapn, hrow⟩ := hR.nodes hx0.g0.1
  have hcl : 3 * f.code.length ≤ 31000 := hx0.clen
  have hL12 := hx0.L
  have hjl := hx0.jl
  have hjl9 := hjl
  refine retd_of Tryz.func193 rfl Tryz.ntmps193 rfl ?_
  refine c_np ?_
  refine c_seq (fun K1 hK1 => ?_)
  refine c_reg ?_ -- region 0 stmt.go:99
  refine wl_box rfl rfl (fun b3 w1 hbb3 h3 F1 => ?_)
  have hbsb3 := Nat.le_trans hF.size hbb3
  have hnegnb3 : gn < b3 := Nat.lt_of_lt_of_le hN.lt hbb3
  have kh3 := hR.df b3 hbb3
  replace hF := hF.thenDrew.thenN F1
  replace hR := hR.thruN ((Fram.refl none' _).thenDrew.thenN F1)
  replace hN := F1.blkN hN
  have h3 : Blk (w1).heap b3 (ndc (nd E.G n, pn)) 148 := h3
  unfold ndc at h3
  rw [hs] at h3
  refine wl_nil (x_then (hK1 _ _ ?_))
  clear hK1 K1
  refine forget [(0, _), (3, _)] ⟨rfl, rfl, trivial⟩ (fun e => ?_)
  refine c_seq (fun K2 hK2 => ?_)
  obtain ⟨R_, z_, op⟩ := hR.open (f := f) (by simp)
  have hG := op.B
  have hC := hR.cb
  have khG := hR.ta
  have khC := hR.tc
  refine c_reg ?_ -- region 1 stmt.go:100
  refine wl (ro_move rfl) ?_
  refine wl (ro_nilCheck rfl) ?_
  refine wl (ro_fieldAddr (k := 3) rfl fo_199_3) ?_
  refine wl (ro_loadB rfl sc_192 hG (op.row 3 (by decide))) ?_
  refine wl (ro_lenL rfl se_192) ?_
  refine wl (ro_assign rfl) ?_
  have hG9 := hG
  refine wl_nil (x_then (hK2 _ _ ?_))
  clear hK2 K2
  refine forget [(0, _), (3, _), (4, _)] ⟨rfl, rfl, rfl, trivial⟩ (fun e => ?_)
  refine c_seq (fun K3 hK3 => ?_)
  refine c_reg ?_ -- region 2 stmt.go:101
  refine wl (ro_move rfl) ?_
  refine wl (ro_move rfl) ?_
  refine wl_deferA rfl ?_
  refine wl_nil (x_then (hK3 _ _ ?_))
  clear hK3 K3
  refine forget [(0, _), (3, _), (4, _)] ⟨rfl, rfl, rfl, trivial⟩ (fun e => ?_)
  refine c_seq (fun K4 hK4 => ?_)
  refine c_reg ?_ -- region 3 stmt.go:102
  refine wl (ro_move rfl) ?_
  refine wl (ro_conv rfl sc_3 in_201 (Go.IntWalk.u16_in _ (by omega))) ?_
  refine wl (ro_assign rfl) ?_
  refine wl_nil (x_then (hK4 _ _ ?_))
  clear hK4 K4
  refine forget [(0, _), (3, _), (4, _), (5, _)] ⟨rfl, rfl, rfl, rfl, trivial⟩ (fun e => ?_)
  refine c_seq (fun K5 hK5 => ?_)
  obtain ⟨pa, hpa9⟩ := hrow _ hAl
  obtain ⟨pb, hpb9⟩ := hrow _ hBl
  obtain ⟨R_, z_, op⟩ := hR.open (f := f) (by simp)
  have hG := op.B
  have hC := hR.cb
  have khG := hR.ta
  have khC := hR.tc
  rw [env] at hC
  refine c_pi [(0, false), (1, false), (2, false), (3, false), (4, false), (5, false), (6, false), (7, false), (8, false), (9, false), (10, false), (11, false), (12, false)] (SameH _) mixed (by kernel_rfl) rfl (by kernel_rfl) (po_then (po_np)) (sameH_now _ _) ?_ -- region 4 stmt.go:103
  refine pi_ro rfl (fun w hS => ro_move rfl) ?_
  refine pi_ro rfl (fun w hS => ro_nilCheck rfl) ?_
  refine pi_ro rfl (fun w hS => ro_fieldAddr (k := 0) rfl fo_199_0) ?_
  refine pi_ro rfl (fun w hS => ro_loadB rfl sc_22 (Blk.of_heap hG hS) (op.row 0 (by decide))) ?_
  refine pi_ro rfl (fun w hS => ro_nilCheck rfl) ?_
  refine pi_ro rfl (fun w hS => ro_fieldAddr (k := 2) rfl fo_94_2) ?_
  refine pi_ro rfl (fun w hS => ro_loadB rfl sc_77 (Blk.of_heap hC hS) rfl) ?_
  refine pi_ro rfl (fun w hS => ro_fieldAddr (k := 1) rfl fo_148_1) ?_
  refine pi_ro rfl (fun w hS => ro_loadB rfl sc_3 (Blk.of_heap h3 hS) rfl) ?_
  refine pi_ro rfl (fun w hS => ro_indexAddr (et := 148) (k := 8) rfl rfl se_77 (rfl) (hAl)) ?_
  refine pi_ro rfl (fun w hS => ro_fieldAddr (k := 4) rfl fo_148_4) ?_
  refine pi_ro rfl (fun w hS => ro_loadB rfl sc_3 (Blk.of_heap hN hS) (row_get hpa9 (by decide))) ?_
  refine pi_ro rfl (fun w hS => ro_assign rfl) ?_
  refine pi_nil (x_then (hK5 _ _ ?_))
  clear hK5 K5
  refine forget [(0, _), (3, _), (4, _), (5, _), (6, _)] ⟨rfl, rfl, rfl, rfl, rfl, trivial⟩ (fun e => ?_)
  refine c_seq (fun K6 hK6 => ?_)
  refine c_reg ?_ -- region 5 stmt.go:104
  refine wl (ro_move rfl) ?_
  refine wl (ro_nilCheck rfl) ?_
  refine wl (ro_fieldAddr (k := 0) rfl fo_199_0) ?_
  refine wl (ro_loadB rfl sc_22 hG (op.row 0 (by decide))) ?_
  refine wl (ro_nilCheck rfl) ?_
  refine wl (ro_fieldAddr (k := 2) rfl fo_94_2) ?_
  refine wl (ro_loadB rfl sc_77 (hC) rfl) ?_
  refine wl (ro_move rfl) ?_
  refine wl (ro_indexAddr (et := 148) (k := 8) rfl rfl se_77 (rfl) (hBl)) ?_
  refine wl (ro_fieldAddr (k := 4) rfl fo_148_4) ?_
  refine wl (ro_loadB rfl sc_3 (hN) (row_get hpb9 (by decide))) ?_
  refine wl (ro_assign rfl) ?_
  refine wl_nil (x_then (hK6 _ _ ?_))
  clear hK6 K6
  refine forget [(0, _), (3, _), (4, _), (5, _), (6, _), (7, _)] ⟨rfl, rfl, rfl, rfl, rfl, rfl, trivial⟩ (fun e => ?_)
  refine c_seq (fun K7 hK7 => ?_)
  refine c_reg ?_ -- region 6 stmt.go:105
  refine wl (ro_move rfl) ?_
  refine wl (ro_fieldAddr (k := 1) rfl fo_148_1) ?_
  refine wl (ro_loadB rfl sc_3 (by assumption) rfl) ?_
  refine wl_call rfl en_186 (ha E _ _ _ _ f q _ hR.dr hi1 hw1 hp1 (hx0.left.le (by omega))) ?_
  rintro _ u2 ⟨rfl, ow2, x2, f2, r2⟩
  obtain ⟨hN, khN⟩ := cp_loc x2 f2 hN khN
  obtain ⟨h3, kh3⟩ := cp_loc x2 f2 h3 kh3
  have hs2 := hF.size
  replace hF := cp_trans hX hF f2
  replace hX := hX.trans hs2 x2
  replace hR := r2
  have hx1 := hx0.eE hi1 hw1
  obtain ⟨S1, hS1⟩ : ∃ z9, z9 = (cmp a 0 (chn (f :: q)) 0 f.code.length S).2 := ⟨_, rfl⟩
  obtain ⟨c1, hc1⟩ : ∃ z9, z9 = f.code ++ (cmp a 0 (chn (f :: q)) 0 f.code.length S).1 65535 := ⟨_, rfl⟩
  have hl1 : c1.length = f.code.length + ln (cmp a 0 (chn (f :: q)) 0 f.code.length S) := by rw [hc1, List.length_append]; congr 1; exact hx0.ln
  replace hx1 : FX E (cmp a 0 (chn (f :: q)) 0 f.code.length S).2 { f with code := f.code ++ (cmp a 0 (chn (f :: q)) 0 f.code.length S).1 65535 } q _ _ := hx1
  have hR : CM E _ _ _ (cmp a 0 (chn (f :: q)) 0 f.code.length S).2 ({ f with code := f.code ++ (cmp a 0 (chn (f :: q)) 0 f.code.length S).1 65535 } :: q) := hR
  rw [← hS1, ← hc1] at hR hx1
  have hk1 : 3 * c1.length ≤ 31000 := hx1.clen
  refine wl_nil (x_then (hK7 _ _ ?_))
  clear hK7 K7
  refine forget [(0, _), (3, _), (4, _), (5, _), (6, _), (7, _)] ⟨rfl, rfl, rfl, rfl, rfl, rfl, trivial⟩ (fun e => ?_)
  refine c_seq (fun K8 hK8 => ?_)
  refine c_reg ?_ -- region 7 stmt.go:106
  refine wl (ro_move rfl) ?_
  refine wl_call rfl en_187 (bind187 (f := ⟨f.j, f.L, c1, f.lps⟩) (nm := []) hR.dr (by simp; omega) hx1.jl (by simp only; omega)) ?_
  rintro _ u3 ⟨rfl, ow3, x3, f3, r3⟩
  obtain ⟨hN, khN⟩ := cp_loc x3 f3 hN khN
  obtain ⟨h3, kh3⟩ := cp_loc x3 f3 h3 kh3
  have hs3 := hF.size
  replace hF := cp_trans hX hF f3
  replace hX := hX.trans hs3 x3
  replace hR := r3
  have hy1 := FX.emit (B' := 100 * ndT l + (100 * ndT p + (100 * ndT b + 85))) (is := [(6, f.L.length + 0)]) (FX.decl hx1 (s := []) (by simp; omega)) (by simp only [List.length_cons, List.length_nil]; omega)
  obtain ⟨T1, hT1⟩ : ∃ z9, z9 = declF f.j (f.L.length + 1) S1 := ⟨_, rfl⟩
  obtain ⟨d1, hd1⟩ : ∃ z9, z9 = c1 ++ [(6, f.L.length + 0)] := ⟨_, rfl⟩
  have hld1 : d1.length = c1.length + 1 := by rw [hd1, List.length_append]; rfl
  have eL1 : f.L ++ [[]] = (f.L ++ [[]]) := by simp
  have eN1 : (f.L).length = f.L.length + 0 := by simp
  have hR : CM E _ _ _ (declF f.j ((f.L).length + 1) S1) (⟨f.j, f.L ++ [[]], c1 ++ [(6, (f.L).length)], f.lps⟩ :: q) := hR
  replace hy1 : FX E (declF f.j ((f.L).length + 1) S1) ⟨f.j, f.L ++ [[]], c1 ++ [(6, f.L.length + 0)], f.lps⟩ q _ _ := hy1
  rw [eL1, eN1] at hR hy1
  rw [← hd1] at hR hy1
  rw [show declF f.j (f.L.length + 0 + 1) S1 = T1 from hT1.symm] at hR hy1
  have hkd1 : 3 * d1.length ≤ 31000 := hy1.clen
  refine wl_nil (x_then (hK8 _ _ ?_))
  clear hK8 K8
  refine forget [(0, _), (3, _), (4, _), (5, _), (6, _), (7, _)] ⟨rfl, rfl, rfl, rfl, rfl, rfl, trivial⟩ (fun e => ?_)
  refine c_seq (fun K9 hK9 => ?_)
  refine c_reg ?_ -- region 8 stmt.go:107
  refine wl (ro_move rfl) ?_
  refine wl (ro_move rfl) ?_
  refine wl_call rfl en_186 (hl E _ _ _ _ ⟨f.j, (f.L ++ [[]]), d1, f.lps⟩ q _ hR.dr hi2 (by simp only [List.length_append, List.length_cons, List.length_nil]; exact hw2) hp2 (hy1.left.le (by omega))) ?_
  rintro _ u4 ⟨rfl, ow4, x4, f4, r4⟩
  obtain ⟨hN, khN⟩ := cp_loc x4 f4 hN khN
  obtain ⟨h3, kh3⟩ := cp_loc x4 f4 h3 kh3
  have hs4 := hF.size
  replace hF := cp_trans hX hF f4
  replace hX := hX.trans hs4 x4
  replace hR := r4
  have hx2 := hy1.eE hi2 (by simp only [List.length_append, List.length_cons, List.length_nil]; exact hw2)
  obtain ⟨S2, hS2⟩ : ∃ z9, z9 = (cmp l 0 ((f.j, (f.L ++ [[]])) :: chn q) 0 d1.length T1).2 := ⟨_, rfl⟩
  obtain ⟨c2, hc2⟩ : ∃ z9, z9 = d1 ++ (cmp l 0 ((f.j, (f.L ++ [[]])) :: chn q) 0 d1.length T1).1 65535 := ⟨_, rfl⟩
  have hl2 : c2.length = d1.length + ln (cmp l 0 ((f.j, (f.L ++ [[]])) :: chn q) 0 d1.length T1) := by rw [hc2, List.length_append]; congr 1; exact hy1.ln
  replace hx2 : FX E (cmp l 0 ((f.j, (f.L ++ [[]])) :: chn q) 0 d1.length T1).2 ⟨f.j, (f.L ++ [[]]), d1 ++ (cmp l 0 ((f.j, (f.L ++ [[]])) :: chn q) 0 d1.length T1).1 65535, f.lps⟩ q _ _ := hx2
  have hR : CM E _ _ _ (cmp l 0 ((f.j, (f.L ++ [[]])) :: chn q) 0 d1.length T1).2 (⟨f.j, (f.L ++ [[]]), d1 ++ (cmp l 0 ((f.j, (f.L ++ [[]])) :: chn q) 0 d1.length T1).1 65535, f.lps⟩ :: q) := hR
  rw [← hS2, ← hc2] at hR hx2
  have hk2 : 3 * c2.length ≤ 31000 := hx2.clen
  refine wl_nil (x_then (hK9 _ _ ?_))
  clear hK9 K9
  refine forget [(0, _), (3, _), (4, _), (5, _), (7, _)] ⟨rfl, rfl, rfl, rfl, rfl, trivial⟩ (fun e => ?_)
  refine c_seq (fun K10 hK10 => ?_)
  refine c_reg ?_ -- region 9 stmt.go:108
  refine wl (ro_move rfl) ?_
  refine wl_call rfl en_187 (bind187 (f := ⟨f.j, (f.L ++ [[]]), c2, f.lps⟩) (nm := []) hR.dr (by simp; omega) hx2.jl (by simp only; omega)) ?_
  rintro _ u5 ⟨rfl, ow5, x5, f5, r5⟩
  obtain ⟨hN, khN⟩ := cp_loc x5 f5 hN khN
  obtain ⟨h3, kh3⟩ := cp_loc x5 f5 h3 kh3
  have hs5 := hF.size
  replace hF := cp_trans hX hF f5
  replace hX := hX.trans hs5 x5
  replace hR := r5
  have hy2 := FX.emit (B' := 100 * ndT p + (100 * ndT b + 80)) (is := [(6, f.L.length + 1)]) (FX.decl hx2 (s := []) (by simp; omega)) (by simp only [List.length_cons, List.length_nil]; omega)
  obtain ⟨T2, hT2⟩ : ∃ z9, z9 = declF f.j (f.L.length + 2) S2 := ⟨_, rfl⟩
  obtain ⟨d2, hd2⟩ : ∃ z9, z9 = c2 ++ [(6, f.L.length + 1)] := ⟨_, rfl⟩
  have hld2 : d2.length = c2.length + 1 := by rw [hd2, List.length_append]; rfl
  have eL2 : (f.L ++ [[]]) ++ [[]] = (f.L ++ [[], []]) := by simp
  have eN2 : ((f.L ++ [[]])).length = f.L.length + 1 := by simp
  have hR : CM E _ _ _ (declF f.j (((f.L ++ [[]])).length + 1) S2) (⟨f.j, (f.L ++ [[]]) ++ [[]], c2 ++ [(6, ((f.L ++ [[]])).length)], f.lps⟩ :: q) := hR
  replace hy2 : FX E (declF f.j (((f.L ++ [[]])).length + 1) S2) ⟨f.j, (f.L ++ [[]]) ++ [[]], c2 ++ [(6, f.L.length + 1)], f.lps⟩ q _ _ := hy2
  rw [eL2, eN2] at hR hy2
  rw [← hd2] at hR hy2
  rw [show declF f.j (f.L.length + 1 + 1) S2 = T2 from hT2.symm] at hR hy2
  have hkd2 : 3 * d2.length ≤ 31000 := hy2.clen
  refine wl_nil (x_then (hK10 _ _ ?_))
  clear hK10 K10
  refine c_seq (fun K11 hK11 => ?_)
  refine c_seq (fun K12 hK12 => ?_)
  refine c_reg ?_ -- region 10 stmt.go:109
  refine wl (ro_move rfl) ?_
  refine wl (ro_cmp rfl rfl rfl) ?_
  refine wl_nil (x_then (hK12 _ _ ?_))
  clear hK12 K12
  skip
  refine wc_cond rfl (fun hc55 => ?_) (fun hc55 => ?_)
  · try simp only [decide_eq_true_eq, decide_eq_false_iff_not, Bool.not_eq_true', Bool.not_eq_false', Bool.not_eq_eq_eq_not, Bool.not_true, Bool.not_false, beq_iff_eq, bne_iff_ne, ne_eq, beq_eq_false_iff_ne, bne_eq_false_iff_eq, gt_iff_lt, ge_iff_le, Int.not_lt, Int.not_le] at hc55
    refine c_reg ?_ -- region 11 stmt.go:110
    refine wl (ro_move rfl) ?_
    refine wl (ro_move rfl) ?_
    refine wl_call rfl en_186 (hstp E _ _ _ _ ⟨f.j, (f.L ++ [[], []]), d2, f.lps⟩ q _ hR.dr hi3 (by simp only [List.length_append, List.length_cons, List.length_nil]; exact hw3) hp3 (hy2.left.le (by omega))) ?_
    rintro _ u6 ⟨rfl, ow6, x6, f6, r6⟩
    obtain ⟨hN, khN⟩ := cp_loc x6 f6 hN khN
    obtain ⟨h3, kh3⟩ := cp_loc x6 f6 h3 kh3
    have hs6 := hF.size
    replace hF := cp_trans hX hF f6
    replace hX := hX.trans hs6 x6
    replace hR := r6
    have hx3 := hy2.eE hi3 (by simp only [List.length_append, List.length_cons, List.length_nil]; exact hw3)
    obtain ⟨S3, hS3⟩ : ∃ z9, z9 = (cmp p 0 ((f.j, (f.L ++ [[], []])) :: chn q) 0 d2.length T2).2 := ⟨_, rfl⟩
    obtain ⟨c3, hc3⟩ : ∃ z9, z9 = d2 ++ (cmp p 0 ((f.j, (f.L ++ [[], []])) :: chn q) 0 d2.length T2).1 65535 := ⟨_, rfl⟩
    have hl3 : c3.length = d2.length + ln (cmp p 0 ((f.j, (f.L ++ [[], []])) :: chn q) 0 d2.length T2) := by rw [hc3, List.length_append]; congr 1; exact hy2.ln
    replace hx3 : FX E (cmp p 0 ((f.j, (f.L ++ [[], []])) :: chn q) 0 d2.length T2).2 ⟨f.j, (f.L ++ [[], []]), d2 ++ (cmp p 0 ((f.j, (f.L ++ [[], []])) :: chn q) 0 d2.length T2).1 65535, f.lps⟩ q _ _ := hx3
    have hR : CM E _ _ _ (cmp p 0 ((f.j, (f.L ++ [[], []])) :: chn q) 0 d2.length T2).2 (⟨f.j, (f.L ++ [[], []]), d2 ++ (cmp p 0 ((f.j, (f.L ++ [[], []])) :: chn q) 0 d2.length T2).1 65535, f.lps⟩ :: q) := hR
    rw [← hS3, ← hc3] at hR hx3
    have hk3 : 3 * c3.length ≤ 31000 := hx3.clen
    refine wl_nil (x_then (hK11 _ _ ?_))
    clear hK11 K11
    refine forget [(0, _), (3, _), (4, _), (5, _)] ⟨rfl, rfl, rfl, rfl, trivial⟩ (fun e => ?_)
    refine c_seq (fun K13 hK13 => ?_)
    refine c_reg ?_ -- region 14 stmt.go:115
    refine wl (ro_move rfl) ?_
    refine wl_call rfl en_187 (bind187 (f := ⟨f.j, (f.L ++ [[], []]), c3, f.lps⟩) (nm := []) hR.dr (by simp; omega) hx3.jl (by simp only; omega)) ?_
    rintro _ u7 ⟨rfl, ow7, x7, f7, r7⟩
    obtain ⟨hN, khN⟩ := cp_loc x7 f7 hN khN
    obtain ⟨h3, kh3⟩ := cp_loc x7 f7 h3 kh3
    have hs7 := hF.size
    replace hF := cp_trans hX hF f7
    replace hX := hX.trans hs7 x7
    replace hR := r7
    have hy3 := FX.emit (B' := 100 * ndT b + 76) (is := [(6, f.L.length + 2)]) (FX.decl hx3 (s := []) (by simp; omega)) (by simp only [List.length_cons, List.length_nil]; omega)
    obtain ⟨T3, hT3⟩ : ∃ z9, z9 = declF f.j (f.L.length + 3) S3 := ⟨_, rfl⟩
    obtain ⟨d3, hd3⟩ : ∃ z9, z9 = c3 ++ [(6, f.L.length + 2)] := ⟨_, rfl⟩
    have hld3 : d3.length = c3.length + 1 := by rw [hd3, List.length_append]; rfl
    have eL3 : (f.L ++ [[], []]) ++ [[]] = (f.L ++ [[], [], []]) := by simp
    have eN3 : ((f.L ++ [[], []])).length = f.L.length + 2 := by simp
    have hR : CM E _ _ _ (declF f.j (((f.L ++ [[], []])).length + 1) S3) (⟨f.j, (f.L ++ [[], []]) ++ [[]], c3 ++ [(6, ((f.L ++ [[], []])).length)], f.lps⟩ :: q) := hR
    replace hy3 : FX E (declF f.j (((f.L ++ [[], []])).length + 1) S3) ⟨f.j, (f.L ++ [[], []]) ++ [[]], c3 ++ [(6, f.L.length + 2)], f.lps⟩ q _ _ := hy3
    rw [eL3, eN3] at hR hy3
    rw [← hd3] at hR hy3
    rw [show declF f.j (f.L.length + 2 + 1) S3 = T3 from hT3.symm] at hR hy3
    have hkd3 : 3 * d3.length ≤ 31000 := hy3.clen
    refine wl_nil (x_then (hK13 _ _ ?_))
    clear hK13 K13
    refine forget [(0, _), (3, _), (4, _), (5, _)] ⟨rfl, rfl, rfl, rfl, trivial⟩ (fun e => ?_)
    refine c_seq (fun K14 hK14 => ?_)
    refine c_reg ?_ -- region 15 stmt.go:116
    refine wl (ro_move rfl) ?_
    refine wl (ro_move rfl) ?_
    refine wl (ro_build rfl bld_203_0_1) ?_
    refine wl_em (is := [(30, f.L.length)]) (eo_bsI1 rfl se_196 zx_203) rfl hR rfl (by simp; omega) ?_
    intro u8 ow8 x8 f8 r8
    obtain ⟨hN, khN⟩ := cp_loc' x8 f8 hN khN
    obtain ⟨h3, kh3⟩ := cp_loc' x8 f8 h3 kh3
    have hs8 := hF.size
    replace hF := cp_trans' hX hF f8
    replace hX := hX.trans hs8 x8
    replace hR := r8
    obtain ⟨e1, he1⟩ : ∃ z9, z9 = d3 ++ [(30, f.L.length)] := ⟨_, rfl⟩
    have hle1 : e1.length = d3.length + 1 := by rw [he1, List.length_append]; rfl
    have hxe1 : FX E _ ⟨f.j, (f.L ++ [[], [], []]), d3 ++ [(30, f.L.length)], f.lps⟩ q _ (100 * ndT b + 72) := FX.emit (B' := 100 * ndT b + 72) hy3 (by simp only [List.length_cons, List.length_nil]; omega)
    have hR : CM E _ _ _ _ (⟨f.j, (f.L ++ [[], [], []]), d3 ++ [(30, f.L.length)], f.lps⟩ :: q) := hR
    rw [← he1] at hR hxe1
    have hke1 : 3 * e1.length ≤ 31000 := hxe1.clen
    refine wl_nil (x_then (hK14 _ _ ?_))
    clear hK14 K14
    refine forget [(0, _), (3, _), (4, _), (5, _)] ⟨rfl, rfl, rfl, rfl, trivial⟩ (fun e => ?_)
    refine c_seq (fun K15 hK15 => ?_)
    obtain ⟨R8, z8, op8⟩ := hR.open (f := ⟨f.j, (f.L ++ [[], [], []]), e1, f.lps⟩) (by simp)
    have hG8 := op8.B
    refine c_reg ?_ -- region 16 stmt.go:117
    refine wl (ro_move rfl) ?_
    refine wl (ro_nilCheck rfl) ?_
    refine wl (ro_fieldAddr (k := 9) rfl fo_199_9) ?_
    refine wl (ro_loadB rfl sc_196 (hG8) (op8.row 9 (by decide))) ?_
    refine wl (ro_lenL rfl se_196) ?_
    refine wl (ro_assign rfl) ?_
    refine wl_nil (x_then (hK15 _ _ ?_))
    clear hK15 K15
    refine forget [(0, _), (3, _), (4, _), (5, _), (9, _)] ⟨rfl, rfl, rfl, rfl, rfl, trivial⟩ (fun e => ?_)
    refine c_seq (fun K16 hK16 => ?_)
    refine c_reg ?_ -- region 17 stmt.go:118
    refine wl (ro_move rfl) ?_
    refine wl (ro_move rfl) ?_
    refine wl (ro_build rfl bld_203_0_1) ?_
    refine wl_em (is := [(31, f.L.length)]) (eo_bsI1 rfl se_196 zx_203) rfl hR rfl (by simp; omega) ?_
    intro u9 ow9 x9 f9 r9
    obtain ⟨hN, khN⟩ := cp_loc' x9 f9 hN khN
    obtain ⟨h3, kh3⟩ := cp_loc' x9 f9 h3 kh3
    have hs9 := hF.size
    replace hF := cp_trans' hX hF f9
    replace hX := hX.trans hs9 x9
    replace hR := r9
    obtain ⟨c4, hc4⟩ : ∃ z9, z9 = e1 ++ [(31, f.L.length)] := ⟨_, rfl⟩
    have hlc4 : c4.length = e1.length + 1 := by rw [hc4, List.length_append]; rfl
    have hxc4 : FX E _ ⟨f.j, (f.L ++ [[], [], []]), e1 ++ [(31, f.L.length)], f.lps⟩ q _ (100 * ndT b + 68) := FX.emit (B' := 100 * ndT b + 68) hxe1 (by simp only [List.length_cons, List.length_nil]; omega)
    have hR : CM E _ _ _ _ (⟨f.j, (f.L ++ [[], [], []]), e1 ++ [(31, f.L.length)], f.lps⟩ :: q) := hR
    rw [← hc4] at hR hxc4
    have hkc4 : 3 * c4.length ≤ 31000 := hxc4.clen
    refine wl_nil (x_then (hK16 _ _ ?_))
    clear hK16 K16
    refine forget [(0, _), (3, _), (4, _), (5, _), (9, _)] ⟨rfl, rfl, rfl, rfl, rfl, trivial⟩ (fun e => ?_)
    refine c_seq (fun K17 hK17 => ?_)
    refine c_reg ?_ -- region 18 stmt.go:119
    refine wl (ro_move rfl) ?_
    refine wl_call rfl en_195 (jump195 (f := ⟨f.j, (f.L ++ [[], [], []]), c4, f.lps⟩) (oc := 22) hR (by simp only; omega)) ?_
    rintro v9 u9 ⟨ow9, x9, f9, r9, ⟨p2a, p5a, rfl, hq2a, khq2a, hq5a, khq5a⟩⟩
    obtain ⟨hN, khN⟩ := cp_loc x9 f9 hN khN
    obtain ⟨h3, kh3⟩ := cp_loc x9 f9 h3 kh3
    have hs9 := hF.size
    replace hF := cp_trans hX hF f9
    replace hX := hX.trans hs9 x9
    replace hR := r9
    obtain ⟨c4j, hc4j⟩ : ∃ z9, z9 = c4 ++ [(22, 65535)] := ⟨_, rfl⟩
    have hlc4j : c4j.length = c4.length + 1 := by rw [hc4j, List.length_append]; rfl
    have hxc4j : FX E _ ⟨f.j, (f.L ++ [[], [], []]), c4 ++ [(22, 65535)], f.lps⟩ q _ (100 * ndT b + 64) := FX.emit (B' := 100 * ndT b + 64) hxc4 (by simp only [List.length_cons, List.length_nil]; omega)
    have hR : CM E _ _ _ _ (⟨f.j, (f.L ++ [[], [], []]), c4 ++ [(22, 65535)], f.lps⟩ :: q) := hR
    rw [← hc4j] at hR hxc4j
    have hkc4j : 3 * c4j.length ≤ 31000 := hxc4j.clen
    refine wl (ro_assign rfl) ?_
    refine wl_nil (x_then (hK17 _ _ ?_))
    clear hK17 K17
    refine forget [(0, _), (3, _), (4, _), (5, _), (9, _), (10, _)] ⟨rfl, rfl, rfl, rfl, rfl, rfl, trivial⟩ (fun e => ?_)
    refine c_seq (fun K18 hK18 => ?_)
    refine c_reg ?_ -- region 19 stmt.go:120
    refine wl (ro_move rfl) ?_
    refine wl (ro_move rfl) ?_
    refine wl_call rfl en_235 (open235 (f := ⟨f.j, (f.L ++ [[], [], []]), c4j, f.lps⟩) (base := f.L.length) hR.dr (by have := hx0.lq; simp only; omega)) ?_
    rintro _ u10 ⟨rfl, ow10, x10, f10, r10⟩
    obtain ⟨hN, khN⟩ := cp_loc x10 f10 hN khN
    obtain ⟨h3, kh3⟩ := cp_loc x10 f10 h3 kh3
    obtain ⟨hq2a, khq2a⟩ := cp_loc x10 f10 hq2a khq2a
    obtain ⟨hq5a, khq5a⟩ := cp_loc x10 f10 hq5a khq5a
    have hs10 := hF.size
    replace hF := cp_trans hX hF f10
    replace hX := hX.trans hs10 x10
    replace hR := r10
    have hxo := FX.opn (b := f.L.length) (B' := 100 * ndT b + 60) hxc4j hL12 (by omega)
    have hxo : FX E _ ⟨f.j, (f.L ++ [[], [], []]), c4j, (f.L.length, []) :: f.lps⟩ q _ _ := hxo
    refine wl_nil (x_then (hK18 _ _ ?_))
    clear hK18 K18
    refine forget [(0, _), (3, _), (4, _), (5, _), (9, _), (10, _)] ⟨rfl, rfl, rfl, rfl, rfl, rfl, trivial⟩ (fun e => ?_)
    refine c_seq (fun K19 hK19 => ?_)
    refine c_reg ?_ -- region 20 stmt.go:121
    refine wl (ro_move rfl) ?_
    refine wl (ro_move rfl) ?_
    refine wl (ro_build rfl bld_203_0_1) ?_
    refine wl_em (is := [(5, f.L.length)]) (eo_bsI1 rfl se_196 zx_203) rfl hR rfl (by simp; omega) ?_
    intro u11 ow11 x11 f11 r11
    obtain ⟨hN, khN⟩ := cp_loc' x11 f11 hN khN
    obtain ⟨h3, kh3⟩ := cp_loc' x11 f11 h3 kh3
    obtain ⟨hq2a, khq2a⟩ := cp_loc' x11 f11 hq2a khq2a
    obtain ⟨hq5a, khq5a⟩ := cp_loc' x11 f11 hq5a khq5a
    have hs11 := hF.size
    replace hF := cp_trans' hX hF f11
    replace hX := hX.trans hs11 x11
    replace hR := r11
    obtain ⟨e2, he2⟩ : ∃ z9, z9 = c4j ++ [(5, f.L.length)] := ⟨_, rfl⟩
    have hle2 : e2.length = c4j.length + 1 := by rw [he2, List.length_append]; rfl
    have hxe2 : FX E _ ⟨f.j, (f.L ++ [[], [], []]), c4j ++ [(5, f.L.length)], ((f.L.length, []) :: f.lps)⟩ q _ (100 * ndT b + 56) := FX.emit (B' := 100 * ndT b + 56) hxo (by simp only [List.length_cons, List.length_nil]; omega)
    have hR : CM E _ _ _ _ (⟨f.j, (f.L ++ [[], [], []]), c4j ++ [(5, f.L.length)], ((f.L.length, []) :: f.lps)⟩ :: q) := hR
    rw [← he2] at hR hxe2
    have hke2 : 3 * e2.length ≤ 31000 := hxe2.clen
    refine wl_nil (x_then (hK19 _ _ ?_))
    clear hK19 K19
    refine forget [(0, _), (3, _), (4, _), (5, _), (9, _), (10, _)] ⟨rfl, rfl, rfl, rfl, rfl, rfl, trivial⟩ (fun e => ?_)
    refine c_seq (fun K20 hK20 => ?_)
    refine c_reg ?_ -- region 21 stmt.go:122
    refine wl (ro_move rfl) ?_
    refine wl (ro_fieldAddr (k := 6) rfl fo_148_6) ?_
    refine wl (ro_loadB rfl sc_9 (by assumption) rfl) ?_
    refine wl_call rfl en_187 (bind187 (f := ⟨f.j, (f.L ++ [[], [], []]), e2, ((f.L.length, []) :: f.lps)⟩) (nm := s) hR.dr (by simp; omega) hxe2.jl (by simp only; omega)) ?_
    rintro _ u12 ⟨rfl, ow12, x12, f12, r12⟩
    obtain ⟨hN, khN⟩ := cp_loc x12 f12 hN khN
    obtain ⟨h3, kh3⟩ := cp_loc x12 f12 h3 kh3
    obtain ⟨hq2a, khq2a⟩ := cp_loc x12 f12 hq2a khq2a
    obtain ⟨hq5a, khq5a⟩ := cp_loc x12 f12 hq5a khq5a
    have hs12 := hF.size
    replace hF := cp_trans hX hF f12
    replace hX := hX.trans hs12 x12
    replace hR := r12
    have hy4 := FX.emit (B' := 100 * ndT b + 52) (is := [(6, f.L.length + 3)]) (FX.decl hxe2 (s := s) (by simp; omega)) (by simp only [List.length_cons, List.length_nil]; omega)
    obtain ⟨T4, hT4⟩ : ∃ z9, z9 = declF f.j (f.L.length + 4) T3 := ⟨_, rfl⟩
    obtain ⟨d4, hd4⟩ : ∃ z9, z9 = e2 ++ [(6, f.L.length + 3)] := ⟨_, rfl⟩
    have hld4 : d4.length = e2.length + 1 := by rw [hd4, List.length_append]; rfl
    have eL4 : (f.L ++ [[], [], []]) ++ [s] = (f.L ++ [[], [], [], s]) := by simp
    have eN4 : ((f.L ++ [[], [], []])).length = f.L.length + 3 := by simp
    have hR : CM E _ _ _ (declF f.j (((f.L ++ [[], [], []])).length + 1) T3) (⟨f.j, (f.L ++ [[], [], []]) ++ [s], e2 ++ [(6, ((f.L ++ [[], [], []])).length)], ((f.L.length, []) :: f.lps)⟩ :: q) := hR
    replace hy4 : FX E (declF f.j (((f.L ++ [[], [], []])).length + 1) T3) ⟨f.j, (f.L ++ [[], [], []]) ++ [s], e2 ++ [(6, f.L.length + 3)], ((f.L.length, []) :: f.lps)⟩ q _ _ := hy4
    rw [eL4, eN4] at hR hy4
    rw [← hd4] at hR hy4
    rw [show declF f.j (f.L.length + 3 + 1) T3 = T4 from hT4.symm] at hR hy4
    have hkd4 : 3 * d4.length ≤ 31000 := hy4.clen
    have eT4 : T4 = declF f.j (f.L.length + 4) S3 := by rw [hT4, hT3]; exact declF_declF (by omega)
    refine wl_nil (x_then (hK20 _ _ ?_))
    clear hK20 K20
    refine forget [(0, _), (3, _), (4, _), (5, _), (9, _), (10, _)] ⟨rfl, rfl, rfl, rfl, rfl, rfl, trivial⟩ (fun e => ?_)
    refine c_seq (fun K21 hK21 => ?_)
    refine c_reg ?_ -- region 22 stmt.go:123
    refine wl (ro_move rfl) ?_
    refine wl (ro_fieldAddr (k := 2) rfl fo_148_2) ?_
    refine wl (ro_loadB rfl sc_3 (by assumption) rfl) ?_
    refine wl_call rfl en_79 (hb E _ _ _ _ ⟨f.j, (f.L ++ [[], [], [], s]), d4, (f.L.length, []) :: f.lps⟩ q _ hR.dr hi4 (by simp only [List.length_append, List.length_cons, List.length_nil]; exact hwb) hp4 (fun _ h ↦ by cases h) (hy4.left.le (by omega))) ?_
    rintro _ u13 ⟨rfl, ow13, x13, f13, r13⟩
    obtain ⟨hN, khN⟩ := cp_loc x13 f13 hN khN
    obtain ⟨h3, kh3⟩ := cp_loc x13 f13 h3 kh3
    obtain ⟨hq2a, khq2a⟩ := cp_loc x13 f13 hq2a khq2a
    obtain ⟨hq5a, khq5a⟩ := cp_loc x13 f13 hq5a khq5a
    have hs13 := hF.size
    replace hF := cp_trans hX hF f13
    replace hX := hX.trans hs13 x13
    replace hR := r13
    have hwb9 : W b true (f.L ++ [[], [], [], s]).length := by simp only [List.length_append, List.length_cons, List.length_nil]; exact hwb
    have hx6 := FX.bB (B := 48) (hy4.le (by omega)) hi4 hwb9
    have hho : HoP (cmp b (f.L ++ [[], [], [], s]).length ((f.j, (f.L ++ [[], [], [], s])) :: chn q) f.L.length d4.length T4) := FX.hoB (B := 48) (hy4.le (by omega)) hi4 hwb9
    obtain ⟨S6, hS6⟩ : ∃ z9, z9 = (cmp b (f.L ++ [[], [], [], s]).length ((f.j, (f.L ++ [[], [], [], s])) :: chn q) f.L.length d4.length T4).2 := ⟨_, rfl⟩
    obtain ⟨c6, hc6⟩ : ∃ z9, z9 = d4 ++ (cmp b (f.L ++ [[], [], [], s]).length ((f.j, (f.L ++ [[], [], [], s])) :: chn q) f.L.length d4.length T4).1 65535 := ⟨_, rfl⟩
    obtain ⟨l6, hp6⟩ : ∃ z9, z9 = addB ((f.L.length, []) :: f.lps) (hp d4.length ((cmp b (f.L ++ [[], [], [], s]).length ((f.j, (f.L ++ [[], [], [], s])) :: chn q) f.L.length d4.length T4).1 65535)) := ⟨_, rfl⟩
    have hl6 : c6.length = d4.length + ln (cmp b (f.L ++ [[], [], [], s]).length ((f.j, (f.L ++ [[], [], [], s])) :: chn q) f.L.length d4.length T4) := by rw [hc6, List.length_append]; congr 1; exact hy4.ln
    replace hx6 : FX E (cmp b (f.L ++ [[], [], [], s]).length ((f.j, (f.L ++ [[], [], [], s])) :: chn q) f.L.length d4.length T4).2 ⟨f.j, (f.L ++ [[], [], [], s]), d4 ++ (cmp b (f.L ++ [[], [], [], s]).length ((f.j, (f.L ++ [[], [], [], s])) :: chn q) f.L.length d4.length T4).1 65535, addB ((f.L.length, []) :: f.lps) (hp d4.length ((cmp b (f.L ++ [[], [], [], s]).length ((f.j, (f.L ++ [[], [], [], s])) :: chn q) f.L.length d4.length T4).1 65535))⟩ q _ _ := hx6
    have hR : CM E _ _ _ (cmp b (f.L ++ [[], [], [], s]).length ((f.j, (f.L ++ [[], [], [], s])) :: chn q) f.L.length d4.length T4).2 (⟨f.j, (f.L ++ [[], [], [], s]), d4 ++ (cmp b (f.L ++ [[], [], [], s]).length ((f.j, (f.L ++ [[], [], [], s])) :: chn q) f.L.length d4.length T4).1 65535, addB ((f.L.length, []) :: f.lps) (hp d4.length ((cmp b (f.L ++ [[], [], [], s]).length ((f.j, (f.L ++ [[], [], [], s])) :: chn q) f.L.length d4.length T4).1 65535))⟩ :: q) := hR
    rw [← hp6, ← hc6, ← hS6] at hR hx6
    have hk6 : 3 * c6.length ≤ 31000 := hx6.clen
    refine wl_nil (x_then (hK21 _ _ ?_))
    clear hK21 K21
    refine forget [(0, _), (4, _), (5, _), (9, _), (10, _)] ⟨rfl, rfl, rfl, rfl, rfl, trivial⟩ (fun e => ?_)
    refine c_seq (fun K22 hK22 => ?_)
    refine c_reg ?_ -- region 23 stmt.go:124
    refine wl (ro_move rfl) ?_
    refine wl (ro_move rfl) ?_
    refine wl (ro_arith (r := ((f.L.length + 3 : Nat) : Int)) rfl rfl (congrArg some (by show (f.L.length : Int) + 3 = _; omega)) (Go.IntWalk.i64_in _ (by omega))) ?_
    refine wl_call rfl en_137 (leave137 (f := ⟨f.j, (f.L ++ [[], [], [], s]), c6, l6⟩) (base := f.L.length + 3) hR.dr (by simp; omega) (by simp only; omega)) ?_
    rintro _ u14 ⟨rfl, ow14, x14, f14, r14⟩
    obtain ⟨hN, khN⟩ := cp_loc x14 f14 hN khN
    obtain ⟨h3, kh3⟩ := cp_loc x14 f14 h3 kh3
    obtain ⟨hq2a, khq2a⟩ := cp_loc x14 f14 hq2a khq2a
    obtain ⟨hq5a, khq5a⟩ := cp_loc x14 f14 hq5a khq5a
    have hs14 := hF.size
    replace hF := cp_trans hX hF f14
    replace hX := hX.trans hs14 x14
    replace hR := r14
    obtain ⟨e3, he3⟩ : ∃ z9, z9 = c6 ++ [(29, f.L.length + 3)] := ⟨_, rfl⟩
    have hle3 : e3.length = c6.length + 1 := by rw [he3, List.length_append]; rfl
    have hR : CM E _ _ _ _ (⟨f.j, (f.L ++ [[], [], [], s]).take (f.L.length + 3), c6 ++ (if f.L.length + 3 < (f.L ++ [[], [], [], s]).length then [(29, f.L.length + 3)] else []), l6⟩ :: q) := hR
    rw [if_pos (by simp), ← he3, show (f.L ++ [[], [], [], s]).take (f.L.length + 3) = (f.L ++ [[], [], []]) by rw [List.take_append, List.take_of_length_le (by omega), Nat.add_sub_cancel_left]; rfl] at hR
    refine wl_nil (x_then (hK22 _ _ ?_))
    clear hK22 K22
    refine forget [(0, _), (5, _), (9, _), (10, _)] ⟨rfl, rfl, rfl, rfl, trivial⟩ (fun e => ?_)
    refine c_seq (fun K23 hK23 => ?_)
    refine c_reg ?_ -- region 24 stmt.go:125
    refine wl (ro_move rfl) ?_
    refine wl (ro_move rfl) ?_
    refine wl (ro_build rfl bld_203_0_1) ?_
    refine wl (ro_move rfl) ?_
    refine wl (ro_arith rfl rfl rfl (Go.IntWalk.u16_in _ (by omega))) ?_
    refine wl (ro_build rfl bld_203_0_1) ?_
    refine wl (ro_build rfl bld_203_0_1) ?_
    refine wl (ro_move rfl) ?_
    refine wl (ro_build rfl bld_203_0_1) ?_
    refine wl (ro_move rfl) ?_
    refine wl (ro_conv rfl sc_3 in_201 (Go.IntWalk.u16_in _ (by simp only; omega))) ?_
    refine wl (ro_build rfl bld_203_0_1) ?_
    refine wl_em (is := [(5, f.L.length), (5, f.L.length + 2), (15, 1), (6, f.L.length), (21, e1.length)]) (eo_bsI5 rfl rfl rfl rfl rfl se_196 zx_203) rfl hR rfl (by simp; omega) ?_
    intro u15 ow15 x15 f15 r15
    obtain ⟨hN, khN⟩ := cp_loc' x15 f15 hN khN
    obtain ⟨h3, kh3⟩ := cp_loc' x15 f15 h3 kh3
    obtain ⟨hq2a, khq2a⟩ := cp_loc' x15 f15 hq2a khq2a
    obtain ⟨hq5a, khq5a⟩ := cp_loc' x15 f15 hq5a khq5a
    have hs15 := hF.size
    replace hF := cp_trans' hX hF f15
    replace hX := hX.trans hs15 x15
    replace hR := r15
    obtain ⟨c7, hc7⟩ : ∃ z9, z9 = e3 ++ [(5, f.L.length), (5, f.L.length + 2), (15, 1), (6, f.L.length), (21, e1.length)] := ⟨_, rfl⟩
    have hlc7 : c7.length = e3.length + 5 := by rw [hc7, List.length_append]; rfl
    have hR : CM E _ _ _ _ (⟨f.j, (f.L ++ [[], [], []]), e3 ++ [(5, f.L.length), (5, f.L.length + 2), (15, 1), (6, f.L.length), (21, e1.length)], l6⟩ :: q) := hR
    rw [← hc7] at hR
    refine wl_nil (x_then (hK23 _ _ ?_))
    clear hK23 K23
    refine forget [(0, _), (10, _)] ⟨rfl, rfl, trivial⟩ (fun e => ?_)
    refine c_seq (fun K24 hK24 => ?_)
    refine c_reg ?_ -- region 25 stmt.go:126
    refine wl (ro_move rfl) ?_
    refine wl_callV rfl rfl (patch237 (f := ⟨f.j, (f.L ++ [[], [], []]), c7, l6⟩) (p := c4.length) hR ⟨p2a, p5a, rfl, hq2a, khq2a, hq5a, khq5a⟩ (by show c4.length < c7.length; omega) (by show c7.length ≤ _; omega)) ?_
    rintro _ u8 ⟨rfl, ow8, x8, f8, r8⟩
    obtain ⟨hN, khN⟩ := cp_loc x8 f8 hN khN
    obtain ⟨h3, kh3⟩ := cp_loc x8 f8 h3 kh3
    obtain ⟨hq2a, khq2a⟩ := cp_loc x8 f8 hq2a khq2a
    obtain ⟨hq5a, khq5a⟩ := cp_loc x8 f8 hq5a khq5a
    have hs8 := hF.size
    replace hF := cp_trans hX hF f8
    replace hX := hX.trans hs8 x8
    replace hR := r8
    obtain ⟨c8, hc8⟩ : ∃ z9, z9 = setX c7 c4.length c7.length := ⟨_, rfl⟩
    have hlc8 : c8.length = c7.length := by rw [hc8, setX_len]
    have hR : CM E _ _ _ _ (⟨f.j, (f.L ++ [[], [], []]), setX c7 c4.length c7.length, l6⟩ :: q) := hR
    rw [← hc8] at hR
    refine wl_nil (x_then (hK24 _ _ ?_))
    clear hK24 K24
    refine c_reg ?_ -- region 26 stmt.go:127
    refine wl (ro_move rfl) ?_
    refine wl_call rfl en_236 (shut236 (f := ⟨f.j, (f.L ++ [[], [], []]), c8, l6⟩) (b := f.L.length) (br := [] ++ hp d4.length ((cmp b (f.L ++ [[], [], [], s]).length ((f.j, (f.L ++ [[], [], [], s])) :: chn q) f.L.length d4.length T4).1 65535)) (rest := f.lps) hR.dr hp6 (fun p hp ↦ by have := (hx6.lb _ (by rw [hp6]; exact List.mem_cons_self)).2.2 p hp; simp only at this ⊢; omega) (by simp only; omega) (by have := (hx6.lb _ (by rw [hp6]; exact List.mem_cons_self)).2.1; simp only at this; omega) (by have := hx0.lq; omega)) ?_
    rintro _ u16 ⟨rfl, ow16, x16, f16, r16⟩
    obtain ⟨hN, khN⟩ := cp_loc x16 f16 hN khN
    obtain ⟨h3, kh3⟩ := cp_loc x16 f16 h3 kh3
    obtain ⟨hq2a, khq2a⟩ := cp_loc x16 f16 hq2a khq2a
    obtain ⟨hq5a, khq5a⟩ := cp_loc x16 f16 hq5a khq5a
    have hs16 := hF.size
    replace hF := cp_trans hX hF f16
    replace hX := hX.trans hs16 x16
    replace hR := r16
    refine wl_nil ?_
    have hR : CM E _ _ _ S6 (⟨f.j, (f.L ++ [[], [], []]), pch c8 ([] ++ hp d4.length ((cmp b (f.L ++ [[], [], [], s]).length ((f.j, (f.L ++ [[], [], [], s])) :: chn q) f.L.length d4.length T4).1 65535)) c8.length, f.lps⟩ :: q) := hR
    rw [List.nil_append] at hR
    have hlv := leave137W (base := f.L.length) hR (by simp; omega) (by show (pch c8 _ c8.length).length ≤ _; rw [pch_len]; omega)
    refine bpd_one (args := [fptr E f.j, i64c f.L.length]) rfl en_137 hlv (fun v w' hv ↦ ⟨rfl, ZP.tr hX hF ?_⟩)
    have hz := hv.2
    have hz : ZP E _ _ _ S6 (⟨f.j, (f.L ++ [[], [], []]).take f.L.length, pch c8 (hp d4.length ((cmp b (f.L ++ [[], [], [], s]).length ((f.j, (f.L ++ [[], [], [], s])) :: chn q) f.L.length d4.length T4).1 65535)) c8.length ++ (if f.L.length < (f.L ++ [[], [], []]).length then [(29, f.L.length)] else []), f.lps⟩ :: q) w' := hz
    rw [if_pos (by simp), List.take_left] at hz
    rw [for_code (c3 := c3) (c4 := c4) (c4j := c4j) (c5 := d4) (b := f.L.length) (B1 := (cmp b (f.L ++ [[], [], [], s]).length ((f.j, (f.L ++ [[], [], [], s])) :: chn q) f.L.length d4.length T4).1 65535) (by rw [hc4, he1, hd3]) hc4j (by rw [hd4, he2]) hc6 (by rw [hc7, he3, show e1.length = c3.length + 2 by omega]) hc8] at hz
    have hL44 : (f.L ++ [[], [], [], s]).length = f.L.length + 4 := by simp
    rw [hL44] at hz hho hc6 hS6 hl6
    have hBl6 : ((cmp b (f.L.length + 4) ((f.j, (f.L ++ [[], [], [], s])) :: chn q) f.L.length d4.length T4).1 65535).length = ln (cmp b (f.L.length + 4) ((f.j, (f.L ++ [[], [], [], s])) :: chn q) f.L.length d4.length T4) := by
      have h9 := hl6
      rw [hc6, List.length_append] at h9
      omega
    have hd46 : d4.length = c3.length + 6 := by omega
    show ZP E _ _ (O ++ (numsT a ++ (numsT l ++ (numsT p ++ numsT b)))) (cmp b (f.L.length + 4) ((f.j, (f.L ++ [[], [], [], s])) :: chn q) f.L.length (f.code.length + ln (cmp a 0 (chn (f :: q)) 0 f.code.length S) + 1 + ln (cmp l 0 ((f.j, (f.L ++ [[]])) :: chn q) 0 (f.code.length + ln (cmp a 0 (chn (f :: q)) 0 f.code.length S) + 1) (declF f.j (f.L.length + 1) (cmp a 0 (chn (f :: q)) 0 f.code.length S).2)) + 1 + ln (cmp p 0 ((f.j, (f.L ++ [[], []])) :: chn q) 0 (f.code.length + ln (cmp a 0 (chn (f :: q)) 0 f.code.length S) + 1 + ln (cmp l 0 ((f.j, (f.L ++ [[]])) :: chn q) 0 (f.code.length + ln (cmp a 0 (chn (f :: q)) 0 f.code.length S) + 1) (declF f.j (f.L.length + 1) (cmp a 0 (chn (f :: q)) 0 f.code.length S).2)) + 1) (declF f.j (f.L.length + 2) (cmp l 0 ((f.j, (f.L ++ [[]])) :: chn q) 0 (f.code.length + ln (cmp a 0 (chn (f :: q)) 0 f.code.length S) + 1) (declF f.j (f.L.length + 1) (cmp a 0 (chn (f :: q)) 0 f.code.length S).2)).2)) + 6) (declF f.j (f.L.length + 4) (cmp p 0 ((f.j, (f.L ++ [[], []])) :: chn q) 0 (f.code.length + ln (cmp a 0 (chn (f :: q)) 0 f.code.length S) + 1 + ln (cmp l 0 ((f.j, (f.L ++ [[]])) :: chn q) 0 (f.code.length + ln (cmp a 0 (chn (f :: q)) 0 f.code.length S) + 1) (declF f.j (f.L.length + 1) (cmp a 0 (chn (f :: q)) 0 f.code.length S).2)) + 1) (declF f.j (f.L.length + 2) (cmp l 0 ((f.j, (f.L ++ [[]])) :: chn q) 0 (f.code.length + ln (cmp a 0 (chn (f :: q)) 0 f.code.length S) + 1) (declF f.j (f.L.length + 1) (cmp a 0 (chn (f :: q)) 0 f.code.length S).2)).2)).2)).2 (⟨f.j, f.L, f.code ++ ((cmp a 0 (chn (f :: q)) 0 f.code.length S).1 65535 ++ [(6, f.L.length)] ++ (cmp l 0 ((f.j, (f.L ++ [[]])) :: chn q) 0 (f.code.length + ln (cmp a 0 (chn (f :: q)) 0 f.code.length S) + 1) (declF f.j (f.L.length + 1) (cmp a 0 (chn (f :: q)) 0 f.code.length S).2)).1 65535 ++ [(6, f.L.length + 1)] ++ (cmp p 0 ((f.j, (f.L ++ [[], []])) :: chn q) 0 (f.code.length + ln (cmp a 0 (chn (f :: q)) 0 f.code.length S) + 1 + ln (cmp l 0 ((f.j, (f.L ++ [[]])) :: chn q) 0 (f.code.length + ln (cmp a 0 (chn (f :: q)) 0 f.code.length S) + 1) (declF f.j (f.L.length + 1) (cmp a 0 (chn (f :: q)) 0 f.code.length S).2)) + 1) (declF f.j (f.L.length + 2) (cmp l 0 ((f.j, (f.L ++ [[]])) :: chn q) 0 (f.code.length + ln (cmp a 0 (chn (f :: q)) 0 f.code.length S) + 1) (declF f.j (f.L.length + 1) (cmp a 0 (chn (f :: q)) 0 f.code.length S).2)).2)).1 65535 ++ numTail f.L.length (f.code.length + ln (cmp a 0 (chn (f :: q)) 0 f.code.length S) + 1 + ln (cmp l 0 ((f.j, (f.L ++ [[]])) :: chn q) 0 (f.code.length + ln (cmp a 0 (chn (f :: q)) 0 f.code.length S) + 1) (declF f.j (f.L.length + 1) (cmp a 0 (chn (f :: q)) 0 f.code.length S).2)) + 1 + ln (cmp p 0 ((f.j, (f.L ++ [[], []])) :: chn q) 0 (f.code.length + ln (cmp a 0 (chn (f :: q)) 0 f.code.length S) + 1 + ln (cmp l 0 ((f.j, (f.L ++ [[]])) :: chn q) 0 (f.code.length + ln (cmp a 0 (chn (f :: q)) 0 f.code.length S) + 1) (declF f.j (f.L.length + 1) (cmp a 0 (chn (f :: q)) 0 f.code.length S).2)) + 1) (declF f.j (f.L.length + 2) (cmp l 0 ((f.j, (f.L ++ [[]])) :: chn q) 0 (f.code.length + ln (cmp a 0 (chn (f :: q)) 0 f.code.length S) + 1) (declF f.j (f.L.length + 1) (cmp a 0 (chn (f :: q)) 0 f.code.length S).2)).2))) ((cmp b (f.L.length + 4) ((f.j, (f.L ++ [[], [], [], s])) :: chn q) f.L.length (f.code.length + ln (cmp a 0 (chn (f :: q)) 0 f.code.length S) + 1 + ln (cmp l 0 ((f.j, (f.L ++ [[]])) :: chn q) 0 (f.code.length + ln (cmp a 0 (chn (f :: q)) 0 f.code.length S) + 1) (declF f.j (f.L.length + 1) (cmp a 0 (chn (f :: q)) 0 f.code.length S).2)) + 1 + ln (cmp p 0 ((f.j, (f.L ++ [[], []])) :: chn q) 0 (f.code.length + ln (cmp a 0 (chn (f :: q)) 0 f.code.length S) + 1 + ln (cmp l 0 ((f.j, (f.L ++ [[]])) :: chn q) 0 (f.code.length + ln (cmp a 0 (chn (f :: q)) 0 f.code.length S) + 1) (declF f.j (f.L.length + 1) (cmp a 0 (chn (f :: q)) 0 f.code.length S).2)) + 1) (declF f.j (f.L.length + 2) (cmp l 0 ((f.j, (f.L ++ [[]])) :: chn q) 0 (f.code.length + ln (cmp a 0 (chn (f :: q)) 0 f.code.length S) + 1) (declF f.j (f.L.length + 1) (cmp a 0 (chn (f :: q)) 0 f.code.length S).2)).2)) + 6) (declF f.j (f.L.length + 4) (cmp p 0 ((f.j, (f.L ++ [[], []])) :: chn q) 0 (f.code.length + ln (cmp a 0 (chn (f :: q)) 0 f.code.length S) + 1 + ln (cmp l 0 ((f.j, (f.L ++ [[]])) :: chn q) 0 (f.code.length + ln (cmp a 0 (chn (f :: q)) 0 f.code.length S) + 1) (declF f.j (f.L.length + 1) (cmp a 0 (chn (f :: q)) 0 f.code.length S).2)) + 1) (declF f.j (f.L.length + 2) (cmp l 0 ((f.j, (f.L ++ [[]])) :: chn q) 0 (f.code.length + ln (cmp a 0 (chn (f :: q)) 0 f.code.length S) + 1) (declF f.j (f.L.length + 1) (cmp a 0 (chn (f :: q)) 0 f.code.length S).2)).2)).2)).1 (f.code.length + ln (cmp a 0 (chn (f :: q)) 0 f.code.length S) + 1 + ln (cmp l 0 ((f.j, (f.L ++ [[]])) :: chn q) 0 (f.code.length + ln (cmp a 0 (chn (f :: q)) 0 f.code.length S) + 1) (declF f.j (f.L.length + 1) (cmp a 0 (chn (f :: q)) 0 f.code.length S).2)) + 1 + ln (cmp p 0 ((f.j, (f.L ++ [[], []])) :: chn q) 0 (f.code.length + ln (cmp a 0 (chn (f :: q)) 0 f.code.length S) + 1 + ln (cmp l 0 ((f.j, (f.L ++ [[]])) :: chn q) 0 (f.code.length + ln (cmp a 0 (chn (f :: q)) 0 f.code.length S) + 1) (declF f.j (f.L.length + 1) (cmp a 0 (chn (f :: q)) 0 f.code.length S).2)) + 1) (declF f.j (f.L.length + 2) (cmp l 0 ((f.j, (f.L ++ [[]])) :: chn q) 0 (f.code.length + ln (cmp a 0 (chn (f :: q)) 0 f.code.length S) + 1) (declF f.j (f.L.length + 1) (cmp a 0 (chn (f :: q)) 0 f.code.length S).2)).2)) + 6 + ln (cmp b (f.L.length + 4) ((f.j, (f.L ++ [[], [], [], s])) :: chn q) f.L.length (f.code.length + ln (cmp a 0 (chn (f :: q)) 0 f.code.length S) + 1 + ln (cmp l 0 ((f.j, (f.L ++ [[]])) :: chn q) 0 (f.code.length + ln (cmp a 0 (chn (f :: q)) 0 f.code.length S) + 1) (declF f.j (f.L.length + 1) (cmp a 0 (chn (f :: q)) 0 f.code.length S).2)) + 1 + ln (cmp p 0 ((f.j, (f.L ++ [[], []])) :: chn q) 0 (f.code.length + ln (cmp a 0 (chn (f :: q)) 0 f.code.length S) + 1 + ln (cmp l 0 ((f.j, (f.L ++ [[]])) :: chn q) 0 (f.code.length + ln (cmp a 0 (chn (f :: q)) 0 f.code.length S) + 1) (declF f.j (f.L.length + 1) (cmp a 0 (chn (f :: q)) 0 f.code.length S).2)) + 1) (declF f.j (f.L.length + 2) (cmp l 0 ((f.j, (f.L ++ [[]])) :: chn q) 0 (f.code.length + ln (cmp a 0 (chn (f :: q)) 0 f.code.length S) + 1) (declF f.j (f.L.length + 1) (cmp a 0 (chn (f :: q)) 0 f.code.length S).2)).2)) + 6) (declF f.j (f.L.length + 4) (cmp p 0 ((f.j, (f.L ++ [[], []])) :: chn q) 0 (f.code.length + ln (cmp a 0 (chn (f :: q)) 0 f.code.length S) + 1 + ln (cmp l 0 ((f.j, (f.L ++ [[]])) :: chn q) 0 (f.code.length + ln (cmp a 0 (chn (f :: q)) 0 f.code.length S) + 1) (declF f.j (f.L.length + 1) (cmp a 0 (chn (f :: q)) 0 f.code.length S).2)) + 1) (declF f.j (f.L.length + 2) (cmp l 0 ((f.j, (f.L ++ [[]])) :: chn q) 0 (f.code.length + ln (cmp a 0 (chn (f :: q)) 0 f.code.length S) + 1) (declF f.j (f.L.length + 1) (cmp a 0 (chn (f :: q)) 0 f.code.length S).2)).2)).2)) + 6))), f.lps⟩ :: q) _
    rw [← hl1, ← hS1, ← hT1, ← hld1, ← hl2, ← hS2, ← hT2, ← hld2, ← hl3, ← hS3, ← eT4, ← hd46, ← hS6]
    rw [show f.code ++ ((cmp a 0 (chn (f :: q)) 0 f.code.length S).1 65535 ++ [(6, f.L.length)] ++ (cmp l 0 ((f.j, (f.L ++ [[]])) :: chn q) 0 d1.length T1).1 65535 ++ [(6, f.L.length + 1)] ++ (cmp p 0 ((f.j, (f.L ++ [[], []])) :: chn q) 0 d2.length T2).1 65535 ++ numTail f.L.length c3.length ((cmp b (f.L.length + 4) ((f.j, (f.L ++ [[], [], [], s])) :: chn q) f.L.length d4.length T4).1 (d4.length + ln (cmp b (f.L.length + 4) ((f.j, (f.L ++ [[], [], [], s])) :: chn q) f.L.length d4.length T4) + 6))) = c3 ++ numTail f.L.length c3.length ((cmp b (f.L.length + 4) ((f.j, (f.L ++ [[], [], [], s])) :: chn q) f.L.length d4.length T4).1 (d4.length + ln (cmp b (f.L.length + 4) ((f.j, (f.L ++ [[], [], [], s])) :: chn q) f.L.length d4.length T4) + 6)) from cat5 hc1 hd1 hc2 hd2 hc3]
    rw [List.append_assoc, List.append_assoc, List.append_assoc] at hz
    rw [← hd46] at hz
    rw [← hho, hBl6] at hz
    exact hz
  · try simp only [decide_eq_true_eq, decide_eq_false_iff_not, Bool.not_eq_true', Bool.not_eq_false', Bool.not_eq_eq_eq_not, Bool.not_true, Bool.not_false, beq_iff_eq, bne_iff_ne, ne_eq, beq_eq_false_iff_ne, bne_eq_false_iff_eq, gt_iff_lt, ge_iff_le, Int.not_lt, Int.not_le] at hc55
    exact absurd (by omega) hn3
end
end Go.Proofs.Qxb6500568aGreatDoor
