import Derived.Test.Qxb6500569aGreatSb
/- The model's search: a call. -/
namespace Go.Proofs.Qxb6500569aGreat
set_option linter.unusedVariables false
set_option linter.unusedSimpArgs false

theorem kidsS_lt {hp : List Nd} (wf : WFH hp) {root frm lvl left : Nat} (hr : root < hp.length) {g : Gl} (h : g ∈ kidsS hp root frm lvl left) : g.1 < hp.length := by
  unfold kidsS at h
  obtain ⟨a, ha, rfl⟩ := List.mem_map.1 h
  obtain ⟨j, _, hj⟩ := List.mem_filterMap.1 ha
  exact argOf_lt wf hr hj

set_option maxHeartbeats 4000000 in
theorem dfs37_call {cls : List Cl2} (ok : POK cls) {sb : Nat} {VT VC : Value} {C : SC} {f : Nat} (IH : DSpec cls sb VT VC C f) {w : World} {hb : Nat} {VL VH v : Value} {st : SSt} {hp : List Nd} {g : Gl} {gs : List Gl} {proof : List UInt8} {lvl left : Nat}
    (P : DPre cls (f + 1) w sb hb VL VH VT VC v C st hp (g :: gs) proof lvl left) (hcut : hd hp g.1 ≠ [33, 48]) :
    Ret Tryz.prog 37 [ptr sb, ptr hb, v, S proof, i64c lvl, i64c left] w (DPost sb VL C w (dfsF cls C.fuel (f + 1) hp (g :: gs) proof lvl left st)) := by
  obtain ⟨b, o, c, l, rfl, hc, hBl, h0, h1, h2, hGt⟩ := gsl_head P.gsl
  have M := P.mh
  have MS := P.ms
  have hB := MS.blk
  have hok := P.hok
  have hg := P.ga g (by simp)
  have hfu := P.fu
  have hfm := P.fm
  simp only [List.length_cons] at hfu
  have hI := P.inf; have hF := P.fl; have hph := P.ph; have hps := P.ps; have hpl := P.pl; have hlv := P.lv; have hlf := P.lf
  have h8 := ok.n8
  obtain ⟨ids, hids⟩ : ∃ ids, ids = matchS cls (hd hp g.1) (hdO hp (argOf hp g.1 0)) := ⟨_, rfl⟩
  have hil : ids.length ≤ 8 := by rw [hids]; have := matchS_len cls (hd hp g.1) (hdO hp (argOf hp g.1 0)); omega
  have hmem : ∀ k ∈ ids, ∃ j c, k.toNat = 48 + j ∧ j < 8 ∧ cls[j]? = some c ∧ c ∈ cls ∧ cls.getD (k.toNat - 48) ([], []) = c := fun k hk => matchS_mem h8 (by rw [← hids]; exact hk)
  have hval : dfsF cls C.fuel (f + 1) hp (g :: gs) proof lvl left st = tryL cls C.fuel (dfsF cls C.fuel f) hp g.1 gs proof lvl left ids st := by
    simp only [dfsF]; rw [if_neg hcut, ← hids]
  rw [hval]
  obtain ⟨X, hX⟩ : ∃ X, X = tryL cls C.fuel (dfsF cls C.fuel f) hp g.1 gs proof lvl left ids st := ⟨_, rfl⟩
  rw [← hX]
  have hhd := Head64o M hok (argOf hp g.1 0) (fun k hk => argOf_lt hok.wf hg.1 hk)
  have hne : (hd hp g.1 == [33, 48]) = false := by simpa using hcut
  refine ret_of Tryz.func37 rfl Tryz.ntmps37 rfl ?_
  refine c_seq (fun K1 hK1 => ?_)
  refine c_reg ?_ -- region 0 solvem.go:98
  refine wl (ro_assign rfl) ?_
  refine wl_nil (x_then (hK1 _ _ ?_))
  clear hK1 K1
  refine c_seq (fun K2 hK2 => ?_)
  refine c_seq (fun K3 hK3 => ?_)
  refine c_reg ?_ -- region 1 solvem.go:99
  refine wl (ro_move rfl) ?_
  refine wl (ro_lenL rfl se_90) ?_
  refine wl (ro_cmp (r := false) rfl rfl (by simp; omega)) ?_
  refine wl_nil (x_then (hK3 _ _ ?_))
  clear hK3 K3
  refine wc_condF rfl ?_
  refine c_skip (x_then (hK2 _ _ ?_))
  clear hK2 K2
  refine forget [(0, _), (1, _), (2, _), (3, _), (4, _), (5, _)] ⟨rfl, rfl, rfl, rfl, rfl, rfl, trivial⟩ (fun e => ?_)
  refine c_seq (fun K4 hK4 => ?_)
  refine c_reg ?_ -- region 11 solvem.go:112
  refine wl (ro_move rfl) ?_
  refine wl (ro_move rfl) ?_
  refine wl (ro_indexAddr (et := 127) (k := 3) rfl rfl se_90 rfl (Nat.succ_pos _)) ?_
  refine wl (ro_fieldAddr (k := 0) rfl fo_127_0) ?_
  refine wl (ro_loadB rfl sc_3 (hBl) ((by simpa using h0))) ?_
  refine wl_call rfl en_64 (Head64 M hok.wf hg.1 hok.cap) ?_
  rintro _ w ⟨rfl, rfl⟩
  refine wl (ro_assign rfl) ?_
  refine wl_nil (x_then (hK4 _ _ ?_))
  clear hK4 K4
  refine c_seq (fun K5 hK5 => ?_)
  refine c_seq (fun K6 hK6 => ?_)
  refine c_reg ?_ -- region 12 solvem.go:113
  refine wl (ro_move rfl) ?_
  refine wl (ro_eqS (r := false) rfl rfl (by rw [hne])) ?_
  refine wl_nil (x_then (hK6 _ _ ?_))
  clear hK6 K6
  refine wc_condF rfl ?_
  refine c_skip (x_then (hK5 _ _ ?_))
  clear hK5 K5
  refine forget [(0, _), (1, _), (2, _), (3, _), (4, _), (5, _), (16, _)] ⟨rfl, rfl, rfl, rfl, rfl, rfl, rfl, trivial⟩ (fun e => ?_)
  refine c_seq (fun K7 hK7 => ?_)
  refine c_reg ?_ -- region 17 solvem.go:120
  refine wl (ro_move rfl) ?_
  refine wl (ro_move rfl) ?_
  refine wl (ro_indexAddr (et := 127) (k := 3) rfl rfl se_90 rfl (Nat.succ_pos _)) ?_
  refine wl (ro_fieldAddr (k := 0) rfl fo_127_0) ?_
  refine wl (ro_loadB rfl sc_3 (hBl) ((by simpa using h0))) ?_
  refine wl_call rfl en_62 (Arg62 M hok.wf hg.1 hok.cap 0 (by omega)) ?_
  rintro _ w ⟨rfl, rfl⟩
  refine wl (ro_assign rfl) ?_
  refine wl_nil (x_then (hK7 _ _ ?_))
  clear hK7 K7
  refine forget [(0, _), (1, _), (2, _), (3, _), (4, _), (5, _), (16, _), (18, _)] ⟨rfl, rfl, rfl, rfl, rfl, rfl, rfl, rfl, trivial⟩ (fun e => ?_)
  refine c_seq (fun K8 hK8 => ?_)
  refine c_reg ?_ -- region 18 solvem.go:121
  refine wl (ro_move rfl) ?_
  refine wl (ro_move rfl) ?_
  refine wl_call rfl en_64 (hhd) ?_
  rintro _ w ⟨rfl, rfl⟩
  refine wl (ro_assign rfl) ?_
  refine wl_nil (x_then (hK8 _ _ ?_))
  clear hK8 K8
  refine forget [(0, _), (1, _), (2, _), (3, _), (4, _), (5, _), (16, _), (19, _)] ⟨rfl, rfl, rfl, rfl, rfl, rfl, rfl, rfl, trivial⟩ (fun e => ?_)
  refine c_seq (fun K9 hK9 => ?_)
  refine c_reg ?_ -- region 19 solvem.go:122
  refine wl (ro_move rfl) ?_
  refine wl (ro_nilCheck rfl) ?_
  refine wl (ro_fieldAddr (k := 0) rfl fo_49_0) ?_
  refine wl (ro_loadB rfl sc_44 (hB) rfl) ?_
  refine wl (ro_move rfl) ?_
  refine wl (ro_move rfl) ?_
  refine wl_call rfl en_65 (Match65 P.mp ok (hd hp g.1) (hdO hp (argOf hp g.1 0))) ?_
  rintro _ w ⟨rfl, rfl⟩
  rw [← hids]
  refine wl (ro_assign rfl) ?_
  refine wl_nil (x_then (hK9 _ _ ?_))
  clear hK9 K9
  refine c_seq (fun K10 hK10 => ?_)
  refine c_seq (fun K11 hK11 => ?_)
  refine c_reg ?_ -- region 20 solvem.go:123
  refine wl (ro_assign rfl) ?_
  refine wl_nil (x_then (hK11 _ _ ?_))
  clear hK11 K11
  refine c_block ?_
  -- loop@r21: live slots [0, 1, 2, 3, 4, 5, 20, 21]
  refine c_loopG (fun m a' w' => ∃ i st' VL', m = ids.length - i ∧ i ≤ ids.length ∧ tryL cls C.fuel (dfsF cls C.fuel f) hp g.1 gs proof lvl left (ids.drop i) st' = X ∧ SM w'.heap sb VL' C st' ∧ (∀ b, VL'.ownBlock = some b → VL.ownBlock = some b ∨ w.heap.size ≤ b) ∧ Fram (SFoot sb VL) w w' ∧ st.inf ≤ st'.inf ∧ st'.inf ≤ C.fuel ∧ st'.fin = 0 ∧ phi st' ≤ phi st + i ∧ psi st' ≤ psi st ∧ ∃ e, a' = Fr 243 (upds e [(0, ptr sb), (1, ptr hb), (2, .slice (some ⟨b, o, none⟩) (gs.length + 1) c), (3, S proof), (4, i64c lvl), (5, i64c left), (20, S ids), (21, i64c i)]) []) ids.length ⟨0, st, VL, rfl, by omega, hX.symm, MS, fun b h => .inl h, Fram.refl _ _, Nat.le_refl _, hI, P.fin, by omega, Nat.le_refl _, kp _ ⟨rfl, rfl, rfl, rfl, rfl, rfl, rfl, rfl, trivial⟩⟩ ?_
  clear hB
  rintro m a' w1 ⟨i, s1, VL1, rfl, hi, hT, MS1, hn1, F1, hin1, hin2, hfi, hp1, hp2, e, rfl⟩
  have M1 := M.framT F1 MS.typ rfl rfl
  have MP1 := P.mp.framT F1 MS.typ rfl rfl
  have hBl1 : Blk w1.heap b l 127 := hBl.framT F1 MS.typ rfl
  have hGt1 := hGt.framT F1 MS.typ rfl
  have hB1 := MS1.blk
  have hSF : ∀ k, k < w.heap.size → SFoot sb VL1 k → SFoot sb VL k := fun k hk hx => by
    rcases hx with hx | hx
    · exact .inl hx
    · rcases hn1 k hx with h | h
      · exact .inr h
      · omega
  refine c_seq (fun K12 hK12 => ?_)
  refine c_seq (fun K13 hK13 => ?_)
  refine c_reg ?_ -- region 21 solvem.go:123
  refine wl (ro_move rfl) ?_
  refine wl (ro_move rfl) ?_
  refine wl (ro_lenS rfl st_9) ?_
  refine wl (ro_cmp rfl rfl rfl) ?_
  refine wl_nil (x_then (hK13 _ _ ?_))
  clear hK13 K13
  refine wc_cond rfl (fun hc124 => ?_) (fun hc124 => ?_)
  · try simp only [decide_eq_true_eq, decide_eq_false_iff_not, Bool.not_eq_true', Bool.not_eq_false', Bool.not_eq_eq_eq_not, Bool.not_true, Bool.not_false, beq_iff_eq, bne_iff_ne, ne_eq, beq_eq_false_iff_ne, bne_eq_false_iff_eq, gt_iff_lt, ge_iff_le, Int.not_lt, Int.not_le] at hc124
    have hilt : i < ids.length := by omega
    obtain ⟨id, hid⟩ : ∃ id, ids[i]? = some id := ⟨_, List.getElem?_eq_getElem hilt⟩
    have hdi : ids.drop i = id :: ids.drop (i + 1) := by rw [List.drop_eq_getElem_cons hilt, (List.getElem?_eq_some_iff.1 hid).2]
    rw [hdi] at hT
    obtain ⟨j, cl, hkj, hj8, hcj, hcm, hgd⟩ := hmem id (List.mem_of_getElem? hid)
    have hcs := ok.cs cl hcm
    have hctl := ok.tl cl hcm
    obtain ⟨hgood, hcl⟩ := compS_ok hcs
    have hlay := good_nsOf hgood hp.length
    obtain ⟨nA, rA, hnA1, hnA2, hcode⟩ := compS_head hcs
    rw [tryL] at hT
    simp only [hgd] at hT
    obtain ⟨ns, hns⟩ : ∃ ns, ns = nsOf cl.2 hp.length := ⟨_, rfl⟩
    rw [← hns] at hT hlay
    have hcv : Value.int .i64 ((id.toNat : Int) - 48) = i64c j := by rw [hkj]; show Value.int _ _ = Value.int _ _; congr 1; omega
    refine c_skip (x_then (hK12 _ _ ?_))
    clear hK12 K12
    refine forget [(0, _), (1, _), (2, _), (3, _), (4, _), (5, _), (20, _), (21, _)] ⟨rfl, rfl, rfl, rfl, rfl, rfl, rfl, rfl, trivial⟩ (fun e => ?_)
    refine c_seq (fun K14 hK14 => ?_)
    refine c_block ?_
    refine c_seq (fun K15 hK15 => ?_)
    refine c_pi [(0, false), (1, false), (2, false), (3, false), (4, false), (5, false), (6, false), (7, false), (8, false), (9, true), (10, false), (11, false), (12, false), (13, false), (14, false)] (SameH w1.heap) mixed (by kernel_rfl) rfl (by kernel_rfl) (po_then (po_blk (po_then (po_then (po_blk (po_then (po_bp))))))) (rfl) ?_ -- region 23 solvem.go:124
    refine pi_ro rfl (fun w hS => ro_move rfl) ?_
    refine pi_ro rfl (fun w hS => ro_nilCheck rfl) ?_
    refine pi_ro rfl (fun w hS => ro_fieldAddr (k := 0) rfl fo_49_0) ?_
    refine pi_ro rfl (fun w hS => ro_loadB rfl sc_44 (Blk.of_heap hB1 hS) rfl) ?_
    refine pi_ro rfl (fun w hS => ro_move rfl) ?_
    refine pi_ro rfl (fun w hS => ro_move rfl) ?_
    refine pi_ro rfl (fun w hS => ro_indexS rfl rfl st_9 (rfl) (hid)) ?_
    refine pi_ro rfl (fun w hS => ro_arith rfl rfl rfl (Go.IntWalk.u8_in _ (by omega))) ?_
    refine pi_ro rfl (fun w hS => (show RO _ _ _ _ _ (i64c j) from hcv ▸ ro_conv rfl sc_5 in_3 (Go.IntWalk.i64_in _ (by omega)))) ?_
    refine pi_call rfl rfl en_66 (Code66 (w := { w1 with drawn := w1.drawn + 1 }) MP1 hcj h8) ?_
    rintro _ _ ⟨rfl, rfl⟩
    refine ⟨rfl, ?_⟩
    refine pi_ro rfl (fun w hS => ro_move rfl) ?_
    refine pi_ro rfl (fun w hS => ro_extract rfl rfl) ?_
    refine pi_ro rfl (fun w hS => ro_extract rfl rfl) ?_
    refine pi_ro rfl (fun w hS => ro_assign rfl) ?_
    refine pi_ro rfl (fun w hS => ro_assign rfl) ?_
    refine gen3 (A := fun w2 => SM w2.heap sb VL1 C s1 ∧ MH w2.heap hb VH hp ∧ MP w2.heap C.mpb VT VC cls) (B := fun w2 => Blk w2.heap b l 127 ∧ GSl w2.heap (.slice (some (if c = 1 then ⟨b, o, none⟩ else ⟨b, o + 1 * 3, none⟩)) (gs.length + 1 - 1) (c - 1)) gs) (D := fun w2 => Fram (SFoot sb VL) w w2) (C := fun w2 => WP _ _ _ _ _ _ w2) ⟨MS1, M1, MP1⟩ ⟨hBl1, hGt1⟩ (F1.trans (Fram.drew _ w1 (w1.drawn + 1))) ?_
    clear MS1 M1 MP1 hBl1 hGt1 F1 hB1
    rintro w1 ⟨MS1, M1, MP1⟩ ⟨hBl1, hGt1⟩ F1
    refine pi_nil (x_then (hK15 _ _ ?_))
    clear hK15 K15
    refine forget [(0, _), (1, _), (2, _), (3, _), (4, _), (5, _), (20, _), (21, _), (22, _)] ⟨rfl, rfl, rfl, rfl, rfl, rfl, rfl, rfl, rfl, trivial⟩ (fun e => ?_)
    refine c_seq (fun K16 hK16 => ?_)
    refine c_reg ?_ -- region 24 solvem.go:125
    refine wl (ro_move rfl) ?_
    refine wl_call rfl en_67 (Clone67 M1 P.pos hok.cap) ?_
    rintro _ w2 ⟨V2, rfl, MH2, hnV2, F2⟩
    obtain ⟨cb, hcb⟩ : ∃ cb, cb = w1.heap.size := ⟨_, rfl⟩
    rw [← hcb] at MH2 hnV2 ⊢
    have MS2 := MS1.none F2
    have hB2 := MS2.blk
    have hBl2 : Blk w2.heap b l 127 := hBl1.fram F2 (fun h => h)
    have hGt2 := hGt1.none F2
    have MP2 := MP1.fram F2 (fun _ _ h => h)
    have hwc : w.heap.size ≤ cb := by have := F1.size; omega
    have hmf2 : ∀ b, MFoot cb V2 b → cb ≤ b := by
      rintro b (h | h)
      · omega
      · have := hnV2 b h; omega
    refine wl (ro_assign rfl) ?_
    refine wl_nil (x_then (hK16 _ _ ?_))
    clear hK16 K16
    refine forget [(0, _), (1, _), (2, _), (3, _), (4, _), (5, _), (20, _), (21, _), (22, _), (24, _)] ⟨rfl, rfl, rfl, rfl, rfl, rfl, rfl, rfl, rfl, rfl, trivial⟩ (fun e => ?_)
    refine c_seq (fun K17 hK17 => ?_)
    refine c_reg ?_ -- region 25 solvem.go:126
    refine wl (ro_move rfl) ?_
    refine wl (ro_nilCheck rfl) ?_
    refine wl (ro_fieldAddr (k := 7) rfl fo_49_7) ?_
    refine wl (ro_loadB rfl sc_3 (hB2) rfl) ?_
    refine wl (ro_arith rfl rfl rfl (Go.IntWalk.i64_in _ (by unfold phi at hp1 hph; omega))) ?_
    refine wl (ro_nilCheck rfl) ?_
    refine wl (ro_fieldAddr (k := 7) rfl fo_49_7) ?_
    refine wls (so_storeB rfl rfl rfl sz_3 (hB2) (by simp)) ?_
    obtain ⟨MS3, F3⟩ := MS2.up s1.inf (s1.tried + 1) s1.fin
    have MH3 := MH2.framT F3 MS2.typ rfl rfl
    have MP3 := MP2.framT F3 MS2.typ rfl rfl
    have hBl3 : Blk _ b l 127 := hBl2.framT F3 MS2.typ rfl
    have hGt3 := hGt2.framT F3 MS2.typ rfl
    have F03 := (F1.trans' F2 (fun _ _ h => h.elim)).trans' F3 hSF
    refine gen3 (A := fun w3 => SM w3.heap sb VL1 C ⟨s1.inf, s1.tried + 1, s1.fin, s1.list⟩ ∧ MH w3.heap cb V2 hp ∧ MP w3.heap C.mpb VT VC cls) (B := fun w3 => Blk w3.heap b l 127 ∧ GSl w3.heap (.slice (some (if c = 1 then ⟨b, o, none⟩ else ⟨b, o + 1 * 3, none⟩)) (gs.length + 1 - 1) (c - 1)) gs) (D := fun w3 => Fram (SFoot sb VL) w w3) (C := fun w3 => WL _ _ _ _ _ w3) ⟨MS3, MH3, MP3⟩ ⟨hBl3, hGt3⟩ F03 ?_
    clear MS3 MH3 MP3 hBl3 hGt3 F03 F3 MS2 hB2 MH2 MP2 hBl2 hGt2 F2 MS1 M1 MP1 hBl1 hGt1 F1
    rintro w3 ⟨MS3, MH3, MP3⟩ ⟨hBl3, hGt3⟩ F03
    refine wl_nil (x_then (hK17 _ _ ?_))
    clear hK17 K17
    refine forget [(0, _), (1, _), (2, _), (3, _), (4, _), (5, _), (20, _), (21, _), (22, _), (24, _)] ⟨rfl, rfl, rfl, rfl, rfl, rfl, rfl, rfl, rfl, rfl, trivial⟩ (fun e => ?_)
    refine c_seq (fun K18 hK18 => ?_)
    have hcl48 : cl.2.length ≤ 48 := by omega
    have hLd := Load35 MH3 hlay hcl48 hok.cap
    by_cases h64 : 64 < hp.length + ns.length
    · skip
      have hLa : Ret Tryz.prog 35 [ptr cb, S cl.2] w3 (fun r w' => r = .tuple #[.int .i64 (-1), i64c 6] ∧ Fram none' w3 w') := hLd.mono (by intro r w' h; unfold MLoadPost at h; rw [if_pos h64] at h; exact h)
      rw [if_pos h64] at hT
      refine c_reg ?_ -- region 26 solvem.go:127
      refine wl (ro_move rfl) ?_
      refine wl (ro_move rfl) ?_
      refine wl_call rfl en_35 (hLa) ?_
      rintro _ w4 ⟨rfl, F4⟩
      have MS4 := MS3.none F4
      have hB4 := MS4.blk
      refine wl (ro_move rfl) ?_
      refine wl (ro_extract rfl rfl) ?_
      refine wl (ro_extract rfl rfl) ?_
      refine wl (ro_assign rfl) ?_
      refine wl (ro_assign rfl) ?_
      refine wl_nil (x_then (hK18 _ _ ?_))
      clear hK18 K18
      refine c_seq (fun K19 hK19 => ?_)
      refine c_seq (fun K20 hK20 => ?_)
      refine c_reg ?_ -- region 27 solvem.go:128
      refine wl (ro_move rfl) ?_
      refine wl (ro_cmp rfl rfl rfl) ?_
      refine wl_nil (x_then (hK20 _ _ ?_))
      clear hK20 K20
      refine wc_condT rfl ?_
      refine c_seq (fun K21 hK21 => ?_)
      refine c_reg ?_ -- region 28 solvem.go:129
      refine wl (ro_move rfl) ?_
      refine wl (ro_move rfl) ?_
      refine wl (ro_nilCheck rfl) ?_
      refine wl (ro_fieldAddr (k := 8) rfl fo_49_8) ?_
      refine wls (so_storeB rfl rfl rfl sz_47 (hB4) (by simp)) ?_
      obtain ⟨MS5, F5⟩ := MS4.up s1.inf (s1.tried + 1) 6
      refine wl_nil (x_then (hK21 _ _ ?_))
      clear hK21 K21
      refine forget [] trivial (fun e => ?_)
      refine c_seq (fun K22 hK22 => ?_)
      refine c_reg ?_ -- region 29 solvem.go:130
      refine wl (ro_assign rfl) ?_
      refine wl_nil (x_then (hK22 _ _ ?_))
      clear hK22 K22
      refine c_ret (x_thenR (x_blkR (x_thenR (x_thenR (x_blkR (x_thenR ?_))))))
      refine bp_ret Tryz.results37 rfl ?_
      rw [← hT]
      exact ⟨rfl, VL1, MS5, hn1, (F03.trans' F4 (fun _ _ h => h.elim)).trans' F5 hSF⟩
    · skip
      have hLb : Ret Tryz.prog 35 [ptr cb, S cl.2] w3 (fun r w' => r = .tuple #[i64c hp.length, i64c 0] ∧ ∃ V', MH w'.heap cb V' (hp ++ ns) ∧ (∀ b, V'.ownBlock = some b → V2.ownBlock = some b ∨ w3.heap.size ≤ b) ∧ Fram (MFoot cb V2) w3 w') := hLd.mono (by intro r w' h; unfold MLoadPost at h; rw [if_neg h64] at h; exact h)
      rw [if_neg h64] at hT
      refine c_reg ?_ -- region 26 solvem.go:127
      refine wl (ro_move rfl) ?_
      refine wl (ro_move rfl) ?_
      refine wl_call rfl en_35 (hLb) ?_
      rintro _ w4 ⟨rfl, V4, MH4, hV4, F4⟩
      obtain ⟨hok4, h44⟩ := lays_hok hok hlay (by omega)
      have h4 := h44 P.mh.a4
      obtain ⟨k0, hk0, hk0l, hrl⟩ := root_arg hok4 hnA1 hnA2 (hcode ▸ hlay)
      rw [hk0] at hT
      simp only [Option.getD_some] at hT
      have MS4 := MS3.framT F4 MH3.typ rfl rfl
      have MP4 := MP3.framT F4 MH3.typ rfl rfl
      have hBl4 : Blk w4.heap b l 127 := hBl3.framT F4 MH3.typ rfl
      have hGt4 := hGt3.framT F4 MH3.typ rfl
      have hcs3 := MH3.blk.lt
      have F04 : Fram (SFoot sb VL) w w4 := F03.trans' F4 (fun k hk hx => by have := hmf2 k hx; omega)
      have hmf4 : ∀ b, MFoot cb V4 b → cb ≤ b := by
        rintro b (h | h)
        · omega
        · rcases hV4 b h with h | h
          · exact hmf2 b (.inr h)
          · omega
      clear MS3 MH3 MP3 hBl3 hGt3 F03 F4 hLd hLb
      refine wl (ro_move rfl) ?_
      refine wl (ro_extract rfl rfl) ?_
      refine wl (ro_extract rfl rfl) ?_
      refine wl (ro_assign rfl) ?_
      refine wl (ro_assign rfl) ?_
      refine wl_nil (x_then (hK18 _ _ ?_))
      clear hK18 K18
      refine c_seq (fun K23 hK23 => ?_)
      refine c_seq (fun K24 hK24 => ?_)
      refine c_reg ?_ -- region 27 solvem.go:128
      refine wl (ro_move rfl) ?_
      refine wl (ro_cmp rfl rfl rfl) ?_
      refine wl_nil (x_then (hK24 _ _ ?_))
      clear hK24 K24
      refine wc_condF rfl ?_
      refine c_skip (x_then (hK23 _ _ ?_))
      clear hK23 K23
      refine forget [(0, _), (1, _), (2, _), (3, _), (4, _), (5, _), (20, _), (21, _), (24, _), (25, _)] ⟨rfl, rfl, rfl, rfl, rfl, rfl, rfl, rfl, rfl, rfl, trivial⟩ (fun e => ?_)
      refine c_seq (fun K25 hK25 => ?_)
      refine c_reg ?_ -- region 30 solvem.go:132
      refine wl (ro_move rfl) ?_
      refine wl (ro_move rfl) ?_
      refine wl_call rfl en_62 (Arg62 MH4 hok4.wf hrl hok4.cap 0 (by omega)) ?_
      rintro _ w4 ⟨rfl, rfl⟩
      rw [hk0]
      refine wl (ro_assign rfl) ?_
      refine wl_nil (x_then (hK25 _ _ ?_))
      clear hK25 K25
      refine forget [(0, _), (1, _), (2, _), (3, _), (4, _), (5, _), (20, _), (21, _), (24, _), (25, _), (27, _)] ⟨rfl, rfl, rfl, rfl, rfl, rfl, rfl, rfl, rfl, rfl, rfl, trivial⟩ (fun e => ?_)
      refine c_seq (fun K26 hK26 => ?_)
      have hU := Unify68 MH4 hok4 (a := g.1) (b := k0) (by simp; omega) hk0l
      obtain ⟨u, hu⟩ : ∃ u, u = uniS [(g.1, k0)] (hp ++ ns) 0 := ⟨_, rfl⟩
      unfold MUniPost at hU
      rw [← hu] at hT hU
      rcases (by omega : u.2.1 = 8 ∨ (u.2.1 ≠ 8 ∧ u.2.1 ≠ 0) ∨ u.2.1 = 0) with hu8 | ⟨hu8, hu0⟩ | hu0
      · skip
        have hUa : Ret Tryz.prog 68 [ptr cb, i64c g.1, i64c k0] w4 (fun r w' => r = .tuple #[i64c 0, i64c 8] ∧ Fram (MFoot cb V4) w4 w') := hU.mono (by rintro r w' ⟨V', h1, h2, h3⟩; rw [if_neg (by omega), hu8] at h3; exact ⟨h3.1, h2⟩)
        refine c_reg ?_ -- region 31 solvem.go:133
        refine wl (ro_move rfl) ?_
        refine wl (ro_move rfl) ?_
        refine wl (ro_indexAddr (et := 127) (k := 3) rfl rfl se_90 rfl (Nat.succ_pos _)) ?_
        refine wl (ro_fieldAddr (k := 0) rfl fo_127_0) ?_
        refine wl (ro_loadB rfl sc_3 (hBl4) ((by simpa using h0))) ?_
        refine wl (ro_move rfl) ?_
        refine wl_call rfl en_68 (hUa) ?_
        rintro _ w5 ⟨rfl, F5⟩
        have MS5 := MS4.framT F5 MH4.typ rfl rfl
        have hB5 := MS5.blk
        have F05 : Fram (SFoot sb VL) w w5 := F04.trans' F5 (fun k hk hx => by have := hmf4 k hx; omega)
        refine wl (ro_move rfl) ?_
        refine wl (ro_extract rfl rfl) ?_
        refine wl (ro_extract rfl rfl) ?_
        refine wl (ro_assign rfl) ?_
        refine wl_nil (x_then (hK26 _ _ ?_))
        clear hK26 K26
        refine c_seq (fun K27 hK27 => ?_)
        refine c_seq (fun K28 hK28 => ?_)
        refine c_reg ?_ -- region 32 solvem.go:134
        refine wl (ro_move rfl) ?_
        refine wl (ro_cmp rfl rfl rfl) ?_
        refine wl_nil (x_then (hK28 _ _ ?_))
        clear hK28 K28
        refine wc_condT rfl ?_
        refine c_seq (fun K29 hK29 => ?_)
        refine c_reg ?_ -- region 33 solvem.go:135
        refine wl (ro_move rfl) ?_
        refine wl (ro_move rfl) ?_
        refine wl (ro_nilCheck rfl) ?_
        refine wl (ro_fieldAddr (k := 8) rfl fo_49_8) ?_
        refine wls (so_storeB rfl rfl rfl sz_47 (hB5) (by simp)) ?_
        obtain ⟨MS6, F6⟩ := MS5.up s1.inf (s1.tried + 1) 8
        refine wl_nil (x_then (hK29 _ _ ?_))
        clear hK29 K29
        refine forget [] trivial (fun e => ?_)
        refine c_seq (fun K30 hK30 => ?_)
        refine c_reg ?_ -- region 34 solvem.go:136
        refine wl (ro_assign rfl) ?_
        refine wl_nil (x_then (hK30 _ _ ?_))
        clear hK30 K30
        refine c_ret (x_thenR (x_blkR (x_thenR (x_thenR (x_blkR (x_thenR ?_))))))
        refine bp_ret Tryz.results37 rfl ?_
        rw [if_pos hu8] at hT
        rw [← hT]
        exact ⟨rfl, VL1, MS6, hn1, F05.trans' F6 hSF⟩
      · skip
        have hUb : Ret Tryz.prog 68 [ptr cb, i64c g.1, i64c k0] w4 (fun r w' => r = .tuple #[i64c 0, i64c u.2.1] ∧ Fram (MFoot cb V4) w4 w') := hU.mono (by rintro r w' ⟨V', h1, h2, h3⟩; rw [if_neg (by omega)] at h3; exact ⟨h3.1, h2⟩)
        refine c_reg ?_ -- region 31 solvem.go:133
        refine wl (ro_move rfl) ?_
        refine wl (ro_move rfl) ?_
        refine wl (ro_indexAddr (et := 127) (k := 3) rfl rfl se_90 rfl (Nat.succ_pos _)) ?_
        refine wl (ro_fieldAddr (k := 0) rfl fo_127_0) ?_
        refine wl (ro_loadB rfl sc_3 (hBl4) ((by simpa using h0))) ?_
        refine wl (ro_move rfl) ?_
        refine wl_call rfl en_68 (hUb) ?_
        rintro _ w5 ⟨rfl, F5⟩
        have MS5 := MS4.framT F5 MH4.typ rfl rfl
        have F05 : Fram (SFoot sb VL) w w5 := F04.trans' F5 (fun k hk hx => by have := hmf4 k hx; omega)
        refine wl (ro_move rfl) ?_
        refine wl (ro_extract rfl rfl) ?_
        refine wl (ro_extract rfl rfl) ?_
        refine wl (ro_assign rfl) ?_
        refine wl_nil (x_then (hK26 _ _ ?_))
        clear hK26 K26
        refine c_seq (fun K31 hK31 => ?_)
        refine c_seq (fun K32 hK32 => ?_)
        refine c_reg ?_ -- region 32 solvem.go:134
        refine wl (ro_move rfl) ?_
        refine wl (ro_cmp (r := false) rfl rfl (by simp; omega)) ?_
        refine wl_nil (x_then (hK32 _ _ ?_))
        clear hK32 K32
        refine wc_condF rfl ?_
        refine c_skip (x_then (hK31 _ _ ?_))
        clear hK31 K31
        refine c_seq (fun K33 hK33 => ?_)
        refine c_seq (fun K34 hK34 => ?_)
        refine c_reg ?_ -- region 35 solvem.go:138
        refine wl (ro_move rfl) ?_
        refine wl (ro_cmp (r := true) rfl rfl (by simp; omega)) ?_
        refine wl_nil (x_then (hK34 _ _ ?_))
        clear hK34 K34
        refine wc_condT rfl ?_
        refine c_exit (x_thenX (x_blkX (x_then (hK14 _ _ ?_))))
        clear hK33 K33 hK14 K14
        refine c_reg ?_ -- region 22 solvem.go:123
        refine wl (ro_move rfl) ?_
        refine wl (ro_arith rfl rfl rfl (Go.IntWalk.i64_in _ (by omega))) ?_
        refine wl (ro_assign rfl) ?_
        refine wl_nil (x_then ?_)
        rw [if_neg hu8, if_pos hu0] at hT
        exact ⟨ids.length - (i + 1), by omega, i + 1, ⟨s1.inf, s1.tried + 1, s1.fin, s1.list⟩, VL1, rfl, by omega, hT, MS5, hn1, F05, hin1, hin2, hfi, by unfold phi at hp1 ⊢; simp only; omega, hp2, kp _ ⟨rfl, rfl, rfl, rfl, rfl, rfl, rfl, rfl, trivial⟩⟩
      · skip
        have hUc : Ret Tryz.prog 68 [ptr cb, i64c g.1, i64c k0] w4 (fun r w' => r = .tuple #[i64c u.1, i64c 0] ∧ ∃ V', MH w'.heap cb V' u.2.2 ∧ (∀ b, V'.ownBlock = some b → V4.ownBlock = some b ∨ w4.heap.size ≤ b) ∧ Fram (MFoot cb V4) w4 w') := hU.mono (by rintro r w' ⟨V', h1, h2, h3⟩; rw [if_pos hu0] at h3; exact ⟨h3.1, V', h3.2, h1, h2⟩)
        refine c_reg ?_ -- region 31 solvem.go:133
        refine wl (ro_move rfl) ?_
        refine wl (ro_move rfl) ?_
        refine wl (ro_indexAddr (et := 127) (k := 3) rfl rfl se_90 rfl (Nat.succ_pos _)) ?_
        refine wl (ro_fieldAddr (k := 0) rfl fo_127_0) ?_
        refine wl (ro_loadB rfl sc_3 (hBl4) ((by simpa using h0))) ?_
        refine wl (ro_move rfl) ?_
        refine wl_call rfl en_68 (hUc) ?_
        rintro _ w5 ⟨rfl, V5, MH5, hV5, F5⟩
        obtain ⟨hok5, h45, hst5⟩ := uniS_okS hok4 h4 (a := g.1) (b := k0) (by simp; omega) hk0l (by rw [← hu]; exact hu0)
        rw [← hu] at hok5 h45 hst5
        have hul := hst5.1
        have MS5 := MS4.framT F5 MH4.typ rfl rfl
        have hB5 := MS5.blk
        have MP5 := MP4.framT F5 MH4.typ rfl rfl
        have hGt5 := hGt4.framT F5 MH4.typ rfl
        have hcs4 := MH4.blk.lt
        have F05 : Fram (SFoot sb VL) w w5 := F04.trans' F5 (fun k hk hx => by have := hmf4 k hx; omega)
        have hmf5 : ∀ b, MFoot cb V5 b → cb ≤ b := by
          rintro b (h | h)
          · omega
          · rcases hV5 b h with h | h
            · exact hmf4 b (.inr h)
            · omega
        clear MS4 MH4 MP4 hBl4 hGt4 F04 F5 hU hUc
        refine wl (ro_move rfl) ?_
        refine wl (ro_extract rfl rfl) ?_
        refine wl (ro_extract rfl rfl) ?_
        refine wl (ro_assign rfl) ?_
        refine wl_nil (x_then (hK26 _ _ ?_))
        clear hK26 K26
        refine c_seq (fun K35 hK35 => ?_)
        refine c_seq (fun K36 hK36 => ?_)
        refine c_reg ?_ -- region 32 solvem.go:134
        refine wl (ro_move rfl) ?_
        refine wl (ro_cmp rfl rfl rfl) ?_
        refine wl_nil (x_then (hK36 _ _ ?_))
        clear hK36 K36
        refine wc_condF rfl ?_
        refine c_skip (x_then (hK35 _ _ ?_))
        clear hK35 K35
        refine c_seq (fun K37 hK37 => ?_)
        refine c_seq (fun K38 hK38 => ?_)
        refine c_reg ?_ -- region 35 solvem.go:138
        refine wl (ro_move rfl) ?_
        refine wl (ro_cmp rfl rfl rfl) ?_
        refine wl_nil (x_then (hK38 _ _ ?_))
        clear hK38 K38
        refine wc_condF rfl ?_
        refine c_skip (x_then (hK37 _ _ ?_))
        clear hK37 K37
        refine forget [(0, _), (1, _), (2, _), (3, _), (4, _), (5, _), (20, _), (21, _), (24, _), (25, _)] ⟨rfl, rfl, rfl, rfl, rfl, rfl, rfl, rfl, rfl, rfl, trivial⟩ (fun e => ?_)
        refine c_seq (fun K39 hK39 => ?_)
        refine c_reg ?_ -- region 36 solvem.go:141
        refine wl (ro_move rfl) ?_
        refine wl (ro_nilCheck rfl) ?_
        refine wl (ro_fieldAddr (k := 6) rfl fo_49_6) ?_
        refine wl (ro_loadB rfl sc_3 (hB5) rfl) ?_
        refine wl (ro_arith rfl rfl rfl (Go.IntWalk.i64_in _ (by simp only; omega))) ?_
        refine wl (ro_nilCheck rfl) ?_
        refine wl (ro_fieldAddr (k := 6) rfl fo_49_6) ?_
        refine wls (so_storeB rfl rfl rfl sz_3 (hB5) (by simp)) ?_
        obtain ⟨MS6, F6⟩ := MS5.up (s1.inf + 1) (s1.tried + 1) s1.fin
        have MH6 := MH5.framT F6 MS5.typ rfl rfl
        have MP6 := MP5.framT F6 MS5.typ rfl rfl
        have hGt6 := hGt5.framT F6 MS5.typ rfl
        have F06 := F05.trans' F6 hSF
        refine gen3 (A := fun w6 => SM w6.heap sb VL1 C ⟨s1.inf + 1, s1.tried + 1, s1.fin, s1.list⟩ ∧ MH w6.heap cb V5 u.2.2 ∧ MP w6.heap C.mpb VT VC cls) (B := fun w6 => GSl w6.heap (.slice (some (if c = 1 then ⟨b, o, none⟩ else ⟨b, o + 1 * 3, none⟩)) (gs.length + 1 - 1) (c - 1)) gs) (D := fun w6 => Fram (SFoot sb VL) w w6) (C := fun w6 => WL _ _ _ _ _ w6) ⟨MS6, MH6, MP6⟩ hGt6 F06 ?_
        clear MS6 MH6 MP6 hGt6 F06 F6 MS5 hB5 MH5 MP5 hGt5 F05
        rintro w6 ⟨MS6, MH6, MP6⟩ hGt6 F06
        have hB6 := MS6.blk
        refine wl_nil (x_then (hK39 _ _ ?_))
        clear hK39 K39
        refine c_seq (fun K40 hK40 => ?_)
        refine c_seq (fun K41 hK41 => ?_)
        refine c_pi [(0, false), (1, false), (2, false), (3, false), (4, false), (5, false), (6, false), (7, false), (8, false)] (SameH _) mixed (by kernel_rfl) rfl (by kernel_rfl) (po_then (po_then (po_blk (po_then (po_then (po_blk (po_then (po_bp)))))))) (sameH_now _ _) ?_ -- region 37 solvem.go:142
        refine pi_ro rfl (fun w hS => ro_move rfl) ?_
        refine pi_ro rfl (fun w hS => ro_nilCheck rfl) ?_
        refine pi_ro rfl (fun w hS => ro_fieldAddr (k := 6) rfl fo_49_6) ?_
        refine pi_ro rfl (fun w hS => ro_loadB rfl sc_3 (Blk.of_heap (by assumption) hS) rfl) ?_
        refine pi_ro rfl (fun w hS => ro_move rfl) ?_
        refine pi_ro rfl (fun w hS => ro_nilCheck rfl) ?_
        refine pi_ro rfl (fun w hS => ro_fieldAddr (k := 3) rfl fo_49_3) ?_
        refine pi_ro rfl (fun w hS => ro_loadB rfl sc_3 (Blk.of_heap (by assumption) hS) rfl) ?_
        refine pi_ro rfl (fun w hS => ro_cmp rfl rfl rfl) ?_
        refine gen3 (A := fun w6 => SM w6.heap sb VL1 C ⟨s1.inf + 1, s1.tried + 1, s1.fin, s1.list⟩ ∧ MH w6.heap cb V5 u.2.2 ∧ MP w6.heap C.mpb VT VC cls) (B := fun w6 => GSl w6.heap (.slice (some (if c = 1 then ⟨b, o, none⟩ else ⟨b, o + 1 * 3, none⟩)) (gs.length + 1 - 1) (c - 1)) gs) (D := fun w6 => Fram (SFoot sb VL) w w6) (C := fun w6 => WP _ _ _ _ _ _ w6) ⟨MS6, MH6, MP6⟩ hGt6 (F06.trans (Fram.drew _ w6 (w6.drawn + 1))) ?_
        clear MS6 MH6 MP6 hGt6 F06 hB6
        rintro w6 ⟨MS6, MH6, MP6⟩ hGt6 F06
        have hB6 := MS6.blk
        refine pi_nil (x_then (hK41 _ _ ?_))
        clear hK41 K41
        refine wc_cond rfl (fun hc197 => ?_) (fun hc197 => ?_)
        · try simp only [decide_eq_true_eq, decide_eq_false_iff_not, Bool.not_eq_true', Bool.not_eq_false', Bool.not_eq_eq_eq_not, Bool.not_true, Bool.not_false, beq_iff_eq, bne_iff_ne, ne_eq, beq_eq_false_iff_ne, bne_eq_false_iff_eq, gt_iff_lt, ge_iff_le, Int.not_lt, Int.not_le] at hc197
          refine c_seq (fun K42 hK42 => ?_)
          refine c_reg ?_ -- region 38 solvem.go:143
          refine wl (ro_move rfl) ?_
          refine wl (ro_nilCheck rfl) ?_
          refine wl (ro_fieldAddr (k := 8) rfl fo_49_8) ?_
          refine wls (so_storeB rfl rfl rfl sz_47 (hB6) (by simp)) ?_
          obtain ⟨MS7, F7⟩ := MS6.up (s1.inf + 1) (s1.tried + 1) 10
          refine wl_nil (x_then (hK42 _ _ ?_))
          clear hK42 K42
          refine forget [] trivial (fun e => ?_)
          refine c_seq (fun K43 hK43 => ?_)
          refine c_reg ?_ -- region 39 solvem.go:144
          refine wl (ro_assign rfl) ?_
          refine wl_nil (x_then (hK43 _ _ ?_))
          clear hK43 K43
          refine c_ret (x_thenR (x_blkR (x_thenR (x_thenR (x_blkR (x_thenR ?_))))))
          refine bp_ret Tryz.results37 rfl ?_
          rw [if_neg (by omega), if_neg (by simp [hu0]), if_pos (by omega)] at hT
          rw [← hT]
          exact ⟨rfl, VL1, MS7, hn1, F06.trans' F7 hSF⟩
        · try simp only [decide_eq_true_eq, decide_eq_false_iff_not, Bool.not_eq_true', Bool.not_eq_false', Bool.not_eq_eq_eq_not, Bool.not_true, Bool.not_false, beq_iff_eq, bne_iff_ne, ne_eq, beq_eq_false_iff_ne, bne_eq_false_iff_eq, gt_iff_lt, ge_iff_le, Int.not_lt, Int.not_le] at hc197
          rw [if_neg (by omega), if_neg (by simp [hu0]), if_neg (by omega)] at hT
          have hsl : (ids.drop i).take (i + 1 - i) = [id] := by rw [hdi, show i + 1 - i = 1 by omega]; rfl
          refine c_skip (x_then (hK40 _ _ ?_))
          clear hK40 K40
          refine forget [(0, _), (1, _), (2, _), (3, _), (4, _), (5, _), (20, _), (21, _), (24, _), (25, _)] ⟨rfl, rfl, rfl, rfl, rfl, rfl, rfl, rfl, rfl, rfl, trivial⟩ (fun e => ?_)
          refine c_seq (fun K44 hK44 => ?_)
          refine c_reg ?_ -- region 40 solvem.go:146
          refine wl (ro_move rfl) ?_
          refine wl (ro_assign rfl) ?_
          refine wl_nil (x_then (hK44 _ _ ?_))
          clear hK44 K44
          refine c_seq (fun K45 hK45 => ?_)
          refine c_seq (fun K46 hK46 => ?_)
          refine c_reg ?_ -- region 41 solvem.go:147
          refine wl (ro_move rfl) ?_
          refine wl (ro_arith rfl rfl rfl (Go.IntWalk.i64_in _ (by omega))) ?_
          refine wl (ro_move rfl) ?_
          refine wl (ro_lenS rfl st_9) ?_
          refine wl (ro_cmp rfl rfl rfl) ?_
          refine wl_nil (x_then (hK46 _ _ ?_))
          clear hK46 K46
          refine wc_cond rfl (fun hc206 => ?_) (fun hc206 => ?_)
          · try simp only [decide_eq_true_eq, decide_eq_false_iff_not, Bool.not_eq_true', Bool.not_eq_false', Bool.not_eq_eq_eq_not, Bool.not_true, Bool.not_false, beq_iff_eq, bne_iff_ne, ne_eq, beq_eq_false_iff_ne, bne_eq_false_iff_eq, gt_iff_lt, ge_iff_le, Int.not_lt, Int.not_le] at hc206
            rw [if_neg (show ¬ ids.drop (i + 1) = [] by intro h; have := congrArg List.length h; simp at this; omega)] at hT
            obtain ⟨x, hx⟩ : ∃ x, x = dfsF cls C.fuel f u.2.2 (kidsS u.2.2 hp.length 1 lvl left ++ gs) (proof ++ [id]) (lvl + 1) (left + 1) ⟨s1.inf + 1, s1.tried + 1, s1.fin, s1.list⟩ := ⟨_, rfl⟩
            rw [← hx] at hT
            have hbx : Bnd C.fuel 8 1 ⟨s1.inf + 1, s1.tried + 1, s1.fin, s1.list⟩ x.2 := by rw [hx]; exact dfs_bnd hF h8 f _ _ _ _ _ _ (by simp; omega) hfi
            refine c_reg ?_ -- region 42 solvem.go:148
            refine wl (ro_move rfl) ?_
            refine wl (ro_arith rfl rfl rfl (Go.IntWalk.i64_in _ (by omega))) ?_
            refine wl (ro_assign rfl) ?_
            refine wl_nil (x_then (hK45 _ _ ?_))
            clear hK45 K45
            refine forget [(0, _), (1, _), (2, _), (3, _), (4, _), (5, _), (20, _), (21, _), (24, _), (25, _), (28, _)] ⟨rfl, rfl, rfl, rfl, rfl, rfl, rfl, rfl, rfl, rfl, rfl, trivial⟩ (fun e => ?_)
            refine c_seq (fun K47 hK47 => ?_)
            refine c_reg ?_ -- region 43 solvem.go:150
            refine wl (ro_move rfl) ?_
            refine wl (ro_move rfl) ?_
            refine wl (ro_move rfl) ?_
            refine wl (ro_move rfl) ?_
            refine wl (ro_move rfl) ?_
            refine wl (ro_sliceL (l := 1) rfl rfl se_90 rfl (by omega)) ?_
            refine wl_call rfl en_36 (kids36 MH6 hok5 (root := hp.length) (frm := 1) (lvl := lvl) (left := left) (by rw [hul]; exact hrl) (by omega) hGt6 (by omega)) ?_
            rintro r9 w9 ⟨hG9, F9⟩
            have MS9 := MS6.none F9
            have MH9 := MH6.none F9
            have MP9 := MP6.fram F9 (fun _ _ h => h)
            have F09 := F06.trans' F9 (fun _ _ h => h.elim)
            have hkl := kidsS_len u.2.2 hp.length lvl left
            have hga : ∀ q ∈ kidsS u.2.2 hp.length 1 lvl left ++ gs, q.1 < u.2.2.length ∧ q.2.1 ≤ s1.inf + 1 ∧ q.2.2 ≤ s1.inf + 1 := by
              intro q hq
              rcases List.mem_append.1 hq with h | h
              · have h1' := kidsS_lt hok5.wf (by rw [hul]; exact hrl) h
                have h2' := kidsS_mem h
                rw [show q.2.1 = lvl by rw [h2'], show q.2.2 = left by rw [h2']]
                exact ⟨h1', by omega, by omega⟩
              · have := P.ga q (by simp [h])
                rw [hul]
                simp
                omega
            refine wl (ro_assign rfl) ?_
            refine wl_nil (x_then (hK47 _ _ ?_))
            clear hK47 K47
            refine forget [(0, _), (1, _), (2, _), (3, _), (4, _), (5, _), (20, _), (21, _), (24, _), (28, _), (29, _)] ⟨rfl, rfl, rfl, rfl, rfl, rfl, rfl, rfl, rfl, rfl, rfl, trivial⟩ (fun e => ?_)
            refine c_seq (fun K48 hK48 => ?_)
            have hcall := IH w9 cb VL1 V5 r9 ⟨s1.inf + 1, s1.tried + 1, s1.fin, s1.list⟩ u.2.2 _ (proof ++ [id]) (lvl + 1) (left + 1) ⟨MS9, MH9, hok5, by rw [hul]; omega, MP9, hG9, hga, by simp; omega, by simp; omega, by simp; omega, by simp; omega, hF, hfi, by unfold phi at hp1 hph ⊢; simp only; omega, by unfold psi at hp2 hps ⊢; simp only; omega, by simp; omega, by omega⟩
            rw [← hx] at hcall
            refine c_reg ?_ -- region 44 solvem.go:151
            refine wl (ro_move rfl) ?_
            refine wl (ro_move rfl) ?_
            refine wl (ro_move rfl) ?_
            refine wl (ro_move rfl) ?_
            refine wl (ro_move rfl) ?_
            refine wl (ro_move rfl) ?_
            refine wl (ro_move rfl) ?_
            refine wl (ro_arith rfl rfl rfl (Go.IntWalk.i64_in _ (by omega))) ?_
            refine wl ((show RO _ _ _ _ _ (S [id]) from hsl ▸ ro_sliceSLH (l := i) (h := i + 1) rfl rfl rfl st_9 rfl (by omega) (by omega) (by omega))) ?_
            refine wl (ro_catS rfl rfl (by simp; omega)) ?_
            refine wl (ro_move rfl) ?_
            refine wl (ro_arith rfl rfl rfl (Go.IntWalk.i64_in _ (by omega))) ?_
            refine wl (ro_move rfl) ?_
            refine wl_call rfl en_37 (hcall) ?_
            rintro _ w10 ⟨rfl, VL2, MS10, hn2, F10⟩
            have hB10 := MS10.blk
            have F010 : Fram (SFoot sb VL) w w10 := F09.trans' F10 hSF
            have hn10 : ∀ b, VL2.ownBlock = some b → VL.ownBlock = some b ∨ w.heap.size ≤ b := by
              intro b hb'
              rcases hn2 b hb' with h | h
              · exact hn1 b h
              · have := F09.size; exact .inr (by omega)
            refine wl (ro_assign rfl) ?_
            refine wl_nil (x_then (hK48 _ _ ?_))
            clear hK48 K48
            refine c_seq (fun K49 hK49 => ?_)
            refine c_seq (fun K50 hK50 => ?_)
            by_cases hxf : x.2.fin = 0
            · skip
              refine c_reg ?_ -- region 45 solvem.go:152
              refine wl (ro_move rfl) ?_
              refine wl (ro_nilCheck rfl) ?_
              refine wl (ro_fieldAddr (k := 8) rfl fo_49_8) ?_
              refine wl (ro_loadB rfl sc_47 (hB10) rfl) ?_
              refine wl (ro_cmp (r := false) rfl rfl (by simp [hxf])) ?_
              refine wl (ro_move rfl) ?_
              refine wlg_yes rfl (ro_move rfl) ?_
              refine wlg_yes rfl (ro_move rfl) ?_
              refine wlg_yes rfl (ro_cmp rfl rfl rfl) ?_
              refine wl (ro_pick rfl rfl rfl) ?_
              refine wl_nil (x_then (hK50 _ _ ?_))
              clear hK50 K50
              refine wc_cond rfl (fun hc239 => ?_) (fun hc239 => ?_)
              · try simp only [decide_eq_true_eq, decide_eq_false_iff_not, Bool.not_eq_true', Bool.not_eq_false', Bool.not_eq_eq_eq_not, Bool.not_true, Bool.not_false, beq_iff_eq, bne_iff_ne, ne_eq, beq_eq_false_iff_ne, bne_eq_false_iff_eq, gt_iff_lt, ge_iff_le, Int.not_lt, Int.not_le] at hc239
                rw [if_pos (.inr hc239)] at hT
                refine c_seq (fun K51 hK51 => ?_)
                refine c_reg ?_ -- region 46 solvem.go:153
                refine wl (ro_assign rfl) ?_
                refine wl_nil (x_then (hK51 _ _ ?_))
                clear hK51 K51
                refine c_ret (x_thenR (x_blkR (x_thenR (x_thenR (x_blkR (x_thenR ?_))))))
                refine bp_ret Tryz.results37 rfl ?_
                rw [← hT]
                exact ⟨rfl, VL2, MS10, hn10, F010⟩
              · try simp only [decide_eq_true_eq, decide_eq_false_iff_not, Bool.not_eq_true', Bool.not_eq_false', Bool.not_eq_eq_eq_not, Bool.not_true, Bool.not_false, beq_iff_eq, bne_iff_ne, ne_eq, beq_eq_false_iff_ne, bne_eq_false_iff_eq, gt_iff_lt, ge_iff_le, Int.not_lt, Int.not_le] at hc239
                rw [if_neg (by intro h; rcases h with h | h; exact h hxf; exact hc239 h)] at hT
                refine c_skip (x_then (hK49 _ _ ?_))
                clear hK49 K49
                refine forget [(0, _), (1, _), (2, _), (3, _), (4, _), (5, _), (20, _), (21, _), (30, _), (236, _), (237, _), (238, _)] ⟨rfl, rfl, rfl, rfl, rfl, rfl, rfl, rfl, rfl, rfl, rfl, rfl, trivial⟩ (fun e => ?_)
                refine c_seq (fun K52 hK52 => ?_)
                refine c_reg ?_ -- region 47 solvem.go:155
                refine wl (ro_move rfl) ?_
                refine wl (ro_cmp rfl rfl rfl) ?_
                refine wl_nil (x_then (hK52 _ _ ?_))
                clear hK52 K52
                refine wc_cond rfl (fun hc241 => ?_) (fun hc241 => ?_)
                · try simp only [decide_eq_true_eq, decide_eq_false_iff_not, Bool.not_eq_true', Bool.not_eq_false', Bool.not_eq_eq_eq_not, Bool.not_true, Bool.not_false, beq_iff_eq, bne_iff_ne, ne_eq, beq_eq_false_iff_ne, bne_eq_false_iff_eq, gt_iff_lt, ge_iff_le, Int.not_lt, Int.not_le] at hc241
                  refine c_seq (fun K53 hK53 => ?_)
                  refine c_reg ?_ -- region 48 solvem.go:156
                  refine wl (ro_move rfl) ?_
                  refine wl (ro_assign rfl) ?_
                  refine wl_nil (x_then (hK53 _ _ ?_))
                  clear hK53 K53
                  refine c_ret (x_blkR (x_thenR (x_thenR (x_blkR (x_thenR ?_)))))
                  refine bp_ret Tryz.results37 rfl ?_
                  rw [if_pos hc241] at hT
                  rw [← hT]
                  exact ⟨rfl, VL2, MS10, hn10, F010⟩
                · try simp only [decide_eq_true_eq, decide_eq_false_iff_not, Bool.not_eq_true', Bool.not_eq_false', Bool.not_eq_eq_eq_not, Bool.not_true, Bool.not_false, beq_iff_eq, bne_iff_ne, ne_eq, beq_eq_false_iff_ne, bne_eq_false_iff_eq, gt_iff_lt, ge_iff_le, Int.not_lt, Int.not_le] at hc241
                  refine c_skip (x_blk (x_then (hK14 _ _ ?_)))
                  clear hK14 K14
                  refine c_reg ?_ -- region 22 solvem.go:123
                  refine wl (ro_move rfl) ?_
                  refine wl (ro_arith rfl rfl rfl (Go.IntWalk.i64_in _ (by omega))) ?_
                  refine wl (ro_assign rfl) ?_
                  refine wl_nil (x_then ?_)
                  rw [if_neg (by omega)] at hT
                  have hb1 := hbx.lo; have hb2 := hbx.ok hxf; have hb3 := hbx.ph; have hb4 := hbx.ps
                  simp only at hb1
                  exact ⟨ids.length - (i + 1), by omega, i + 1, x.2, VL2, rfl, by omega, hT, MS10, hn10, F010, by omega, hb2, hxf, by unfold phi at hb3 hp1 ⊢; simp only at hb3; omega, by unfold psi at hb4 hp2 ⊢; simp only at hb4; omega, kp _ ⟨rfl, rfl, rfl, rfl, rfl, rfl, rfl, rfl, trivial⟩⟩
            · skip
              refine c_reg ?_ -- region 45 solvem.go:152
              refine wl (ro_move rfl) ?_
              refine wl (ro_nilCheck rfl) ?_
              refine wl (ro_fieldAddr (k := 8) rfl fo_49_8) ?_
              refine wl (ro_loadB rfl sc_47 (hB10) rfl) ?_
              refine wl (ro_cmp (r := true) rfl rfl (by simp; omega)) ?_
              refine wl (ro_move rfl) ?_
              refine wlg_no rfl ?_
              refine wlg_no rfl ?_
              refine wlg_no rfl ?_
              refine wl (ro_pick rfl rfl rfl) ?_
              refine wl_nil (x_then (hK50 _ _ ?_))
              clear hK50 K50
              refine wc_condT rfl ?_
              refine c_seq (fun K54 hK54 => ?_)
              refine c_reg ?_ -- region 46 solvem.go:153
              refine wl (ro_assign rfl) ?_
              refine wl_nil (x_then (hK54 _ _ ?_))
              clear hK54 K54
              refine c_ret (x_thenR (x_blkR (x_thenR (x_thenR (x_blkR (x_thenR ?_))))))
              refine bp_ret Tryz.results37 rfl ?_
              rw [if_pos (.inl hxf)] at hT
              rw [← hT]
              exact ⟨rfl, VL2, MS10, hn10, F010⟩
          · try simp only [decide_eq_true_eq, decide_eq_false_iff_not, Bool.not_eq_true', Bool.not_eq_false', Bool.not_eq_eq_eq_not, Bool.not_true, Bool.not_false, beq_iff_eq, bne_iff_ne, ne_eq, beq_eq_false_iff_ne, bne_eq_false_iff_eq, gt_iff_lt, ge_iff_le, Int.not_lt, Int.not_le] at hc206
            rw [if_pos (show ids.drop (i + 1) = [] from List.drop_of_length_le (by omega))] at hT
            obtain ⟨x, hx⟩ : ∃ x, x = dfsF cls C.fuel f u.2.2 (kidsS u.2.2 hp.length 1 lvl left ++ gs) (proof ++ [id]) (lvl + 1) left ⟨s1.inf + 1, s1.tried + 1, s1.fin, s1.list⟩ := ⟨_, rfl⟩
            rw [← hx] at hT
            have hbx : Bnd C.fuel 8 1 ⟨s1.inf + 1, s1.tried + 1, s1.fin, s1.list⟩ x.2 := by rw [hx]; exact dfs_bnd hF h8 f _ _ _ _ _ _ (by simp; omega) hfi
            refine c_skip (x_then (hK45 _ _ ?_))
            clear hK45 K45
            refine forget [(0, _), (1, _), (2, _), (3, _), (4, _), (5, _), (20, _), (21, _), (24, _), (25, _), (28, _)] ⟨rfl, rfl, rfl, rfl, rfl, rfl, rfl, rfl, rfl, rfl, rfl, trivial⟩ (fun e => ?_)
            refine c_seq (fun K55 hK55 => ?_)
            refine c_reg ?_ -- region 43 solvem.go:150
            refine wl (ro_move rfl) ?_
            refine wl (ro_move rfl) ?_
            refine wl (ro_move rfl) ?_
            refine wl (ro_move rfl) ?_
            refine wl (ro_move rfl) ?_
            refine wl (ro_sliceL (l := 1) rfl rfl se_90 rfl (by omega)) ?_
            refine wl_call rfl en_36 (kids36 MH6 hok5 (root := hp.length) (frm := 1) (lvl := lvl) (left := left) (by rw [hul]; exact hrl) (by omega) hGt6 (by omega)) ?_
            rintro r9 w9 ⟨hG9, F9⟩
            have MS9 := MS6.none F9
            have MH9 := MH6.none F9
            have MP9 := MP6.fram F9 (fun _ _ h => h)
            have F09 := F06.trans' F9 (fun _ _ h => h.elim)
            have hkl := kidsS_len u.2.2 hp.length lvl left
            have hga : ∀ q ∈ kidsS u.2.2 hp.length 1 lvl left ++ gs, q.1 < u.2.2.length ∧ q.2.1 ≤ s1.inf + 1 ∧ q.2.2 ≤ s1.inf + 1 := by
              intro q hq
              rcases List.mem_append.1 hq with h | h
              · have h1' := kidsS_lt hok5.wf (by rw [hul]; exact hrl) h
                have h2' := kidsS_mem h
                rw [show q.2.1 = lvl by rw [h2'], show q.2.2 = left by rw [h2']]
                exact ⟨h1', by omega, by omega⟩
              · have := P.ga q (by simp [h])
                rw [hul]
                simp
                omega
            refine wl (ro_assign rfl) ?_
            refine wl_nil (x_then (hK55 _ _ ?_))
            clear hK55 K55
            refine forget [(0, _), (1, _), (2, _), (3, _), (4, _), (5, _), (20, _), (21, _), (24, _), (28, _), (29, _)] ⟨rfl, rfl, rfl, rfl, rfl, rfl, rfl, rfl, rfl, rfl, rfl, trivial⟩ (fun e => ?_)
            refine c_seq (fun K56 hK56 => ?_)
            have hcall := IH w9 cb VL1 V5 r9 ⟨s1.inf + 1, s1.tried + 1, s1.fin, s1.list⟩ u.2.2 _ (proof ++ [id]) (lvl + 1) left ⟨MS9, MH9, hok5, by rw [hul]; omega, MP9, hG9, hga, by simp; omega, by simp; omega, by simp; omega, by simp; omega, hF, hfi, by unfold phi at hp1 hph ⊢; simp only; omega, by unfold psi at hp2 hps ⊢; simp only; omega, by simp; omega, by omega⟩
            rw [← hx] at hcall
            refine c_reg ?_ -- region 44 solvem.go:151
            refine wl (ro_move rfl) ?_
            refine wl (ro_move rfl) ?_
            refine wl (ro_move rfl) ?_
            refine wl (ro_move rfl) ?_
            refine wl (ro_move rfl) ?_
            refine wl (ro_move rfl) ?_
            refine wl (ro_move rfl) ?_
            refine wl (ro_arith rfl rfl rfl (Go.IntWalk.i64_in _ (by omega))) ?_
            refine wl ((show RO _ _ _ _ _ (S [id]) from hsl ▸ ro_sliceSLH (l := i) (h := i + 1) rfl rfl rfl st_9 rfl (by omega) (by omega) (by omega))) ?_
            refine wl (ro_catS rfl rfl (by simp; omega)) ?_
            refine wl (ro_move rfl) ?_
            refine wl (ro_arith rfl rfl rfl (Go.IntWalk.i64_in _ (by omega))) ?_
            refine wl (ro_move rfl) ?_
            refine wl_call rfl en_37 (hcall) ?_
            rintro _ w10 ⟨rfl, VL2, MS10, hn2, F10⟩
            have hB10 := MS10.blk
            have F010 : Fram (SFoot sb VL) w w10 := F09.trans' F10 hSF
            have hn10 : ∀ b, VL2.ownBlock = some b → VL.ownBlock = some b ∨ w.heap.size ≤ b := by
              intro b hb'
              rcases hn2 b hb' with h | h
              · exact hn1 b h
              · have := F09.size; exact .inr (by omega)
            refine wl (ro_assign rfl) ?_
            refine wl_nil (x_then (hK56 _ _ ?_))
            clear hK56 K56
            refine c_seq (fun K57 hK57 => ?_)
            refine c_seq (fun K58 hK58 => ?_)
            by_cases hxf : x.2.fin = 0
            · skip
              refine c_reg ?_ -- region 45 solvem.go:152
              refine wl (ro_move rfl) ?_
              refine wl (ro_nilCheck rfl) ?_
              refine wl (ro_fieldAddr (k := 8) rfl fo_49_8) ?_
              refine wl (ro_loadB rfl sc_47 (hB10) rfl) ?_
              refine wl (ro_cmp (r := false) rfl rfl (by simp [hxf])) ?_
              refine wl (ro_move rfl) ?_
              refine wlg_yes rfl (ro_move rfl) ?_
              refine wlg_yes rfl (ro_move rfl) ?_
              refine wlg_yes rfl (ro_cmp rfl rfl rfl) ?_
              refine wl (ro_pick rfl rfl rfl) ?_
              refine wl_nil (x_then (hK58 _ _ ?_))
              clear hK58 K58
              refine wc_cond rfl (fun hc239 => ?_) (fun hc239 => ?_)
              · try simp only [decide_eq_true_eq, decide_eq_false_iff_not, Bool.not_eq_true', Bool.not_eq_false', Bool.not_eq_eq_eq_not, Bool.not_true, Bool.not_false, beq_iff_eq, bne_iff_ne, ne_eq, beq_eq_false_iff_ne, bne_eq_false_iff_eq, gt_iff_lt, ge_iff_le, Int.not_lt, Int.not_le] at hc239
                rw [if_pos (.inr hc239)] at hT
                refine c_seq (fun K59 hK59 => ?_)
                refine c_reg ?_ -- region 46 solvem.go:153
                refine wl (ro_assign rfl) ?_
                refine wl_nil (x_then (hK59 _ _ ?_))
                clear hK59 K59
                refine c_ret (x_thenR (x_blkR (x_thenR (x_thenR (x_blkR (x_thenR ?_))))))
                refine bp_ret Tryz.results37 rfl ?_
                rw [← hT]
                exact ⟨rfl, VL2, MS10, hn10, F010⟩
              · try simp only [decide_eq_true_eq, decide_eq_false_iff_not, Bool.not_eq_true', Bool.not_eq_false', Bool.not_eq_eq_eq_not, Bool.not_true, Bool.not_false, beq_iff_eq, bne_iff_ne, ne_eq, beq_eq_false_iff_ne, bne_eq_false_iff_eq, gt_iff_lt, ge_iff_le, Int.not_lt, Int.not_le] at hc239
                rw [if_neg (by intro h; rcases h with h | h; exact h hxf; exact hc239 h)] at hT
                refine c_skip (x_then (hK57 _ _ ?_))
                clear hK57 K57
                refine forget [(0, _), (1, _), (2, _), (3, _), (4, _), (5, _), (20, _), (21, _), (30, _), (236, _), (237, _), (238, _)] ⟨rfl, rfl, rfl, rfl, rfl, rfl, rfl, rfl, rfl, rfl, rfl, rfl, trivial⟩ (fun e => ?_)
                refine c_seq (fun K60 hK60 => ?_)
                refine c_reg ?_ -- region 47 solvem.go:155
                refine wl (ro_move rfl) ?_
                refine wl (ro_cmp rfl rfl rfl) ?_
                refine wl_nil (x_then (hK60 _ _ ?_))
                clear hK60 K60
                refine wc_cond rfl (fun hc241 => ?_) (fun hc241 => ?_)
                · try simp only [decide_eq_true_eq, decide_eq_false_iff_not, Bool.not_eq_true', Bool.not_eq_false', Bool.not_eq_eq_eq_not, Bool.not_true, Bool.not_false, beq_iff_eq, bne_iff_ne, ne_eq, beq_eq_false_iff_ne, bne_eq_false_iff_eq, gt_iff_lt, ge_iff_le, Int.not_lt, Int.not_le] at hc241
                  refine c_seq (fun K61 hK61 => ?_)
                  refine c_reg ?_ -- region 48 solvem.go:156
                  refine wl (ro_move rfl) ?_
                  refine wl (ro_assign rfl) ?_
                  refine wl_nil (x_then (hK61 _ _ ?_))
                  clear hK61 K61
                  refine c_ret (x_blkR (x_thenR (x_thenR (x_blkR (x_thenR ?_)))))
                  refine bp_ret Tryz.results37 rfl ?_
                  rw [if_pos hc241] at hT
                  rw [← hT]
                  exact ⟨rfl, VL2, MS10, hn10, F010⟩
                · try simp only [decide_eq_true_eq, decide_eq_false_iff_not, Bool.not_eq_true', Bool.not_eq_false', Bool.not_eq_eq_eq_not, Bool.not_true, Bool.not_false, beq_iff_eq, bne_iff_ne, ne_eq, beq_eq_false_iff_ne, bne_eq_false_iff_eq, gt_iff_lt, ge_iff_le, Int.not_lt, Int.not_le] at hc241
                  refine c_skip (x_blk (x_then (hK14 _ _ ?_)))
                  clear hK14 K14
                  refine c_reg ?_ -- region 22 solvem.go:123
                  refine wl (ro_move rfl) ?_
                  refine wl (ro_arith rfl rfl rfl (Go.IntWalk.i64_in _ (by omega))) ?_
                  refine wl (ro_assign rfl) ?_
                  refine wl_nil (x_then ?_)
                  rw [if_neg (by omega)] at hT
                  have hb1 := hbx.lo; have hb2 := hbx.ok hxf; have hb3 := hbx.ph; have hb4 := hbx.ps
                  simp only at hb1
                  exact ⟨ids.length - (i + 1), by omega, i + 1, x.2, VL2, rfl, by omega, hT, MS10, hn10, F010, by omega, hb2, hxf, by unfold phi at hb3 hp1 ⊢; simp only at hb3; omega, by unfold psi at hb4 hp2 ⊢; simp only at hb4; omega, kp _ ⟨rfl, rfl, rfl, rfl, rfl, rfl, rfl, rfl, trivial⟩⟩
            · skip
              refine c_reg ?_ -- region 45 solvem.go:152
              refine wl (ro_move rfl) ?_
              refine wl (ro_nilCheck rfl) ?_
              refine wl (ro_fieldAddr (k := 8) rfl fo_49_8) ?_
              refine wl (ro_loadB rfl sc_47 (hB10) rfl) ?_
              refine wl (ro_cmp (r := true) rfl rfl (by simp; omega)) ?_
              refine wl (ro_move rfl) ?_
              refine wlg_no rfl ?_
              refine wlg_no rfl ?_
              refine wlg_no rfl ?_
              refine wl (ro_pick rfl rfl rfl) ?_
              refine wl_nil (x_then (hK58 _ _ ?_))
              clear hK58 K58
              refine wc_condT rfl ?_
              refine c_seq (fun K62 hK62 => ?_)
              refine c_reg ?_ -- region 46 solvem.go:153
              refine wl (ro_assign rfl) ?_
              refine wl_nil (x_then (hK62 _ _ ?_))
              clear hK62 K62
              refine c_ret (x_thenR (x_blkR (x_thenR (x_thenR (x_blkR (x_thenR ?_))))))
              refine bp_ret Tryz.results37 rfl ?_
              rw [if_pos (.inl hxf)] at hT
              rw [← hT]
              exact ⟨rfl, VL2, MS10, hn10, F010⟩
  · try simp only [decide_eq_true_eq, decide_eq_false_iff_not, Bool.not_eq_true', Bool.not_eq_false', Bool.not_eq_eq_eq_not, Bool.not_true, Bool.not_false, beq_iff_eq, bne_iff_ne, ne_eq, beq_eq_false_iff_ne, bne_eq_false_iff_eq, gt_iff_lt, ge_iff_le, Int.not_lt, Int.not_le] at hc124
    have hie : i = ids.length := by omega
    refine c_exit (x_thenX (x_thenX (x_blkX (x_then (hK10 _ _ ?_)))))
    clear hK12 K12 hK10 K10
    refine forget [] trivial (fun e => ?_)
    refine c_seq (fun K63 hK63 => ?_)
    refine c_reg ?_ -- region 49 solvem.go:159
    refine wl (ro_assign rfl) ?_
    refine wl_nil (x_then (hK63 _ _ ?_))
    clear hK63 K63
    refine c_ret ?_
    refine bp_ret Tryz.results37 rfl ?_
    rw [hie, List.drop_length] at hT
    simp only [tryL] at hT
    rw [← hT]
    exact ⟨rfl, VL1, MS1, hn1, F1⟩

theorem dfs37 {cls : List Cl2} (ok : POK cls) {sb : Nat} {VT VC : Value} {C : SC} : ∀ (f : Nat), DSpec cls sb VT VC C f
  | 0 => fun w hb VL VH v st hp gs proof lvl left P => by have := P.fu; omega
  | f + 1 => fun w hb VL VH v st hp gs proof lvl left P => by
    cases gs with
    | nil =>
      have := P.pl; have := P.inf; have := P.fl; have := P.lf
      exact dfs37_nil P.ms P.mh P.hok P.pos P.gsl (by omega) (by omega) P.ps (by omega) cls f
    | cons g gs =>
      by_cases hcut : hd hp g.1 = [33, 48]
      · exact dfs37_cut (dfs37 ok f) P hcut
      · exact dfs37_call ok (dfs37 ok f) P hcut

end Go.Proofs.Qxb6500569aGreat
