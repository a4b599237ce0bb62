import Derived.Test.Qxb6500568aGreatDoorZv
/- The compiler: function literals (written by tools/mk_zx.py). -/
namespace Go.Proofs.Qxb6500568aGreatDoor
open Ieee
set_option linter.unusedVariables false
set_option linter.unusedSimpArgs false
set_option linter.unusedSectionVars false

section
variable {E : ZEnv} {w : World} {ow : Nat → Nat} {O : List Nat} {S : Fns} {f g : ZAct} {q : List ZAct}
theorem fresh35P {A : List ZAct} {x : Nat} {S' : Fns} {pv : Value} (hp : pv = parV E x) (hR : CM E w ow O S A) (hx : x < 13) (hxA : ∀ f ∈ A, f.j ≠ x) (hSx : (fsAt S' x).np = 0 ∧ (fsAt S' x).ns = 0 ∧ (fsAt S' x).ups = [] ∧ (fsAt S' x).ks = []) (hS : ∀ k, k ≠ x → fsAt S' k = fsAt S k) :
    Ret Tryz.prog 35 [ptr E.cb, i64c x, pv] w (fun r w' => r = fptr E x ∧ ZP E w ow (O ++ [x]) S' (⟨x, [], [], []⟩ :: A) w') := by
  subst hp
  exact fresh35 hR hx hxA hSx hS
set_option maxHeartbeats 16000000 in
theorem function231 {b : Tr} (hb : XB b false) {k n pn : Nat} {cs : List Value} (hcs : cs = ndc (nd E.G n, pn)) {ps : List Str} (hR : CM E w ow O S (f :: q)) (hN : (nd E.G n).N = k) (hi1 : IsNm E.G (nd E.G n).A ps) (hi2 : IsSL E.G (nd E.G n).B b) (hW : FnW k ps) (hw : W b false ps.length) (hpa : E.pa k = f.j) (hpb : PaT E.pa b k) (hx : FX E S f q (k :: numsT b) (100 * ndT b + 60)) :
    Ret Tryz.prog 231 [fptr E f.j, .agg cs.toArray] w (fun r w' => r = .tuple #[] ∧ ZP E w ow (O ++ k :: numsT b) (fnF k ps (chn (f :: q)) (fun md ch b' a S => cmp b md ch b' a S) S) ({ f with code := f.code ++ [(28, k)] } :: q) w') := by
  have hF : Fram (tg ow cpT) w w := Fram.refl _ _
  have hX : Xt w ow ow := Xt.refl _ _
  subst hcs
  have hnf : k ∉ chF f.j (chn q) := fun q => (List.nodup_append.1 hx.fit.nd).2.2 k q k List.mem_cons_self rfl
  have hkl : k < S.length := hx.fit.lt k (by simp)
  have h13 := hx.bd.n
  have hcl : 3 * f.code.length ≤ 31000 := hx.clen
  have hkA : ∀ g ∈ f :: q, g.j ≠ k := fun g hg e => hnf (by
    rw [← e]
    unfold chF chn
    rw [List.map_map]
    rcases List.mem_cons.1 hg with rfl | hg
    · exact List.mem_cons_self
    · exact List.mem_cons_of_mem _ (List.mem_map_of_mem (f := fun f : ZAct => f.j) hg))
  have hpar : parV E k = fptr E f.j := by unfold parV; rw [if_neg hW.1, hpa]
  have hxg : FX E (fnS k ps f S) ⟨k, ps, [], []⟩ (f :: q) (numsT b) (100 * ndT b + 3) := FX.fn (M := []) hx hW hpa (by omega)
  obtain ⟨S0, hS0⟩ : ∃ z9, z9 = S.set k ⟨0, 0, [], [], [], (vis f.L).map (·.1) ++ (fsAt S f.j).outer, []⟩ := ⟨_, rfl⟩
  have hS0a : ∀ j, fsAt S0 j = if j = k then ⟨0, 0, [], [], [], (vis f.L).map (·.1) ++ (fsAt S f.j).outer, []⟩ else fsAt S j := fun j => by rw [hS0]; exact fsAt_set hkl
  have hS0l : S0.length = S.length := by rw [hS0, List.length_set]
  have hmo := mo_all b ps.length k ps (chn (f :: q)) 0 0 (fnS k ps f S) hxg.ch hxg.fit
  have hnkb : k ∉ numsT b := by
    have := hx.fit.nd
    rw [List.nodup_append] at this
    exact (List.nodup_cons.1 this.2.1).1
  have hlc : k < (cmp b ps.length (chn (⟨k, ps, [], []⟩ :: f :: q)) 0 0 (fnS k ps f S)).2.length := by
    show k < (cmp b ps.length ((k, ps) :: chn (f :: q)) 0 0 (fnS k ps f S)).2.length
    rw [hmo.mo.len]; unfold fnS; rw [List.length_set]; exact hkl
  have hnp : (fsAt (cmp b ps.length (chn (⟨k, ps, [], []⟩ :: f :: q)) 0 0 (fnS k ps f S)).2 k).np = ps.length := by
    show (fsAt (cmp b ps.length ((k, ps) :: chn (f :: q)) 0 0 (fnS k ps f S)).2 k).np = _
    rw [(hmo.mo.ext k hnkb).np, fnS_at hkl, if_pos rfl]
  refine ret_of Tryz.func231 rfl Tryz.ntmps231 rfl ?_
  refine c_seq (fun K1 hK1 => ?_)
  refine c_reg ?_ -- region 0 expr.go:92
  refine wl_box rfl rfl (fun b3 w1 hbb3 h3 F1 => ?_)
  have hbsb3 := Nat.le_trans hF.size hbb3
  have kh3 := hR.df b3 hbb3
  replace hF := hF.thenDrew.thenN F1
  replace hR := hR.thruN ((Fram.refl none' _).thenDrew.thenN F1)
  have h3 : Blk (w1).heap b3 (ndc (nd E.G n, pn)) 148 := h3
  unfold ndc at h3
  rw [hN] at h3
  refine wl_nil (x_then (hK1 _ _ ?_))
  clear hK1 K1
  refine forget [(0, _), (3, _)] ⟨rfl, rfl, trivial⟩ (fun e => ?_)
  refine c_seq (fun K2 hK2 => ?_)
  obtain ⟨R_, z_, op⟩ := hR.open (f := f) (by simp)
  have hG := op.B
  have hC := hR.cb
  have khG := hR.ta
  have khC := hR.tc
  refine c_pi [(0, false), (1, false), (2, false), (3, false), (4, false), (5, false), (6, false), (7, false), (8, true), (9, false)] (fun u => (∃ l, Blk u.heap E.gb l 199 ∧ l[f.j * 11 + 0]? = some (ptr E.cb)) ∧ Blk u.heap b3 [i64c (nd E.G n).K, i64c (nd E.G n).A, i64c (nd E.G n).B, i64c (nd E.G n).C, i64c (nd E.G n).Nx, u64c k, Go.Proofs.Qxb6500568aGreatDoor.S (nd E.G n).S, i64c pn] 148) mixed (by kernel_rfl) rfl (by kernel_rfl) (po_then (po_bp)) (⟨⟨_, hG, op.row 0 (by decide)⟩, h3⟩) ?_ -- region 1 expr.go:93
  refine pi_ro rfl (fun w hS => ro_move rfl) ?_
  refine pi_ro rfl (fun w hS => ro_nilCheck rfl) ?_
  refine pi_ro rfl (fun w hS => ro_fieldAddr (k := 0) rfl fo_199_0) ?_
  refine pi_ro rfl (fun w hS => ro_loadB rfl sc_22 (hS.1.choose_spec.1) (hS.1.choose_spec.2)) ?_
  refine pi_ro rfl (fun w hS => ro_fieldAddr (k := 5) rfl fo_148_5) ?_
  refine pi_ro rfl (fun w hS => ro_loadB rfl sc_117 (hS.2) (rfl)) ?_
  refine pi_ro rfl (fun w hS => ro_conv rfl sc_117 in_3 (Go.IntWalk.i64_in _ (by omega))) ?_
  refine pi_ro rfl (fun w hS => ro_move rfl) ?_
  refine pi_call rfl rfl en_35 (fresh35P (x := k) (S' := S0) hpar.symm hR.dr (by omega) hkA (by rw [hS0a, if_pos rfl]; exact ⟨rfl, rfl, rfl, rfl⟩) (fun j hj ↦ by rw [hS0a, if_neg hj])) ?_
  rintro _ u9 ⟨rfl, ow9, x9, f9, r9⟩
  obtain ⟨h3, kh3⟩ := cp_loc x9 f9 h3 kh3
  have hs9 := hF.size
  replace hF := cp_trans hX hF f9
  replace hX := hX.trans hs9 x9
  replace hR := r9
  obtain ⟨R8, z8, op8⟩ := hR.open (f := f) (by simp)
  refine ⟨⟨⟨_, op8.B, op8.row 0 (by decide)⟩, h3⟩, ?_⟩
  refine pi_ro rfl (fun w hS => ro_assign rfl) ?_
  refine pi_nil (x_then (hK2 _ _ ?_))
  clear hK2 K2
  refine forget [(0, _), (3, _), (4, _)] ⟨rfl, rfl, rfl, trivial⟩ (fun e => ?_)
  refine c_seq (fun K3 hK3 => ?_)
  refine c_reg ?_ -- region 2 expr.go:94
  refine wl (ro_move rfl) ?_
  refine wl (ro_move rfl) ?_
  refine wl (ro_fieldAddr (k := 1) rfl fo_148_1) ?_
  refine wl (ro_loadB rfl sc_3 (h3) rfl) ?_
  refine wl (ro_move rfl) ?_
  refine wl (ro_makeBound rfl) ?_
  refine wl_call rfl en_138 (params138 (g := ⟨k, [], [], []⟩) hR rfl hi1 hW.2.2 (by rw [hS0l]; exact hkl) hx.g0.1) ?_
  rintro _ u8 ⟨rfl, S2, hS2l, hS2n, hS2k, ow8, x8, f8, r8⟩
  obtain ⟨h3, kh3⟩ := cp_loc x8 f8 h3 kh3
  have hs8 := hF.size
  replace hF := cp_trans hX hF f8
  replace hX := hX.trans hs8 x8
  replace hR := r8
  obtain ⟨R7, z7, op7⟩ := hR.open (f := ⟨k, ps, [], []⟩) (by simp)
  have hG := op7.B
  have hF7 := hF
  have hX7 := hX
  have hR7 := hR
  have h37 := h3
  have hne3 : b3 ≠ E.gb := ow_ne kh3 hR.ta (by decide)
  refine wl (ro_nilCheck rfl) ?_
  refine wl (ro_fieldAddr (k := 2) rfl fo_199_2) ?_
  refine wl_put rfl rfl rfl sz_3 hG ((by show _ < (rws fnc R7).length; rw [rws_len fnc_len, op7.l]; have := op7.j; simp only at this; omega)) (rfl) (fun w2 hG F2 => ?_)
  have hF3 := (F2)
  rw [hS0a, if_pos rfl] at hS2k
  have hS2k : fsAt S2 k = ⟨0, ps.length, [], [], [], (vis f.L).map (·.1) ++ (fsAt S f.j).outer, []⟩ := by
    have h9 := hS2k
    simp only at h9
    rw [h9]
    simp
  have hz := hR7.numS (S' := fnS k ps f S) (o := 2) op7 (Fram.refl _ _) hF3 hG (by decide) (by
    unfold mkR fnc
    show [ptr E.cb, parV E k, i64c (fsAt (fnS k ps f S) k).np, _, i64c (fsAt (fnS k ps f S) k).ns, Value.slice z7.ua (fsAt (fnS k ps f S) k).ups.length z7.uc, Value.slice z7.ka (fsAt (fnS k ps f S) k).ks.length z7.kc, _, _, _, _] = [ptr E.cb, parV E k, i64c ps.length, _, i64c (fsAt S2 k).ns, Value.slice z7.ua (fsAt S2 k).ups.length z7.uc, Value.slice z7.ka (fsAt S2 k).ks.length z7.kc, _, _, _, _]
    rw [fnS_at hkl, if_pos rfl, hS2k]) (by show (fsAt (fnS k ps f S) k).ups = (fsAt S2 k).ups; rw [fnS_at hkl, if_pos rfl, hS2k]) (by show (fsAt (fnS k ps f S) k).ks = (fsAt S2 k).ks; rw [fnS_at hkl, if_pos rfl, hS2k]) (fun j hj ↦ by
    have hj : j ≠ k := hj
    rw [fnS_at hkl, if_neg hj, hS2n j hj, hS0a, if_neg hj])
  obtain ⟨ow6, x6, f6, r6⟩ := hz
  have hF := hF7
  have hX := hX7
  have h3 := h37
  obtain ⟨h3, kh3⟩ := cp_loc x6 f6 h3 kh3
  have hs6 := hF.size
  replace hF := cp_trans hX hF f6
  replace hX := hX.trans hs6 x6
  replace hR := r6
  refine wl_nil (x_then (hK3 _ _ ?_))
  clear hK3 K3
  refine forget [(0, _), (3, _), (4, _)] ⟨rfl, rfl, rfl, trivial⟩ (fun e => ?_)
  refine c_seq (fun K4 hK4 => ?_)
  refine c_reg ?_ -- region 3 expr.go:95
  refine wl (ro_move rfl) ?_
  refine wl (ro_fieldAddr (k := 2) rfl fo_148_2) ?_
  refine wl (ro_loadB rfl sc_3 (h3) rfl) ?_
  refine wl_call rfl en_36 (body36 (g := ⟨k, ps, [], []⟩) hb hR.dr hi2 hw hpb hxg rfl rfl) ?_
  rintro _ u3 ⟨rfl, ow3, x3, f3, r3⟩
  obtain ⟨h3, kh3⟩ := cp_loc x3 f3 h3 kh3
  have hs3 := hF.size
  replace hF := cp_trans hX hF f3
  replace hX := hX.trans hs3 x3
  replace hR := r3
  have hR : CM E _ _ ((O ++ [k]) ++ numsT b) (cmp b ps.length (chn (⟨k, ps, [], []⟩ :: f :: q)) 0 0 (fnS k ps f S)).2 (⟨k, ps, (cmp b ps.length (chn (⟨k, ps, [], []⟩ :: f :: q)) 0 0 (fnS k ps f S)).1 0 ++ [(2, 0), (2, 0), (27, 0)], []⟩ :: f :: q) := hR
  replace hR := hR.pop rfl (by rw [hnp]) hlc
  refine wl_nil (x_then (hK4 _ _ ?_))
  clear hK4 K4
  refine c_reg ?_ -- region 4 expr.go:96
  refine wl (ro_move rfl) ?_
  refine wl (ro_fieldAddr (k := 5) rfl fo_148_5) ?_
  refine wl (ro_loadB rfl sc_117 (h3) rfl) ?_
  refine wl (ro_conv rfl sc_117 in_201 (Go.IntWalk.u16_in _ (by omega))) ?_
  refine wl (ro_build rfl bld_203_0_1) ?_
  refine wl_em (is := [(28, k)]) (eo_bsI1 rfl se_196 zx_203) rfl hR rfl (by simp; omega) ?_
  intro u4 ow4 x4 f4 r4
  obtain ⟨h3, kh3⟩ := cp_loc' x4 f4 h3 kh3
  have hs4 := hF.size
  replace hF := cp_trans' hX hF f4
  replace hX := hX.trans hs4 x4
  replace hR := r4
  refine wl_nil ?_
  refine bp_end Tryz.results231 rfl ?_
  refine ⟨rfl, _, hX, hF, ?_⟩
  rw [List.append_assoc] at hR
  exact hR
end
set_option maxHeartbeats 16000000 in
theorem xe_func {k : Nat} {ps : List Str} {b : Tr} (hb : XB b false) : XE (Ex.func k ps b) := by
  intro E w ow O S f q n hR hi hw hpa hx
  obtain ⟨hn0, hK, hNk, hi1, hi2⟩ := IsE_func.1 hi
  have hn : n < E.G.length := nd_lt (by rw [hK]; decide)
  obtain ⟨hW, hw1⟩ : FnW k ps ∧ W b false ps.length := hw
  obtain ⟨hp1, hp2⟩ : E.pa k = f.j ∧ PaT E.pa b k := hpa
  have hx0 : FX E S f q (k :: numsT b) (100 * ndT b + 60) := by
    have hx : FX E S f q (k :: numsT b) (100 * (1 + ps.length + ndT b)) := hx
    exact hx.le (by omega)
  have hF : Fram (tg ow cpT) w w := Fram.refl _ _
  have hX : Xt w ow ow := Xt.refl _ _
  obtain ⟨gn, capn, ln_, env, hN, khN, hcapn, hrow⟩ := hR.nodes (by omega)
  obtain ⟨pn, hpn⟩ := hrow n hn
  have hcl : 3 * f.code.length ≤ 31000 := hx.clen
  refine ret_of Tryz.func186 rfl Tryz.ntmps186 rfl ?_
  refine c_seq (fun K1 hK1 => ?_)
  refine c_reg ?_ -- region 0 expr.go:6
  refine wl_box rfl rfl (fun b2 w1 hbb2 h2 F1 => ?_)
  have hbsb2 := Nat.le_trans hF.size hbb2
  have hnegnb2 : gn < b2 := Nat.lt_of_lt_of_le hN.lt hbb2
  have kh2 := hR.df b2 hbb2
  replace hF := hF.thenDrew.thenN F1
  replace hR := hR.thruN ((Fram.refl none' _).thenDrew.thenN F1)
  replace hN := F1.blkN hN
  refine wl_nil (x_then (hK1 _ _ ?_))
  clear hK1 K1
  refine forget [(1, _), (2, _)] ⟨rfl, rfl, trivial⟩ (fun e => ?_)
  refine c_seq (fun K2 hK2 => ?_)
  obtain ⟨R_, z_, op⟩ := hR.open (f := f) (by simp)
  have hG := op.B
  have hC := hR.cb
  have khG := hR.ta
  have khC := hR.tc
  rw [env] at hC
  refine c_reg ?_ -- region 1 expr.go:7
  refine wl (ro_loadB rfl sc_128 (by assumption) rfl) ?_
  refine wl (ro_nilCheck rfl) ?_
  refine wl (ro_fieldAddr (k := 0) rfl fo_199_0) ?_
  refine wl (ro_loadB rfl sc_22 hG (op.row 0 (by decide))) ?_
  refine wl (ro_nilCheck rfl) ?_
  refine wl (ro_fieldAddr (k := 2) rfl fo_94_2) ?_
  refine wl (ro_loadB rfl sc_77 (hC) rfl) ?_
  refine wl (ro_move rfl) ?_
  refine wl (ro_indexAddr (et := 148) (k := 8) rfl rfl se_77 (rfl) (hn)) ?_
  refine wl (ro_loadAggB rfl ag_148 (hN) (rfl) (hpn)) ?_
  refine wl_new (ze_148) (fun b4 w2 hbb4 h4 F2 => ?_)
  have hbsb4 := Nat.le_trans hF.size hbb4
  have hnegnb4 : gn < b4 := Nat.lt_of_lt_of_le hN.lt hbb4
  have hneb2b4 : b2 < b4 := Nat.lt_of_lt_of_le h2.lt hbb4
  have hneE.gbb4 : E.gb < b4 := Nat.lt_of_lt_of_le hG.lt hbb4
  have hneE.cbb4 : E.cb < b4 := Nat.lt_of_lt_of_le hC.lt hbb4
  have kh4 := hR.df b4 hbb4
  replace hF := hF.thenDrew.thenN F2
  replace hR := hR.thruN ((Fram.refl none' _).thenDrew.thenN F2)
  replace hN := F2.blkN hN
  replace h2 := F2.blkN h2
  replace hG := F2.blkN hG
  replace hC := F2.blkN hC
  refine wl_puta rfl rfl ((ndc_one _)) sz_148 (rfl) h4 ((by simp)) (rfl) (fun w3 h4 F3 => ?_)
  replace hF := hF.thenDrew.thenO F3 (by first | exact .inr (by omega) | exact .inl rfl | exact .inl (by assumption) | assumption)
  replace hR := hR.hbput ((Fram.refl (one b4) _).thenDrew.thenO F3 (.inl rfl))
  replace hN := F3.blkO hN (by first | omega | exact ow_ne (by assumption) (by assumption) (by omega))
  replace h2 := F3.blkO h2 (by first | omega | exact ow_ne (by assumption) (by assumption) (by omega))
  replace hG := F3.blkO hG (by first | omega | exact ow_ne (by assumption) (by assumption) (by omega))
  replace hC := F3.blkO hC (by first | omega | exact ow_ne (by assumption) (by assumption) (by omega))
  have h4 : Blk (w3).heap b4 [i64c 20, i64c (nd E.G n).A, i64c (nd E.G n).B, i64c (nd E.G n).C, i64c (nd E.G n).Nx, u64c (nd E.G n).N, Go.Proofs.Qxb6500568aGreatDoor.S (nd E.G n).S, i64c pn] 148 := by rw [← hK]; exact h4
  refine wl_nil (x_then (hK2 _ _ ?_))
  clear hK2 K2
  refine forget [(1, _), (2, _), (4, _)] ⟨rfl, rfl, rfl, trivial⟩ (fun e => ?_)
  refine c_seq (fun K3 hK3 => ?_)
  refine c_reg ?_ -- region 2 expr.go:8
  refine wl (ro_fieldAddr (k := 0) rfl fo_148_0) ?_
  refine wl (ro_loadB rfl sc_3 (by assumption) rfl) ?_
  refine wl_nil (x_then (hK3 _ _ ?_))
  clear hK3 K3
  refine c_block ?_
  refine c_seq (fun K4 hK4 => ?_)
  refine c_seq (fun K5 hK5 => ?_)
  refine c_reg ?_ -- region 3 expr.go:9
  refine wl (ro_cmp rfl rfl rfl) ?_
  refine wl (ro_assign rfl) ?_
  refine wl_nil (x_then (hK5 _ _ ?_))
  clear hK5 K5
  refine wc_condF rfl ?_
  refine c_reg ?_ -- region 4 expr.go:9
  refine wl (ro_cmp rfl rfl rfl) ?_
  refine wl (ro_assign rfl) ?_
  refine wl_nil (x_then (hK4 _ _ ?_))
  clear hK4 K4
  refine wc_condF rfl ?_
  refine c_seq (fun K6 hK6 => ?_)
  refine c_reg ?_ -- region 6 expr.go:11
  refine wl (ro_cmp rfl rfl rfl) ?_
  refine wl (ro_assign rfl) ?_
  refine wl_nil (x_then (hK6 _ _ ?_))
  clear hK6 K6
  refine wc_condF rfl ?_
  refine c_seq (fun K7 hK7 => ?_)
  refine c_reg ?_ -- region 8 expr.go:13
  refine wl (ro_cmp rfl rfl rfl) ?_
  refine wl (ro_assign rfl) ?_
  refine wl_nil (x_then (hK7 _ _ ?_))
  clear hK7 K7
  refine wc_condF rfl ?_
  refine c_seq (fun K8 hK8 => ?_)
  refine c_reg ?_ -- region 10 expr.go:15
  refine wl (ro_cmp rfl rfl rfl) ?_
  refine wl (ro_assign rfl) ?_
  refine wl_nil (x_then (hK8 _ _ ?_))
  clear hK8 K8
  refine wc_condF rfl ?_
  refine c_seq (fun K9 hK9 => ?_)
  refine c_reg ?_ -- region 13 expr.go:18
  refine wl (ro_cmp rfl rfl rfl) ?_
  refine wl (ro_assign rfl) ?_
  refine wl_nil (x_then (hK9 _ _ ?_))
  clear hK9 K9
  refine wc_condF rfl ?_
  refine c_seq (fun K10 hK10 => ?_)
  refine c_reg ?_ -- region 16 expr.go:21
  refine wl (ro_cmp rfl rfl rfl) ?_
  refine wl (ro_assign rfl) ?_
  refine wl_nil (x_then (hK10 _ _ ?_))
  clear hK10 K10
  refine wc_condF rfl ?_
  refine c_seq (fun K11 hK11 => ?_)
  refine c_reg ?_ -- region 18 expr.go:23
  refine wl (ro_cmp rfl rfl rfl) ?_
  refine wl (ro_assign rfl) ?_
  refine wl_nil (x_then (hK11 _ _ ?_))
  clear hK11 K11
  refine wc_condF rfl ?_
  refine c_seq (fun K12 hK12 => ?_)
  refine c_reg ?_ -- region 22 expr.go:27
  refine wl (ro_cmp rfl rfl rfl) ?_
  refine wl (ro_assign rfl) ?_
  refine wl_nil (x_then (hK12 _ _ ?_))
  clear hK12 K12
  refine wc_condF rfl ?_
  refine c_seq (fun K13 hK13 => ?_)
  refine c_reg ?_ -- region 25 expr.go:30
  refine wl (ro_cmp rfl rfl rfl) ?_
  refine wl (ro_assign rfl) ?_
  refine wl_nil (x_then (hK13 _ _ ?_))
  clear hK13 K13
  refine wc_condT rfl ?_
  refine c_reg ?_ -- region 26 expr.go:31
  refine wl (ro_loadB rfl sc_128 (by assumption) rfl) ?_
  refine wl (ro_loadAggB rfl ag_148 (h4) (rfl) (rfl)) ?_
  refine wl_call rfl en_231 (function231 (pn := pn) (n := n) hb (by rw [← hK]; rfl) hR.dr hNk hi1 hi2 hW hw1 hp1 hp2 hx0) ?_
  rintro _ u4 ⟨rfl, ow4, x4, f4, r4⟩
  obtain ⟨hN, khN⟩ := cp_loc x4 f4 hN khN
  obtain ⟨h2, kh2⟩ := cp_loc x4 f4 h2 kh2
  obtain ⟨h4, kh4⟩ := cp_loc x4 f4 h4 kh4
  have hs4 := hF.size
  replace hF := cp_trans hX hF f4
  replace hX := hX.trans hs4 x4
  replace hR := r4
  refine wl_nil (x_blk ?_)
  refine bp_end Tryz.results186 rfl ?_
  exact ⟨rfl, _, hX, hF, hR⟩
end Go.Proofs.Qxb6500568aGreatDoor
