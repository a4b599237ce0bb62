import Derived.Test.Qxb6500568aGreatDoorJa
/- The compiler: if, while (written by tools/mk_zs.py). -/
namespace Go.Proofs.Qxb6500568aGreatDoor
open Ieee
set_option linter.unusedVariables false
set_option linter.unusedSimpArgs false
set_option linter.unusedSectionVars false

theorem hp_iff {a M K : Nat} {A B D : Cod} (hA : OpsOK A) (hK : K < 65535) : hp a (A ++ [(22, M)] ++ B ++ [(21, K)] ++ D) = hp (a + A.length + 1) B ++ hp (a + A.length + 1 + B.length + 1) D := by
  have e1 : ∀ p, hp p [((22 : Nat), M)] = [] := fun p => by unfold hp; rw [if_neg (by simp)]; rfl
  have e2 : ∀ p, hp p [((21 : Nat), K)] = [] := fun p => by unfold hp; rw [if_neg (by simp; omega)]; rfl
  rw [hp_app, hp_app, hp_app, hp_app, hp_none hA, e1, e2]
  simp only [List.nil_append, List.append_nil, List.length_append, List.length_cons, List.length_nil, Nat.zero_add]
  congr 2 <;> omega
theorem opsE {E : ZEnv} {S : Fns} {f : ZAct} {q : List ZAct} {N : List Nat} {B n : Nat} {a : Tr} (h : FX E S f q (numsT a ++ N) (100 * ndT a + B)) (hi : IsE E.G n a) (hw : W a false f.L.length) : OpsOK ((cmp a 0 (chn (f :: q)) 0 f.code.length S).1 65535) := by
  have hb := (bd_all E.G (szT a)).1 a n false hi (Nat.le_refl _) 0 f.j f.L (chn q) 0 f.code.length S h.ch h.fit.left h.bd hw h.L (Nat.zero_le _) (by have := h.tt; omega) (by have := h.tt; omega)
  have hb : BC (ndT a) 3 0 S f.j (chn q) (cmp a 0 (chn (f :: q)) 0 f.code.length S) := hb
  rw [(co_all E.G (szT a)).1 a n hi (Nat.le_refl _) 0 (chn (f :: q)) 0 f.code.length S 65535 0]
  exact hb.ops 0 (by decide)
set_option maxHeartbeats 16000000 in
theorem xs_iff {a b d : Tr} {lp : Bool} (ha : XE a) (hb : XB b lp) (hd : XB d lp) : XS (St.iff a b d) lp := by
  intro E w ow O S f q n hR hi hw hpa hlp hx
  have hw9 := hw
  obtain ⟨hn0, hK, hi1, hi2, hi3⟩ := IsS_iff.1 hi
  have hn : n < E.G.length := nd_lt (by rw [hK]; decide)
  obtain ⟨-, hw1, hw2, hw3⟩ : dE a ≤ 128 ∧ W a false f.L.length ∧ W b lp f.L.length ∧ W d lp f.L.length := hw
  obtain ⟨hp1, hp2, hp3⟩ : PaT E.pa a f.j ∧ PaT E.pa b f.j ∧ PaT E.pa d f.j := hpa
  have hx0 : FX E S f q (numsT a ++ (numsT b ++ (numsT d ++ []))) (100 * ndT a + (100 * ndT b + (100 * ndT d + 60))) := by
    have hx : FX E S f q (numsT a ++ (numsT b ++ numsT d)) (100 * (1 + ndT a + ndT b + ndT d)) := hx
    rw [List.append_nil]
    exact hx.le (by omega)
  have hops := opsE hx0 hi1 hw1
  have hln1 : ((cmp a 0 (chn (f :: q)) 0 f.code.length S).1 65535).length = ln (cmp a 0 (chn (f :: q)) 0 f.code.length S) := hx0.ln
  have hm2 := (mo_all b f.L.length f.j f.L (chn q) (lpB f.lps) (f.code.length + ln (cmp a 0 (chn (f :: q)) 0 f.code.length S) + 1) (cmp a 0 (chn (f :: q)) 0 f.code.length S).2)
  have hbc := (bd_all E.G (szT (St.iff a b d))).2.2.1 (St.iff a b d) n lp hi (Nat.le_refl _) 0 f.j f.L (chn q) (lpB f.lps) f.code.length S hx.ch hx.fit hx.bd hw9 hx.L hx.lpB (by have := hx.tt; omega) (by have := hx.tt; omega)
  have hbc : BC (ndT (St.iff a b d)) 0 0 S f.j (chn q) (cmp (St.iff a b d) 0 (chn (f :: q)) (lpB f.lps) f.code.length S) := hbc
  have hx1 := hx0.eE hi1 hw1
  have hx1m := FX.emit (B' := 100 * ndT b + (100 * ndT d + 50)) (is := [(22, 65535)]) hx1 (by simp only [List.length_cons, List.length_nil]; omega)
  have hlm : (f.code ++ (cmp a 0 (chn (f :: q)) 0 f.code.length S).1 65535 ++ [(22, 65535)]).length = f.code.length + ln (cmp a 0 (chn (f :: q)) 0 f.code.length S) + 1 := by rw [List.length_append, List.length_append, hln1]; rfl
  have hln2 : ((cmp b f.L.length (chn (f :: q)) (lpB f.lps) (f.code.length + ln (cmp a 0 (chn (f :: q)) 0 f.code.length S) + 1) (cmp a 0 (chn (f :: q)) 0 f.code.length S).2).1 65535).length = ln (cmp b f.L.length (chn (f :: q)) (lpB f.lps) (f.code.length + ln (cmp a 0 (chn (f :: q)) 0 f.code.length S) + 1) (cmp a 0 (chn (f :: q)) 0 f.code.length S).2) := by
    have h9 := FX.ln (t := b) (md := f.L.length) (base := lpB f.lps) hx1m
    simp only at h9
    rw [hlm] at h9
    exact h9
  have hK21 : f.code.length + ln (cmp a 0 (chn (f :: q)) 0 f.code.length S) + 1 + ln (cmp b f.L.length (chn (f :: q)) (lpB f.lps) (f.code.length + ln (cmp a 0 (chn (f :: q)) 0 f.code.length S) + 1) (cmp a 0 (chn (f :: q)) 0 f.code.length S).2) + 1 + ln (cmp d f.L.length (chn (f :: q)) (lpB f.lps) (f.code.length + ln (cmp a 0 (chn (f :: q)) 0 f.code.length S) + 1 + ln (cmp b f.L.length (chn (f :: q)) (lpB f.lps) (f.code.length + ln (cmp a 0 (chn (f :: q)) 0 f.code.length S) + 1) (cmp a 0 (chn (f :: q)) 0 f.code.length S).2) + 1) (cmp b f.L.length (chn (f :: q)) (lpB f.lps) (f.code.length + ln (cmp a 0 (chn (f :: q)) 0 f.code.length S) + 1) (cmp a 0 (chn (f :: q)) 0 f.code.length S).2).2) < 65535 := by
    have h9 := hbc.ops 0 (by decide)
    have h8 : OpsOK ((cmp a 0 (chn (f :: q)) 0 f.code.length S).1 0 ++ [(22, f.code.length + ln (cmp a 0 (chn (f :: q)) 0 f.code.length S) + 1 + ln (cmp b f.L.length (chn (f :: q)) (lpB f.lps) (f.code.length + ln (cmp a 0 (chn (f :: q)) 0 f.code.length S) + 1) (cmp a 0 (chn (f :: q)) 0 f.code.length S).2) + 1)] ++ (cmp b f.L.length (chn (f :: q)) (lpB f.lps) (f.code.length + ln (cmp a 0 (chn (f :: q)) 0 f.code.length S) + 1) (cmp a 0 (chn (f :: q)) 0 f.code.length S).2).1 0 ++ [(21, f.code.length + ln (cmp a 0 (chn (f :: q)) 0 f.code.length S) + 1 + ln (cmp b f.L.length (chn (f :: q)) (lpB f.lps) (f.code.length + ln (cmp a 0 (chn (f :: q)) 0 f.code.length S) + 1) (cmp a 0 (chn (f :: q)) 0 f.code.length S).2) + 1 + ln (cmp d f.L.length (chn (f :: q)) (lpB f.lps) (f.code.length + ln (cmp a 0 (chn (f :: q)) 0 f.code.length S) + 1 + ln (cmp b f.L.length (chn (f :: q)) (lpB f.lps) (f.code.length + ln (cmp a 0 (chn (f :: q)) 0 f.code.length S) + 1) (cmp a 0 (chn (f :: q)) 0 f.code.length S).2) + 1) (cmp b f.L.length (chn (f :: q)) (lpB f.lps) (f.code.length + ln (cmp a 0 (chn (f :: q)) 0 f.code.length S) + 1) (cmp a 0 (chn (f :: q)) 0 f.code.length S).2).2))] ++ (cmp d f.L.length (chn (f :: q)) (lpB f.lps) (f.code.length + ln (cmp a 0 (chn (f :: q)) 0 f.code.length S) + 1 + ln (cmp b f.L.length (chn (f :: q)) (lpB f.lps) (f.code.length + ln (cmp a 0 (chn (f :: q)) 0 f.code.length S) + 1) (cmp a 0 (chn (f :: q)) 0 f.code.length S).2) + 1) (cmp b f.L.length (chn (f :: q)) (lpB f.lps) (f.code.length + ln (cmp a 0 (chn (f :: q)) 0 f.code.length S) + 1) (cmp a 0 (chn (f :: q)) 0 f.code.length S).2).2).1 0) := h9
    exact (h8.l.r _ List.mem_cons_self).2
  have hF : Fram (tg ow cpT) w w := Fram.refl _ _
  have hX : Xt w ow ow := Xt.refl _ _
  obtain ⟨gn, capn, ln_, env, hN, khN, hcapn, hrow⟩ := hR.nodes hx.g0.1
  obtain ⟨pn, hpn⟩ := hrow n hn
  have hcl : 3 * f.code.length ≤ 31000 := hx.clen
  have hL12 := hx.L
  have hjl := hx.jl
  refine ret_of Tryz.func139 rfl Tryz.ntmps139 rfl ?_
  refine c_seq (fun K1 hK1 => ?_)
  obtain ⟨R_, z_, op⟩ := hR.open (f := f) (by simp)
  have hG := op.B
  have hC := hR.cb
  have khG := hR.ta
  have khC := hR.tc
  rw [env] at hC
  refine c_reg ?_ -- region 0 stmt.go:7
  refine wl (ro_move rfl) ?_
  refine wl (ro_nilCheck rfl) ?_
  refine wl (ro_fieldAddr (k := 0) rfl fo_199_0) ?_
  refine wl (ro_loadB rfl sc_22 hG (op.row 0 (by decide))) ?_
  refine wl (ro_nilCheck rfl) ?_
  refine wl (ro_fieldAddr (k := 2) rfl fo_94_2) ?_
  refine wl (ro_loadB rfl sc_77 (hC) rfl) ?_
  refine wl (ro_move rfl) ?_
  refine wl (ro_indexAddr (et := 148) (k := 8) rfl rfl se_77 (rfl) (hn)) ?_
  refine wl (ro_loadAggB rfl ag_148 (hN) (rfl) (hpn)) ?_
  refine wl_new (ze_148) (fun b4 w1 hbb4 h4 F1 => ?_)
  have hbsb4 := Nat.le_trans hF.size hbb4
  have hnegnb4 : gn < b4 := Nat.lt_of_lt_of_le hN.lt hbb4
  have hneE.gbb4 : E.gb < b4 := Nat.lt_of_lt_of_le hG.lt hbb4
  have hneE.cbb4 : E.cb < b4 := Nat.lt_of_lt_of_le hC.lt hbb4
  have kh4 := hR.df b4 hbb4
  replace hF := hF.thenDrew.thenN F1
  replace hR := hR.thruN ((Fram.refl none' _).thenDrew.thenN F1)
  replace hN := F1.blkN hN
  replace hG := F1.blkN hG
  replace hC := F1.blkN hC
  refine wl_puta rfl rfl ((ndc_one _)) sz_148 (rfl) h4 ((by simp)) (rfl) (fun w2 h4 F2 => ?_)
  replace hF := hF.thenDrew.thenO F2 (by first | exact .inr (by omega) | exact .inl rfl | exact .inl (by assumption) | assumption)
  replace hR := hR.hbput ((Fram.refl (one b4) _).thenDrew.thenO F2 (.inl rfl))
  replace hN := F2.blkO hN (by first | omega | exact ow_ne (by assumption) (by assumption) (by omega))
  replace hG := F2.blkO hG (by first | omega | exact ow_ne (by assumption) (by assumption) (by omega))
  replace hC := F2.blkO hC (by first | omega | exact ow_ne (by assumption) (by assumption) (by omega))
  have h4 : Blk (w2).heap b4 [i64c 6, i64c (nd E.G n).A, i64c (nd E.G n).B, i64c (nd E.G n).C, i64c (nd E.G n).Nx, u64c (nd E.G n).N, Go.Proofs.Qxb6500568aGreatDoor.S (nd E.G n).S, i64c pn] 148 := by rw [← hK]; exact h4
  refine wl_nil (x_then (hK1 _ _ ?_))
  clear hK1 K1
  refine forget [(0, _), (4, _)] ⟨rfl, rfl, trivial⟩ (fun e => ?_)
  refine c_seq (fun K2 hK2 => ?_)
  refine c_reg ?_ -- region 1 stmt.go:8
  refine wl (ro_fieldAddr (k := 0) rfl fo_148_0) ?_
  refine wl (ro_loadB rfl sc_3 (by assumption) rfl) ?_
  refine wl_nil (x_then (hK2 _ _ ?_))
  clear hK2 K2
  refine c_block ?_
  refine forget [(0, _), (4, _), (22, _)] ⟨rfl, rfl, rfl, trivial⟩ (fun e => ?_)
  refine c_seq (fun K3 hK3 => ?_)
  refine c_reg ?_ -- region 2 stmt.go:9
  refine wl (ro_cmp rfl rfl rfl) ?_
  refine wl (ro_assign rfl) ?_
  refine wl_nil (x_then (hK3 _ _ ?_))
  clear hK3 K3
  refine wc_condF rfl ?_
  refine c_seq (fun K4 hK4 => ?_)
  refine c_reg ?_ -- region 5 stmt.go:12
  refine wl (ro_cmp rfl rfl rfl) ?_
  refine wl (ro_assign rfl) ?_
  refine wl_nil (x_then (hK4 _ _ ?_))
  clear hK4 K4
  refine wc_condF rfl ?_
  refine c_seq (fun K5 hK5 => ?_)
  refine c_reg ?_ -- region 12 stmt.go:19
  refine wl (ro_cmp rfl rfl rfl) ?_
  refine wl (ro_assign rfl) ?_
  refine wl_nil (x_then (hK5 _ _ ?_))
  clear hK5 K5
  refine wc_condF rfl ?_
  refine c_seq (fun K6 hK6 => ?_)
  refine c_reg ?_ -- region 16 stmt.go:23
  refine wl (ro_cmp rfl rfl rfl) ?_
  refine wl (ro_assign rfl) ?_
  refine wl_nil (x_then (hK6 _ _ ?_))
  clear hK6 K6
  refine wc_condF rfl ?_
  refine c_seq (fun K7 hK7 => ?_)
  refine c_reg ?_ -- region 18 stmt.go:25
  refine wl (ro_cmp rfl rfl rfl) ?_
  refine wl (ro_assign rfl) ?_
  refine wl_nil (x_then (hK7 _ _ ?_))
  clear hK7 K7
  refine wc_condF rfl ?_
  refine c_seq (fun K8 hK8 => ?_)
  refine c_reg ?_ -- region 21 stmt.go:28
  refine wl (ro_cmp rfl rfl rfl) ?_
  refine wl (ro_assign rfl) ?_
  refine wl_nil (x_then (hK8 _ _ ?_))
  clear hK8 K8
  refine wc_condT rfl ?_
  refine c_reg ?_ -- region 22 stmt.go:29
  refine wl (ro_move rfl) ?_
  refine wl (ro_loadAggB rfl ag_148 (h4) (rfl) (rfl)) ?_
  refine wl_call rfl en_191 (test191 (pn := pn) (n := n) ha hb hd (by rw [← hK]; rfl) hR.dr hi1 hi2 hi3 hw1 hw2 hw3 hp1 hp2 hp3 hlp hx0) ?_
  rintro _ u3 ⟨rfl, ow3, x3, f3, r3⟩
  obtain ⟨hN, khN⟩ := cp_loc x3 f3 hN khN
  obtain ⟨h4, kh4⟩ := cp_loc x3 f3 h4 kh4
  have hs3 := hF.size
  replace hF := cp_trans hX hF f3
  replace hX := hX.trans hs3 x3
  replace hR := r3
  refine wl_nil (x_blk ?_)
  refine bp_end Tryz.results139 rfl ?_
  refine ⟨rfl, _, hX, hF, ?_⟩
  show CM E _ _ (O ++ (numsT a ++ (numsT b ++ numsT d))) (cmp d f.L.length (chn (f :: q)) (lpB f.lps) (f.code.length + ln (cmp a 0 (chn (f :: q)) 0 f.code.length S) + 1 + ln (cmp b f.L.length (chn (f :: q)) (lpB f.lps) (f.code.length + ln (cmp a 0 (chn (f :: q)) 0 f.code.length S) + 1) (cmp a 0 (chn (f :: q)) 0 f.code.length S).2) + 1) (cmp b f.L.length (chn (f :: q)) (lpB f.lps) (f.code.length + ln (cmp a 0 (chn (f :: q)) 0 f.code.length S) + 1) (cmp a 0 (chn (f :: q)) 0 f.code.length S).2).2).2 (⟨f.j, f.L, f.code ++ ((cmp a 0 (chn (f :: q)) 0 f.code.length S).1 65535 ++ [(22, f.code.length + ln (cmp a 0 (chn (f :: q)) 0 f.code.length S) + 1 + ln (cmp b f.L.length (chn (f :: q)) (lpB f.lps) (f.code.length + ln (cmp a 0 (chn (f :: q)) 0 f.code.length S) + 1) (cmp a 0 (chn (f :: q)) 0 f.code.length S).2) + 1)] ++ (cmp b f.L.length (chn (f :: q)) (lpB f.lps) (f.code.length + ln (cmp a 0 (chn (f :: q)) 0 f.code.length S) + 1) (cmp a 0 (chn (f :: q)) 0 f.code.length S).2).1 65535 ++ [(21, f.code.length + ln (cmp a 0 (chn (f :: q)) 0 f.code.length S) + 1 + ln (cmp b f.L.length (chn (f :: q)) (lpB f.lps) (f.code.length + ln (cmp a 0 (chn (f :: q)) 0 f.code.length S) + 1) (cmp a 0 (chn (f :: q)) 0 f.code.length S).2) + 1 + ln (cmp d f.L.length (chn (f :: q)) (lpB f.lps) (f.code.length + ln (cmp a 0 (chn (f :: q)) 0 f.code.length S) + 1 + ln (cmp b f.L.length (chn (f :: q)) (lpB f.lps) (f.code.length + ln (cmp a 0 (chn (f :: q)) 0 f.code.length S) + 1) (cmp a 0 (chn (f :: q)) 0 f.code.length S).2) + 1) (cmp b f.L.length (chn (f :: q)) (lpB f.lps) (f.code.length + ln (cmp a 0 (chn (f :: q)) 0 f.code.length S) + 1) (cmp a 0 (chn (f :: q)) 0 f.code.length S).2).2))] ++ (cmp d f.L.length (chn (f :: q)) (lpB f.lps) (f.code.length + ln (cmp a 0 (chn (f :: q)) 0 f.code.length S) + 1 + ln (cmp b f.L.length (chn (f :: q)) (lpB f.lps) (f.code.length + ln (cmp a 0 (chn (f :: q)) 0 f.code.length S) + 1) (cmp a 0 (chn (f :: q)) 0 f.code.length S).2) + 1) (cmp b f.L.length (chn (f :: q)) (lpB f.lps) (f.code.length + ln (cmp a 0 (chn (f :: q)) 0 f.code.length S) + 1) (cmp a 0 (chn (f :: q)) 0 f.code.length S).2).2).1 65535), addB f.lps (hp f.code.length ((cmp a 0 (chn (f :: q)) 0 f.code.length S).1 65535 ++ [(22, f.code.length + ln (cmp a 0 (chn (f :: q)) 0 f.code.length S) + 1 + ln (cmp b f.L.length (chn (f :: q)) (lpB f.lps) (f.code.length + ln (cmp a 0 (chn (f :: q)) 0 f.code.length S) + 1) (cmp a 0 (chn (f :: q)) 0 f.code.length S).2) + 1)] ++ (cmp b f.L.length (chn (f :: q)) (lpB f.lps) (f.code.length + ln (cmp a 0 (chn (f :: q)) 0 f.code.length S) + 1) (cmp a 0 (chn (f :: q)) 0 f.code.length S).2).1 65535 ++ [(21, f.code.length + ln (cmp a 0 (chn (f :: q)) 0 f.code.length S) + 1 + ln (cmp b f.L.length (chn (f :: q)) (lpB f.lps) (f.code.length + ln (cmp a 0 (chn (f :: q)) 0 f.code.length S) + 1) (cmp a 0 (chn (f :: q)) 0 f.code.length S).2) + 1 + ln (cmp d f.L.length (chn (f :: q)) (lpB f.lps) (f.code.length + ln (cmp a 0 (chn (f :: q)) 0 f.code.length S) + 1 + ln (cmp b f.L.length (chn (f :: q)) (lpB f.lps) (f.code.length + ln (cmp a 0 (chn (f :: q)) 0 f.code.length S) + 1) (cmp a 0 (chn (f :: q)) 0 f.code.length S).2) + 1) (cmp b f.L.length (chn (f :: q)) (lpB f.lps) (f.code.length + ln (cmp a 0 (chn (f :: q)) 0 f.code.length S) + 1) (cmp a 0 (chn (f :: q)) 0 f.code.length S).2).2))] ++ (cmp d f.L.length (chn (f :: q)) (lpB f.lps) (f.code.length + ln (cmp a 0 (chn (f :: q)) 0 f.code.length S) + 1 + ln (cmp b f.L.length (chn (f :: q)) (lpB f.lps) (f.code.length + ln (cmp a 0 (chn (f :: q)) 0 f.code.length S) + 1) (cmp a 0 (chn (f :: q)) 0 f.code.length S).2) + 1) (cmp b f.L.length (chn (f :: q)) (lpB f.lps) (f.code.length + ln (cmp a 0 (chn (f :: q)) 0 f.code.length S) + 1) (cmp a 0 (chn (f :: q)) 0 f.code.length S).2).2).1 65535))⟩ :: q)
  rw [hp_iff hops hK21, hln1, hln2, ← addB_app]
  exact hR
theorem whl_code {c1 B1 c1m c2 c2m c3 : Cod} {top : Nat} (h1 : c1m = c1 ++ [(22, 65535)]) (h2 : c2 = c1m ++ B1) (h3 : c2m = c2 ++ [(21, top)]) (h4 : c3 = setX c2m c1.length c2m.length) : pch c3 (hp c1m.length B1) c3.length = c1 ++ [(22, c2m.length)] ++ B1.map (holeF c2m.length) ++ [(21, top)] := by
  have e1 : ∀ K, setX c2m c1.length K = c1 ++ [(22, K)] ++ (B1 ++ [(21, top)]) := fun K => by
    rw [h3, h2, h1, show c1 ++ [(22, 65535)] ++ B1 ++ [(21, top)] = c1 ++ [(22, 65535)] ++ (B1 ++ [(21, top)]) by simp]
    exact setX_mid
  have hl3 : c3.length = c2m.length := by rw [h4, setX_len]
  have hl1 : c1m.length = (c1 ++ [(22, c2m.length)]).length := by rw [h1]; simp
  rw [hl3, hl1]
  rw [e1] at h4
  have e2 : ∀ K, pch c3 (hp (c1 ++ [(22, c2m.length)]).length B1) K = c1 ++ [(22, c2m.length)] ++ B1.map (holeF K) ++ [(21, top)] := fun K => by
    rw [h4, ← List.append_assoc, pch_hp]
  exact e2 _
section
variable {E : ZEnv} {w : World} {ow : Nat → Nat} {O : List Nat} {S : Fns} {f : ZAct} {q : List ZAct}
set_option maxHeartbeats 16000000 in
theorem while192 {a b : Tr} (ha : XE a) (hb : XB b true) {n pn : Nat} {cs : List Value} (hcs : cs = ndc (nd E.G n, pn)) (hR : CM E w ow O S (f :: q)) (hi1 : IsE E.G (nd E.G n).A a) (hi2 : IsSL E.G (nd E.G n).B b) (hw1 : W a false f.L.length) (hw2 : W b true f.L.length) (hp1 : PaT E.pa a f.j) (hp2 : PaT E.pa b f.j) (hx0 : FX E S f q (numsT a ++ (numsT b ++ [])) (100 * ndT a + (100 * ndT b + 80))) :
    Ret Tryz.prog 192 [fptr E f.j, .agg cs.toArray] w (fun r w' => r = .tuple #[] ∧ ZP E w ow (O ++ (numsT a ++ numsT b)) (cmp b f.L.length (chn (f :: q)) f.L.length (f.code.length + ln (cmp a 0 (chn (f :: q)) 0 f.code.length S) + 1) (cmp a 0 (chn (f :: q)) 0 f.code.length S).2).2 (⟨f.j, f.L, f.code ++ ((cmp a 0 (chn (f :: q)) 0 f.code.length S).1 65535 ++ [(22, f.code.length + ln (cmp a 0 (chn (f :: q)) 0 f.code.length S) + 1 + ln (cmp b f.L.length (chn (f :: q)) f.L.length (f.code.length + ln (cmp a 0 (chn (f :: q)) 0 f.code.length S) + 1) (cmp a 0 (chn (f :: q)) 0 f.code.length S).2) + 1)] ++ (cmp b f.L.length (chn (f :: q)) f.L.length (f.code.length + ln (cmp a 0 (chn (f :: q)) 0 f.code.length S) + 1) (cmp a 0 (chn (f :: q)) 0 f.code.length S).2).1 (f.code.length + ln (cmp a 0 (chn (f :: q)) 0 f.code.length S) + 1 + ln (cmp b f.L.length (chn (f :: q)) f.L.length (f.code.length + ln (cmp a 0 (chn (f :: q)) 0 f.code.length S) + 1) (cmp a 0 (chn (f :: q)) 0 f.code.length S).2) + 1) ++ [(21, f.code.length)]), f.lps⟩ :: q) w') := by
  have hF : Fram (tg ow cpT) w w := Fram.refl _ _
  have hX : Xt w ow ow := Xt.refl _ _
  subst hcs
  obtain ⟨gn, capn, ln_, env, hN, khN, hcapn, hrow⟩ := hR.nodes hx0.g0.1
  have hcl : 3 * f.code.length ≤ 31000 := hx0.clen
  have hL12 := hx0.L
  have hjl := hx0.jl
  have hjl9 := hjl
  refine ret_of Tryz.func192 rfl Tryz.ntmps192 rfl ?_
  refine c_seq (fun K1 hK1 => ?_)
  refine c_reg ?_ -- region 0 stmt.go:87
  refine wl_box rfl rfl (fun b3 w1 hbb3 h3 F1 => ?_)
  have hbsb3 := Nat.le_trans hF.size hbb3
  have hnegnb3 : gn < b3 := Nat.lt_of_lt_of_le hN.lt hbb3
  have kh3 := hR.df b3 hbb3
  replace hF := hF.thenDrew.thenN F1
  replace hR := hR.thruN ((Fram.refl none' _).thenDrew.thenN F1)
  replace hN := F1.blkN hN
  have h3 : Blk (w1).heap b3 (ndc (nd E.G n, pn)) 148 := h3
  unfold ndc at h3
  refine wl_nil (x_then (hK1 _ _ ?_))
  clear hK1 K1
  refine forget [(0, _), (3, _)] ⟨rfl, rfl, trivial⟩ (fun e => ?_)
  refine c_seq (fun K2 hK2 => ?_)
  obtain ⟨R_, z_, op⟩ := hR.open (f := f) (by simp)
  have hG := op.B
  have hC := hR.cb
  have khG := hR.ta
  have khC := hR.tc
  refine c_reg ?_ -- region 1 stmt.go:88
  refine wl (ro_move rfl) ?_
  refine wl (ro_nilCheck rfl) ?_
  refine wl (ro_fieldAddr (k := 9) rfl fo_199_9) ?_
  refine wl (ro_loadB rfl sc_196 hG (op.row 9 (by decide))) ?_
  refine wl (ro_lenL rfl se_196) ?_
  refine wl (ro_assign rfl) ?_
  clear hG hC
  refine wl_nil (x_then (hK2 _ _ ?_))
  clear hK2 K2
  refine forget [(0, _), (3, _), (4, _)] ⟨rfl, rfl, rfl, trivial⟩ (fun e => ?_)
  refine c_seq (fun K3 hK3 => ?_)
  refine c_reg ?_ -- region 2 stmt.go:89
  refine wl (ro_move rfl) ?_
  refine wl (ro_fieldAddr (k := 1) rfl fo_148_1) ?_
  refine wl (ro_loadB rfl sc_3 (by assumption) rfl) ?_
  refine wl_call rfl en_186 (ha E _ _ _ _ f q _ hR.dr hi1 hw1 hp1 (hx0.left.le (by omega))) ?_
  rintro _ u2 ⟨rfl, ow2, x2, f2, r2⟩
  obtain ⟨hN, khN⟩ := cp_loc x2 f2 hN khN
  obtain ⟨h3, kh3⟩ := cp_loc x2 f2 h3 kh3
  have hs2 := hF.size
  replace hF := cp_trans hX hF f2
  replace hX := hX.trans hs2 x2
  replace hR := r2
  have hx1 := hx0.eE hi1 hw1
  obtain ⟨S1, hS1⟩ : ∃ z9, z9 = (cmp a 0 (chn (f :: q)) 0 f.code.length S).2 := ⟨_, rfl⟩
  obtain ⟨c1, hc1⟩ : ∃ z9, z9 = f.code ++ (cmp a 0 (chn (f :: q)) 0 f.code.length S).1 65535 := ⟨_, rfl⟩
  have hl1 : c1.length = f.code.length + ln (cmp a 0 (chn (f :: q)) 0 f.code.length S) := by rw [hc1, List.length_append]; congr 1; exact hx0.ln
  replace hx1 : FX E (cmp a 0 (chn (f :: q)) 0 f.code.length S).2 { f with code := f.code ++ (cmp a 0 (chn (f :: q)) 0 f.code.length S).1 65535 } q _ _ := hx1
  have hR : CM E _ _ _ (cmp a 0 (chn (f :: q)) 0 f.code.length S).2 ({ f with code := f.code ++ (cmp a 0 (chn (f :: q)) 0 f.code.length S).1 65535 } :: q) := hR
  rw [← hS1, ← hc1] at hR hx1
  have hk1 : 3 * c1.length ≤ 31000 := hx1.clen
  refine wl_nil (x_then (hK3 _ _ ?_))
  clear hK3 K3
  refine forget [(0, _), (3, _), (4, _)] ⟨rfl, rfl, rfl, trivial⟩ (fun e => ?_)
  refine c_seq (fun K4 hK4 => ?_)
  refine c_reg ?_ -- region 3 stmt.go:90
  refine wl (ro_move rfl) ?_
  refine wl_call rfl en_195 (jump195 (oc := 22) hR (by simp only; omega)) ?_
  rintro v9 u9 ⟨ow9, x9, f9, r9, ⟨p2a, p5a, rfl, hq2a, khq2a, hq5a, khq5a⟩⟩
  obtain ⟨hN, khN⟩ := cp_loc x9 f9 hN khN
  obtain ⟨h3, kh3⟩ := cp_loc x9 f9 h3 kh3
  have hs9 := hF.size
  replace hF := cp_trans hX hF f9
  replace hX := hX.trans hs9 x9
  replace hR := r9
  obtain ⟨c1m, hc1m⟩ : ∃ z9, z9 = c1 ++ [(22, 65535)] := ⟨_, rfl⟩
  have hlc1m : c1m.length = c1.length + 1 := by rw [hc1m, List.length_append]; rfl
  have hxc1m : FX E _ ⟨f.j, f.L, c1 ++ [(22, 65535)], f.lps⟩ q _ (100 * ndT b + 70) := FX.emit (B' := 100 * ndT b + 70) hx1 (by simp only [List.length_cons, List.length_nil]; omega)
  have hR : CM E _ _ _ _ (⟨f.j, f.L, c1 ++ [(22, 65535)], f.lps⟩ :: q) := hR
  rw [← hc1m] at hR hxc1m
  have hkc1m : 3 * c1m.length ≤ 31000 := hxc1m.clen
  refine wl (ro_assign rfl) ?_
  refine wl_nil (x_then (hK4 _ _ ?_))
  clear hK4 K4
  refine forget [(0, _), (3, _), (4, _), (5, _)] ⟨rfl, rfl, rfl, rfl, trivial⟩ (fun e => ?_)
  refine c_seq (fun K5 hK5 => ?_)
  obtain ⟨R8, z8, op8⟩ := hR.open (f := ⟨f.j, f.L, c1m, f.lps⟩) (by simp)
  have hG8 := op8.B
  refine c_reg ?_ -- region 4 stmt.go:91
  refine wl (ro_move rfl) ?_
  refine wl (ro_move rfl) ?_
  refine wl (ro_nilCheck rfl) ?_
  refine wl (ro_fieldAddr (k := 3) rfl fo_199_3) ?_
  refine wl (ro_loadB rfl sc_192 (hG8) (op8.row 3 (by decide))) ?_
  refine wl (ro_lenL rfl se_192) ?_
  refine wl_call rfl en_235 (open235 (f := ⟨f.j, f.L, c1m, f.lps⟩) (base := f.L.length) hR.dr (by have := hx0.lq; simp only; omega)) ?_
  rintro _ u3 ⟨rfl, ow3, x3, f3, r3⟩
  obtain ⟨hN, khN⟩ := cp_loc x3 f3 hN khN
  obtain ⟨h3, kh3⟩ := cp_loc x3 f3 h3 kh3
  obtain ⟨hq2a, khq2a⟩ := cp_loc x3 f3 hq2a khq2a
  obtain ⟨hq5a, khq5a⟩ := cp_loc x3 f3 hq5a khq5a
  have hs3 := hF.size
  replace hF := cp_trans hX hF f3
  replace hX := hX.trans hs3 x3
  replace hR := r3
  have hxo := FX.opn (b := f.L.length) (B' := 100 * ndT b + 60) hxc1m hL12 (by omega)
  refine wl_nil (x_then (hK5 _ _ ?_))
  clear hK5 K5
  refine forget [(0, _), (3, _), (4, _), (5, _)] ⟨rfl, rfl, rfl, rfl, trivial⟩ (fun e => ?_)
  refine c_seq (fun K6 hK6 => ?_)
  refine c_reg ?_ -- region 5 stmt.go:92
  refine wl (ro_move rfl) ?_
  refine wl (ro_fieldAddr (k := 2) rfl fo_148_2) ?_
  refine wl (ro_loadB rfl sc_3 (by assumption) rfl) ?_
  refine wl_call rfl en_79 (hb E _ _ _ _ ⟨f.j, f.L, c1m, (f.L.length, []) :: f.lps⟩ q _ hR.dr hi2 hw2 hp2 (fun _ h ↦ by cases h) (hxo.left.le (by omega))) ?_
  rintro _ u4 ⟨rfl, ow4, x4, f4, r4⟩
  obtain ⟨hN, khN⟩ := cp_loc x4 f4 hN khN
  obtain ⟨h3, kh3⟩ := cp_loc x4 f4 h3 kh3
  obtain ⟨hq2a, khq2a⟩ := cp_loc x4 f4 hq2a khq2a
  obtain ⟨hq5a, khq5a⟩ := cp_loc x4 f4 hq5a khq5a
  have hs4 := hF.size
  replace hF := cp_trans hX hF f4
  replace hX := hX.trans hs4 x4
  replace hR := r4
  have hx2 := FX.bB (B := 50) (hxo.le (by omega)) hi2 hw2
  have hho : HoP (cmp b f.L.length (chn (f :: q)) f.L.length c1m.length S1) := FX.hoB (B := 50) (hxo.le (by omega)) hi2 hw2
  obtain ⟨S2, hS2⟩ : ∃ z9, z9 = (cmp b f.L.length (chn (f :: q)) f.L.length c1m.length S1).2 := ⟨_, rfl⟩
  obtain ⟨c2, hc2⟩ : ∃ z9, z9 = c1m ++ (cmp b f.L.length (chn (f :: q)) f.L.length c1m.length S1).1 65535 := ⟨_, rfl⟩
  obtain ⟨l2, hp2⟩ : ∃ z9, z9 = addB ((f.L.length, []) :: f.lps) (hp c1m.length ((cmp b f.L.length (chn (f :: q)) f.L.length c1m.length S1).1 65535)) := ⟨_, rfl⟩
  have hl2 : c2.length = c1m.length + ln (cmp b f.L.length (chn (f :: q)) f.L.length c1m.length S1) := by rw [hc2, List.length_append]; congr 1; exact hxo.ln
  replace hx2 : FX E (cmp b f.L.length (chn (f :: q)) f.L.length c1m.length S1).2 ⟨f.j, f.L, c1m ++ (cmp b f.L.length (chn (f :: q)) f.L.length c1m.length S1).1 65535, addB ((f.L.length, []) :: f.lps) (hp c1m.length ((cmp b f.L.length (chn (f :: q)) f.L.length c1m.length S1).1 65535))⟩ q _ _ := hx2
  have hR : CM E _ _ _ (cmp b f.L.length (chn (f :: q)) f.L.length c1m.length S1).2 (⟨f.j, f.L, c1m ++ (cmp b f.L.length (chn (f :: q)) f.L.length c1m.length S1).1 65535, addB ((f.L.length, []) :: f.lps) (hp c1m.length ((cmp b f.L.length (chn (f :: q)) f.L.length c1m.length S1).1 65535))⟩ :: q) := hR
  rw [← hp2, ← hc2, ← hS2] at hR hx2
  have hk2 : 3 * c2.length ≤ 31000 := hx2.clen
  refine wl_nil (x_then (hK6 _ _ ?_))
  clear hK6 K6
  refine forget [(0, _), (4, _), (5, _)] ⟨rfl, rfl, rfl, trivial⟩ (fun e => ?_)
  refine c_seq (fun K7 hK7 => ?_)
  refine c_reg ?_ -- region 6 stmt.go:93
  refine wl (ro_move rfl) ?_
  refine wl (ro_move rfl) ?_
  refine wl (ro_conv rfl sc_3 in_201 (Go.IntWalk.u16_in _ (by omega))) ?_
  refine wl (ro_build rfl bld_203_0_1) ?_
  refine wl_em (is := [(21, f.code.length)]) (eo_bsI1 rfl se_196 zx_203) rfl hR rfl (by simp; omega) ?_
  intro u5 ow5 x5 f5 r5
  obtain ⟨hN, khN⟩ := cp_loc' x5 f5 hN khN
  obtain ⟨h3, kh3⟩ := cp_loc' x5 f5 h3 kh3
  obtain ⟨hq2a, khq2a⟩ := cp_loc' x5 f5 hq2a khq2a
  obtain ⟨hq5a, khq5a⟩ := cp_loc' x5 f5 hq5a khq5a
  have hs5 := hF.size
  replace hF := cp_trans' hX hF f5
  replace hX := hX.trans hs5 x5
  replace hR := r5
  obtain ⟨c2m, hc2m⟩ : ∃ z9, z9 = c2 ++ [(21, f.code.length)] := ⟨_, rfl⟩
  have hlc2m : c2m.length = c2.length + 1 := by rw [hc2m, List.length_append]; rfl
  have hxc2m : FX E _ ⟨f.j, f.L, c2 ++ [(21, f.code.length)], l2⟩ q _ (40) := FX.emit (B' := 40) hx2 (by simp only [List.length_cons, List.length_nil]; omega)
  have hR : CM E _ _ _ _ (⟨f.j, f.L, c2 ++ [(21, f.code.length)], l2⟩ :: q) := hR
  rw [← hc2m] at hR hxc2m
  have hkc2m : 3 * c2m.length ≤ 31000 := hxc2m.clen
  refine wl_nil (x_then (hK7 _ _ ?_))
  clear hK7 K7
  refine forget [(0, _), (5, _)] ⟨rfl, rfl, trivial⟩ (fun e => ?_)
  refine c_seq (fun K8 hK8 => ?_)
  refine c_reg ?_ -- region 7 stmt.go:94
  refine wl (ro_move rfl) ?_
  refine wl_callV rfl rfl (patch237 (p := c1.length) hR ⟨p2a, p5a, rfl, hq2a, khq2a, hq5a, khq5a⟩ (by show c1.length < c2m.length; omega) (by show c2m.length ≤ _; omega)) ?_
  rintro _ u7 ⟨rfl, ow7, x7, f7, r7⟩
  obtain ⟨hN, khN⟩ := cp_loc x7 f7 hN khN
  obtain ⟨h3, kh3⟩ := cp_loc x7 f7 h3 kh3
  obtain ⟨hq2a, khq2a⟩ := cp_loc x7 f7 hq2a khq2a
  obtain ⟨hq5a, khq5a⟩ := cp_loc x7 f7 hq5a khq5a
  have hs7 := hF.size
  replace hF := cp_trans hX hF f7
  replace hX := hX.trans hs7 x7
  replace hR := r7
  obtain ⟨c3, hc3⟩ : ∃ z9, z9 = setX c2m c1.length c2m.length := ⟨_, rfl⟩
  have hlc3 : c3.length = c2m.length := by rw [hc3, setX_len]
  have hxc3 : FX E _ ⟨f.j, f.L, c3, l2⟩ q _ _ := FX.setc (c := c3) hxc2m hlc3
  have hR : CM E _ _ _ _ (⟨f.j, f.L, setX c2m c1.length c2m.length, l2⟩ :: q) := hR
  rw [← hc3] at hR
  have hkc3 : 3 * c3.length ≤ 31000 := hxc3.clen
  refine wl_nil (x_then (hK8 _ _ ?_))
  clear hK8 K8
  refine c_reg ?_ -- region 8 stmt.go:95
  refine wl (ro_move rfl) ?_
  refine wl_call rfl en_236 (shut236 (f := ⟨f.j, f.L, c3, l2⟩) (b := f.L.length) (br := [] ++ hp c1m.length ((cmp b f.L.length (chn (f :: q)) f.L.length c1m.length S1).1 65535)) (rest := f.lps) hR.dr hp2 (fun p hp ↦ (hxc3.lb _ (by rw [hp2]; exact List.mem_cons_self)).2.2 p hp) (by simp only; omega) (by have := (hxc3.lb _ (by rw [hp2]; exact List.mem_cons_self)).2.1; simp only at this; omega) (by have := hx0.lq; omega)) ?_
  rintro _ u6 ⟨rfl, ow6, x6, f6, r6⟩
  obtain ⟨hN, khN⟩ := cp_loc x6 f6 hN khN
  obtain ⟨h3, kh3⟩ := cp_loc x6 f6 h3 kh3
  obtain ⟨hq2a, khq2a⟩ := cp_loc x6 f6 hq2a khq2a
  obtain ⟨hq5a, khq5a⟩ := cp_loc x6 f6 hq5a khq5a
  have hs6 := hF.size
  replace hF := cp_trans hX hF f6
  replace hX := hX.trans hs6 x6
  replace hR := r6
  refine wl_nil ?_
  refine bp_end Tryz.results192 rfl ?_
  refine ⟨rfl, _, hX, hF, ?_⟩
  rw [List.append_assoc] at hR
  rw [List.nil_append] at hR
  have hR : CM E _ _ (O ++ (numsT a ++ numsT b)) S2 (⟨f.j, f.L, pch c3 (hp c1m.length ((cmp b f.L.length (chn (f :: q)) f.L.length c1m.length S1).1 65535)) c3.length, f.lps⟩ :: q) := hR
  rw [← hl1, ← hlc1m, ← hS1, ← hl2, ← hlc2m, ← hS2, hho c2m.length, show f.code ++ ((cmp a 0 (chn (f :: q)) 0 f.code.length S).1 65535 ++ [(22, c2m.length)] ++ ((cmp b f.L.length (chn (f :: q)) f.L.length c1m.length S1).1 65535).map (holeF c2m.length) ++ [(21, f.code.length)]) = pch c3 (hp c1m.length ((cmp b f.L.length (chn (f :: q)) f.L.length c1m.length S1).1 65535)) c3.length by
    rw [whl_code hc1m hc2 hc2m hc3, hc1]
    simp only [List.append_assoc]]
  exact hR
end
set_option maxHeartbeats 16000000 in
theorem xs_whl {a b : Tr} {lp : Bool} (ha : XE a) (hb : XB b true) : XS (St.whl a b) lp := by
  intro E w ow O S f q n hR hi hw hpa hlp hx
  have hw9 := hw
  obtain ⟨hn0, hK, hi1, hi2⟩ := IsS_whl.1 hi
  have hn : n < E.G.length := nd_lt (by rw [hK]; decide)
  obtain ⟨-, hw1, hw2⟩ : dE a ≤ 128 ∧ W a false f.L.length ∧ W b true f.L.length := hw
  obtain ⟨hp1, hp2⟩ : PaT E.pa a f.j ∧ PaT E.pa b f.j := hpa
  have hx0 : FX E S f q (numsT a ++ (numsT b ++ [])) (100 * ndT a + (100 * ndT b + 80)) := by
    have hx : FX E S f q (numsT a ++ numsT b) (100 * (1 + ndT a + ndT b)) := hx
    rw [List.append_nil]
    exact hx.le (by omega)
  have hF : Fram (tg ow cpT) w w := Fram.refl _ _
  have hX : Xt w ow ow := Xt.refl _ _
  obtain ⟨gn, capn, ln_, env, hN, khN, hcapn, hrow⟩ := hR.nodes hx.g0.1
  obtain ⟨pn, hpn⟩ := hrow n hn
  have hcl : 3 * f.code.length ≤ 31000 := hx.clen
  have hL12 := hx.L
  have hjl := hx.jl
  refine ret_of Tryz.func139 rfl Tryz.ntmps139 rfl ?_
  refine c_seq (fun K1 hK1 => ?_)
  obtain ⟨R_, z_, op⟩ := hR.open (f := f) (by simp)
  have hG := op.B
  have hC := hR.cb
  have khG := hR.ta
  have khC := hR.tc
  rw [env] at hC
  refine c_reg ?_ -- region 0 stmt.go:7
  refine wl (ro_move rfl) ?_
  refine wl (ro_nilCheck rfl) ?_
  refine wl (ro_fieldAddr (k := 0) rfl fo_199_0) ?_
  refine wl (ro_loadB rfl sc_22 hG (op.row 0 (by decide))) ?_
  refine wl (ro_nilCheck rfl) ?_
  refine wl (ro_fieldAddr (k := 2) rfl fo_94_2) ?_
  refine wl (ro_loadB rfl sc_77 (hC) rfl) ?_
  refine wl (ro_move rfl) ?_
  refine wl (ro_indexAddr (et := 148) (k := 8) rfl rfl se_77 (rfl) (hn)) ?_
  refine wl (ro_loadAggB rfl ag_148 (hN) (rfl) (hpn)) ?_
  refine wl_new (ze_148) (fun b4 w1 hbb4 h4 F1 => ?_)
  have hbsb4 := Nat.le_trans hF.size hbb4
  have hnegnb4 : gn < b4 := Nat.lt_of_lt_of_le hN.lt hbb4
  have hneE.gbb4 : E.gb < b4 := Nat.lt_of_lt_of_le hG.lt hbb4
  have hneE.cbb4 : E.cb < b4 := Nat.lt_of_lt_of_le hC.lt hbb4
  have kh4 := hR.df b4 hbb4
  replace hF := hF.thenDrew.thenN F1
  replace hR := hR.thruN ((Fram.refl none' _).thenDrew.thenN F1)
  replace hN := F1.blkN hN
  replace hG := F1.blkN hG
  replace hC := F1.blkN hC
  refine wl_puta rfl rfl ((ndc_one _)) sz_148 (rfl) h4 ((by simp)) (rfl) (fun w2 h4 F2 => ?_)
  replace hF := hF.thenDrew.thenO F2 (by first | exact .inr (by omega) | exact .inl rfl | exact .inl (by assumption) | assumption)
  replace hR := hR.hbput ((Fram.refl (one b4) _).thenDrew.thenO F2 (.inl rfl))
  replace hN := F2.blkO hN (by first | omega | exact ow_ne (by assumption) (by assumption) (by omega))
  replace hG := F2.blkO hG (by first | omega | exact ow_ne (by assumption) (by assumption) (by omega))
  replace hC := F2.blkO hC (by first | omega | exact ow_ne (by assumption) (by assumption) (by omega))
  have h4 : Blk (w2).heap b4 [i64c 7, i64c (nd E.G n).A, i64c (nd E.G n).B, i64c (nd E.G n).C, i64c (nd E.G n).Nx, u64c (nd E.G n).N, Go.Proofs.Qxb6500568aGreatDoor.S (nd E.G n).S, i64c pn] 148 := by rw [← hK]; exact h4
  refine wl_nil (x_then (hK1 _ _ ?_))
  clear hK1 K1
  refine forget [(0, _), (4, _)] ⟨rfl, rfl, trivial⟩ (fun e => ?_)
  refine c_seq (fun K2 hK2 => ?_)
  refine c_reg ?_ -- region 1 stmt.go:8
  refine wl (ro_fieldAddr (k := 0) rfl fo_148_0) ?_
  refine wl (ro_loadB rfl sc_3 (by assumption) rfl) ?_
  refine wl_nil (x_then (hK2 _ _ ?_))
  clear hK2 K2
  refine c_block ?_
  refine forget [(0, _), (4, _), (22, _)] ⟨rfl, rfl, rfl, trivial⟩ (fun e => ?_)
  refine c_seq (fun K3 hK3 => ?_)
  refine c_reg ?_ -- region 2 stmt.go:9
  refine wl (ro_cmp rfl rfl rfl) ?_
  refine wl (ro_assign rfl) ?_
  refine wl_nil (x_then (hK3 _ _ ?_))
  clear hK3 K3
  refine wc_condF rfl ?_
  refine c_seq (fun K4 hK4 => ?_)
  refine c_reg ?_ -- region 5 stmt.go:12
  refine wl (ro_cmp rfl rfl rfl) ?_
  refine wl (ro_assign rfl) ?_
  refine wl_nil (x_then (hK4 _ _ ?_))
  clear hK4 K4
  refine wc_condF rfl ?_
  refine c_seq (fun K5 hK5 => ?_)
  refine c_reg ?_ -- region 12 stmt.go:19
  refine wl (ro_cmp rfl rfl rfl) ?_
  refine wl (ro_assign rfl) ?_
  refine wl_nil (x_then (hK5 _ _ ?_))
  clear hK5 K5
  refine wc_condF rfl ?_
  refine c_seq (fun K6 hK6 => ?_)
  refine c_reg ?_ -- region 16 stmt.go:23
  refine wl (ro_cmp rfl rfl rfl) ?_
  refine wl (ro_assign rfl) ?_
  refine wl_nil (x_then (hK6 _ _ ?_))
  clear hK6 K6
  refine wc_condF rfl ?_
  refine c_seq (fun K7 hK7 => ?_)
  refine c_reg ?_ -- region 18 stmt.go:25
  refine wl (ro_cmp rfl rfl rfl) ?_
  refine wl (ro_assign rfl) ?_
  refine wl_nil (x_then (hK7 _ _ ?_))
  clear hK7 K7
  refine wc_condF rfl ?_
  refine c_seq (fun K8 hK8 => ?_)
  refine c_reg ?_ -- region 21 stmt.go:28
  refine wl (ro_cmp rfl rfl rfl) ?_
  refine wl (ro_assign rfl) ?_
  refine wl_nil (x_then (hK8 _ _ ?_))
  clear hK8 K8
  refine wc_condF rfl ?_
  refine c_seq (fun K9 hK9 => ?_)
  refine c_reg ?_ -- region 23 stmt.go:30
  refine wl (ro_cmp rfl rfl rfl) ?_
  refine wl (ro_assign rfl) ?_
  refine wl_nil (x_then (hK9 _ _ ?_))
  clear hK9 K9
  refine wc_condT rfl ?_
  refine c_reg ?_ -- region 24 stmt.go:31
  refine wl (ro_move rfl) ?_
  refine wl (ro_loadAggB rfl ag_148 (h4) (rfl) (rfl)) ?_
  refine wl_call rfl en_192 (while192 (pn := pn) (n := n) ha hb (by rw [← hK]; rfl) hR.dr hi1 hi2 hw1 hw2 hp1 hp2 hx0) ?_
  rintro _ u3 ⟨rfl, ow3, x3, f3, r3⟩
  obtain ⟨hN, khN⟩ := cp_loc x3 f3 hN khN
  obtain ⟨h4, kh4⟩ := cp_loc x3 f3 h4 kh4
  have hs3 := hF.size
  replace hF := cp_trans hX hF f3
  replace hX := hX.trans hs3 x3
  replace hR := r3
  refine wl_nil (x_blk ?_)
  refine bp_end Tryz.results139 rfl ?_
  refine ⟨rfl, _, hX, hF, ?_⟩
  rw [hpS (co_whl ((co_all E.G (szT a)).1 a _ hi1 (Nat.le_refl _))) hx hi hw9]
  exact hR
end Go.Proofs.Qxb6500568aGreatDoor
