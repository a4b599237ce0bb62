import Derived.Test.Qxb6500568aGreatDoorQo
/- The driver: run, by the steps left. -/
namespace Go.Proofs.Qxb6500568aGreatDoor
open Ieee
set_option linter.unusedVariables false
set_option linter.unusedSimpArgs false
set_option linter.unusedSectionVars false

section
variable {C : VC} {b : AS} {cb : Nat}
/-- what run is handed. -/
structure CoI (C : VC) (b : AS) (cb n : Nat) (d : Int) (w : World) (ow : Nat → Nat) (th : Nat) (va vb : PV) (s : AS) : Prop where
  q : AMq C w ow s
  lt : th < s.ths.length
  st : (thA s.ths th).st = 1 ∨ (thA s.ths th).st = 2 ∨ (thA s.ths th).st = 3
  f1 : (thA s.ths th).st = 1 → (thA s.ths th).frs = []
  hva : VV s.clos.length s.ths.length s.tabs.length va
  hvb : VV s.clos.length s.ths.length s.tabs.length vb
  L : LI C b n (exS (Psf C.F) th va vb s)
  hd : s.done = false
  B : Blk w.heap cb (coc C s.first d) 91
  t : ow cb = 66
theorem CoI.h0 {n th : Nat} {d : Int} {w : World} {ow : Nat → Nat} {va vb : PV} {s : AS} (h : CoI C b cb n d w ow th va vb s) : th ≠ 0 → s.stack ≠ [] := by
  intro q e
  have hk := exS_k (C := C) (th := th) (va := va) (vb := vb) (s := s)
  have hT := h.L.sh.tr ((congrArg (fun q => q.2.2.2) hk).trans h.hd)
  have h1 : (exS (Psf C.F) th va vb s).cur = th := congrArg Prod.fst hk
  have h2 : (exS (Psf C.F) th va vb s).stack = s.stack := congrArg (fun q => q.2.1) hk
  have := hT.bot
  rw [h1, h2, e] at this
  simp at this
  exact q this
set_option maxHeartbeats 16000000 in
theorem runCo (hb : b.done = true) : ∀ (n : Nat) {w : World} {ow : Nat → Nat} {th : Nat} {va vb : PV} {s : AS} {d : Int}, IntKind.i64.wrap d = d → CoI C b cb n d w ow th va vb s → Ret Tryz.prog 39 [ptr cb, i64c th, pv va, pv vb] w (CoR C b n cb d s.stack w ow) := by
  intro n
  induction n using Nat.strongRecOn with
  | _ n ih =>
    intro w ow th va vb s d hdw h
    have hX : Xt w ow ow := Xt.refl _ _
    have hF : Fram (fun x => tg ow vtT x ∨ x = cb) w w := Fram.refl _ _
    have hGc : tg ow vtT cb ∨ cb = cb := .inr rfl
    have hC := h.B
    have khC := h.t
    have hR := h.q
    unfold coc at hC
    obtain ⟨d1, hd1⟩ : ∃ d1, d1 = IntKind.i64.wrap (d + 1) := ⟨_, rfl⟩
    have hd1w : IntKind.i64.wrap (d1 - 1) = d := by rw [hd1]; rw [IntKind.wrap_i64] at hdw ⊢; rw [IntKind.wrap_i64]; omega
    have hd1r : IntKind.i64.wrap d1 = d1 := by rw [hd1]; rw [IntKind.wrap_i64, IntKind.wrap_i64]; omega
    refine ret_of Tryz.func39 rfl Tryz.ntmps39 rfl ?_
    refine c_seq (fun K1 hK1 => ?_)
    refine c_reg ?_ -- region 0 co.go:36
    refine wl_box (cs := (pvc va)) rfl rfl (fun b6 w1 hbb6 h6 F1 => ?_)
    have hbsb6 := Nat.le_trans hF.size hbb6
    have hnecbb6 : cb < b6 := Nat.lt_of_lt_of_le hC.lt hbb6
    have kh6 := hR.df b6 hbb6
    replace hF := hF.thenDrew.thenN F1
    replace hR := hR.thruN ((Fram.refl none' _).thenDrew.thenN F1)
    replace hC := F1.blkN hC
    refine wl_box (cs := (pvc vb)) rfl rfl (fun b7 w2 hbb7 h7 F2 => ?_)
    have hbsb7 := Nat.le_trans hF.size hbb7
    have hnecbb7 : cb < b7 := Nat.lt_of_lt_of_le hC.lt hbb7
    have hneb6b7 : b6 < b7 := Nat.lt_of_lt_of_le h6.lt hbb7
    have kh7 := hR.df b7 hbb7
    replace hF := hF.thenDrew.thenN F2
    replace hR := hR.thruN ((Fram.refl none' _).thenDrew.thenN F2)
    replace hC := F2.blkN hC
    replace h6 := F2.blkN h6
    refine wl_new (ze_134) (fun b8 w3 hbb8 h8 F3 => ?_)
    have hbsb8 := Nat.le_trans hF.size hbb8
    have hnecbb8 : cb < b8 := Nat.lt_of_lt_of_le hC.lt hbb8
    have hneb6b8 : b6 < b8 := Nat.lt_of_lt_of_le h6.lt hbb8
    have hneb7b8 : b7 < b8 := Nat.lt_of_lt_of_le h7.lt hbb8
    have kh8 := hR.df b8 hbb8
    replace hF := hF.thenDrew.thenN F3
    replace hR := hR.thruN ((Fram.refl none' _).thenDrew.thenN F3)
    replace hC := F3.blkN hC
    replace h6 := F3.blkN h6
    replace h7 := F3.blkN h7
    refine wl_nil (x_then (hK1 _ _ ?_))
    clear hK1 K1
    refine forget [(0, _), (1, _), (6, _), (7, _), (8, _)] ⟨rfl, rfl, rfl, rfl, rfl, trivial⟩ (fun e => ?_)
    refine c_seq (fun K2 hK2 => ?_)
    refine c_reg ?_ -- region 1 co.go:37
    refine wl (ro_move rfl) ?_
    refine wl (ro_nilCheck rfl) ?_
    refine wl (ro_fieldAddr (k := 2) rfl fo_91_2) ?_
    refine wl (ro_loadB rfl sc_3 (hC) rfl) ?_
    refine wl (ro_arithW (r := d + 1) rfl rfl rfl) ?_
    refine wl (ro_nilCheck rfl) ?_
    refine wl (ro_fieldAddr (k := 2) rfl fo_91_2) ?_
    refine wl_put rfl rfl rfl sz_3 hC (by simp) (rfl) (fun w4 hC F4 => ?_)
    replace hF := hF.thenDrew.thenO F4 (by first | exact .inr (by omega) | exact .inl rfl | exact .inl (by assumption) | assumption)
    replace hR := hR.hbput ((Fram.refl (one cb) _).thenDrew.thenO F4 (.inl rfl))
    replace h6 := F4.blkO h6 (by first | omega | exact ow_ne (by assumption) (by assumption) (by omega))
    replace h7 := F4.blkO h7 (by first | omega | exact ow_ne (by assumption) (by assumption) (by omega))
    replace h8 := F4.blkO h8 (by first | omega | exact ow_ne (by assumption) (by assumption) (by omega))
    refine wl_nil (x_then (hK2 _ _ ?_))
    clear hK2 K2
    refine c_block ?_
    -- loop@r2: live slots [0, 1, 6, 7, 8]
    rw [← hd1] at hC
    have hI : CoI C b cb n d1 w4 ow th va vb s := ⟨hR, h.lt, h.st, h.f1, h.hva, h.hvb, h.L, h.hd, hC, khC⟩
    refine c_loopG (fun m aa u => ∃ a1 b1 s1 ow1, m ≤ n ∧ CoI C b cb m d1 u ow1 th a1 b1 s1 ∧ s1.stack = s.stack ∧ Xt w ow ow1 ∧ Fram (fun x => tg ow vtT x ∨ x = cb) w u ∧ Blk u.heap b6 (pvc a1) 119 ∧ ow1 b6 = 66 ∧ Blk u.heap b7 (pvc b1) 119 ∧ ow1 b7 = 66 ∧ Blk u.heap b8 (resc 0 vNil 0) 134 ∧ ow1 b8 = 66 ∧ ∃ e', aa = Fr 116 (upds e' [(0, ptr cb), (1, i64c th), (6, ptr b6), (7, ptr b7), (8, ptr b8)]) []) n ⟨va, vb, s, ow, Nat.le_refl n, hI, rfl, hX, hF, h6, kh6, h7, kh7, h8, kh8, kp _ ⟨rfl, rfl, rfl, rfl, rfl, trivial⟩⟩ ?_
    clear hI hR hX hF h6 kh6 h7 kh7 h8 kh8 hC khC h
    rintro m aa u ⟨a1, b1, s1, ow1, hmn, hI, hsk, hX, hF, h6, kh6, h7, kh7, h8, kh8, e', rfl⟩
    have hR := hI.q
    have hC := hI.B
    have khC := hI.t
    unfold coc at hC
    refine c_block ?_
    refine c_seq (fun K3 hK3 => ?_)
    refine c_piF 9 7 8 [0, 1, 2, 3, 4, 5, 6] [(8, true)] [(7, true)] (fun w' => Blk w'.heap cb [ptr C.E.mb, i64c s1.first, .int .i64 d1] 91 ∧ Blk w'.heap b6 (pvc a1) 119 ∧ Blk w'.heap b7 (pvc b1) 119) mixed (by kernel_rfl) rfl rfl (by kernel_rfl) (po_then (po_blk (po_then (po_blk (po_bp))))) (⟨hC, h6, h7⟩) ?_ -- region 2 co.go:39
    refine wf_ro rfl (fun w hS => ro_move rfl) ?_
    refine wf_ro rfl (fun w hS => ro_nilCheck rfl) ?_
    refine wf_ro rfl (fun w hS => ro_fieldAddr (k := 0) rfl fo_91_0) ?_
    refine wf_ro rfl (fun w hS => ro_loadB rfl sc_42 hS.1 rfl) ?_
    refine wf_ro rfl (fun w hS => ro_move rfl) ?_
    refine wf_ro rfl (fun w hS => ro_loadAggB rfl ag_119 hS.2.1 rfl rfl) ?_
    refine wf_ro rfl (fun w hS => ro_loadAggB rfl ag_119 hS.2.2 rfl rfl) ?_
    refine wf_cm (R := ExR C b m (th, s1.stack, s1.first, false) { u with drawn := u.drawn + 1 } ow1) (RB := ExB C b m (th, s1.stack, s1.first, false) { u with drawn := u.drawn + 1 } ow1) (G := tg ow1 vtT) rfl rfl rfl (by decide) (by decide) (by decide) rfl (fun _ => rfl) en_89 ze_211 sz_211 rfl ((execA hR.dr hI.lt hI.st hI.f1 hI.hva hI.hvb hI.L hb hI.hd).mono fun v uu hh ↦ ⟨hh, hh.fr⟩) (fun v uu u' x hh hx F ↦ (hh.b1 hx).thenN F) (fun w1 x F1 hx1 hx2 ↦ (execA (hR.dr.thruN F1) hI.lt hI.st hI.f1 hI.hva hI.hvb hI.L hb hI.hd).mono fun v uu hh ↦ ⟨(hh.b2 hx2 (hR.df x hx1)).old F1, hh.fr⟩) (fun x v uu hh ↦ hh.r) (fun v uu u' hh F ↦ hh.thenN F) (fun x hg ↦ Nat.lt_of_not_le fun q ↦ by have hg : vtT (ow1 x) := hg; rw [hR.df x q] at hg; exact absurd hg (by unfold vtT vmT rtag; omega)) (fun v uu hh ↦ hh.form) (fun uu F ↦ ⟨F.blkN (w := { u with drawn := u.drawn + 1 }) hC, F.blkN (w := { u with drawn := u.drawn + 1 }) h6, F.blkN (w := { u with drawn := u.drawn + 1 }) h7⟩) (fun v uu hh ↦ ⟨(vm_loc (Xt.refl _ _) hh.fr hC khC).1, (vm_loc (Xt.refl _ _) hh.fr h6 kh6).1, (vm_loc (Xt.refl _ _) hh.fr h7 kh7).1⟩) (fun v uu hh ↦ hh.fr.size) ?_
    intro cs u2 b9 u3 hR9 hcl hbb9 hbu h9 F9
    obtain ⟨k9, t9, e9, v9, x9, rfl, hQ⟩ := hR9.q hI.h0
    obtain ⟨m2, z2, ow2, s2, kh9, hm2, hL2, x50, f50, hk2, hE⟩ := hQ
    have hbsb9 : w.heap.size ≤ b9 := Nat.le_trans hF.size hbb9
    have hnecbb9 : cb < b9 := Nat.lt_of_lt_of_le hC.lt hbb9
    have hneb6b9 : b6 < b9 := Nat.lt_of_lt_of_le h6.lt hbb9
    have hneb7b9 : b7 < b9 := Nat.lt_of_lt_of_le h7.lt hbb9
    have hneb8b9 : b8 < b9 := Nat.lt_of_lt_of_le h8.lt hbb9
    obtain ⟨hC, khC⟩ := vm_loc x50 f50 hC khC
    obtain ⟨h6, kh6⟩ := vm_loc x50 f50 h6 kh6
    obtain ⟨h7, kh7⟩ := vm_loc x50 f50 h7 kh7
    obtain ⟨h8, kh8⟩ := vm_loc x50 f50 h8 kh8
    have hs50 := hF.size
    replace hF := co_trans hX hF f50
    replace hX := hX.trans hs50 x50
    replace hF := hF.thenO F9 (.inr hbsb9)
    replace hC := F9.blkO hC (by omega)
    replace h6 := F9.blkO h6 (by omega)
    replace h7 := F9.blkO h7 (by omega)
    replace h8 := F9.blkO h8 (by omega)
    have hst2 : s2.stack = s.stack := (congrArg (fun q ↦ q.2.1) hk2).trans hsk
    have hfi2 : s2.first = s1.first := congrArg (fun q ↦ q.2.2.1) hk2
    have hcu2 : s2.cur = th := congrArg Prod.fst hk2
    have hdn2 : s2.done = false := congrArg (fun q ↦ q.2.2.2) hk2
    rw [← hfi2] at hC
    have hE : (AMq C u3 ow2 s2 ∧ (((k9 = 1 ∨ k9 = 3) ∧ HS s2 ∧ (wfV v9 = true ∧ W64 v9.N) ∧ aback true v9 s2 = z2) ∨ (k9 = 4 ∧ rsm (Psf C.F) t9 v9 s2 = z2 ∧ t9 < s2.ths.length ∧ ((thA s2.ths t9).st = 1 ∧ (thA s2.ths t9).frs = [] ∨ (thA s2.ths t9).st = 2) ∧ VV s2.clos.length s2.ths.length s2.tabs.length v9) ∨ (k9 = 2 ∧ HS s2 ∧ (wfV v9 = true ∧ W64 v9.N) ∧ aback false v9 s2 = z2))) ∨ (k9 = 5 ∧ ATr e9 s2 z2 ∧ MOZ C u3 ow2 s2.fuel s2.out) := by
      rcases hE with ⟨q, hE⟩ | ⟨q1, q2, q3⟩
      · exact .inl ⟨q.hbput F9 kh9, hE⟩
      · exact .inr ⟨q1, q2, q3.hbput F9 kh9⟩
    clear hR9 hcl hbu F9 x50 f50 hR
    refine x_then (hK3 _ _ ?_)
    clear hK3 K3
    refine c_seq (fun K4 hK4 => ?_)
    refine c_seq (fun K5 hK5 => ?_)
    refine c_reg ?_ -- region 3 co.go:40
    refine wl (ro_fieldAddr (k := 0) rfl fo_211_0) ?_
    refine wl (ro_loadB rfl sc_3 (h9) rfl) ?_
    refine wl_nil (x_then (hK5 _ _ ?_))
    clear hK5 K5
    refine c_block ?_
    refine forget [(0, _), (1, _), (6, _), (7, _), (8, _), (9, _), (28, _)] ⟨rfl, rfl, rfl, rfl, rfl, rfl, rfl, trivial⟩ (fun e => ?_)
    refine c_seq (fun K6 hK6 => ?_)
    refine c_reg ?_ -- region 4 co.go:41
    refine wl (ro_cmp rfl rfl rfl) ?_
    refine wl (ro_assign rfl) ?_
    refine wl_nil (x_then (hK6 _ _ ?_))
    clear hK6 K6
    refine wc_cond rfl (fun hc29 => ?_) (fun hc29 => ?_)
    · try simp only [decide_eq_true_eq, decide_eq_false_iff_not, Bool.not_eq_true', Bool.not_eq_false', Bool.not_eq_eq_eq_not, Bool.not_true, Bool.not_false, beq_iff_eq, bne_iff_ne, ne_eq, beq_eq_false_iff_ne, bne_eq_false_iff_eq, gt_iff_lt, ge_iff_le, Int.not_lt, Int.not_le] at hc29
      have hk4 : k9 = 4 := by omega
      obtain ⟨hR, hrs, hlt9, hst9, hvv9⟩ : AMq C u3 ow2 s2 ∧ rsm (Psf C.F) t9 v9 s2 = z2 ∧ t9 < s2.ths.length ∧ ((thA s2.ths t9).st = 1 ∧ (thA s2.ths t9).frs = [] ∨ (thA s2.ths t9).st = 2) ∧ VV s2.clos.length s2.ths.length s2.tabs.length v9 := by
        rcases hE with ⟨q, ⟨h1, -⟩ | ⟨-, h2⟩ | ⟨h1, -⟩⟩ | ⟨h1, -⟩
        · omega
        · exact ⟨q, h2⟩
        · omega
        · omega
      have hzf : z2.first = (rs0 t9 s2).first := by rw [← hrs, rsm_ex]; exact congrArg (fun q ↦ q.2.2.1) exS_k
      have hfb := hL2.fb.d
      refine c_seq (fun K7 hK7 => ?_)
      refine c_pi [(0, false), (1, false), (2, false), (3, false), (4, false), (5, false), (6, true), (7, false)] (La cb _ _ (La b6 _ _ (La b7 _ _ (La b8 _ _ (La b9 _ _ (Mz C)))))) mixed (by kernel_rfl) rfl (by kernel_rfl) (po_then (po_blk (po_then (po_blk (po_then (po_blk (po_bp))))))) (⟨hC, h6, h7, h8, h9, hR.rz⟩) ?_ -- region 5 co.go:42
      refine pi_ro rfl (fun w hS => ro_move rfl) ?_
      refine pi_ro rfl (fun w hS => ro_nilCheck rfl) ?_
      refine pi_ro rfl (fun w hS => ro_fieldAddr (k := 0) rfl fo_91_0) ?_
      refine pi_ro rfl (fun w hS => ro_loadB rfl sc_42 (hS.1) rfl) ?_
      refine pi_ro rfl (fun w hS => ro_fieldAddr (k := 1) rfl fo_211_1) ?_
      refine pi_ro rfl (fun w hS => ro_loadB rfl sc_3 (hS.2.2.2.2.1) rfl) ?_
      refine pi_call rfl rfl en_90 (statusA hR.dr hlt9) ?_
      rintro _ w5 ⟨rfl, F5⟩
      replace hF := hF.thenDrew.thenN F5
      replace hC := F5.blkN hC
      replace h6 := F5.blkN h6
      replace h7 := F5.blkN h7
      replace h8 := F5.blkN h8
      replace h9 := F5.blkN h9
      replace hR := hR.thruN ((Fram.refl none' _).thenDrew.thenN F5)
      refine ⟨⟨hC, h6, h7, h8, h9, hR.rz⟩, ?_⟩
      refine pi_ro rfl (fun w hS => ro_assign rfl) ?_
      refine pi_nil (x_then (hK7 _ _ ?_))
      clear hK7 K7
      refine c_seq (fun K8 hK8 => ?_)
      refine c_seq (fun K9 hK9 => ?_)
      refine c_reg ?_ -- region 6 co.go:43
      refine wl (ro_move rfl) ?_
      refine wl (ro_cmp rfl rfl rfl) ?_
      refine wl_nil (x_then (hK9 _ _ ?_))
      clear hK9 K9
      refine wc_cond rfl (fun hc39 => ?_) (fun hc39 => ?_)
      · try simp only [decide_eq_true_eq, decide_eq_false_iff_not, Bool.not_eq_true', Bool.not_eq_false', Bool.not_eq_eq_eq_not, Bool.not_true, Bool.not_false, beq_iff_eq, bne_iff_ne, ne_eq, beq_eq_false_iff_ne, bne_eq_false_iff_eq, gt_iff_lt, ge_iff_le, Int.not_lt, Int.not_le] at hc39
        have hfe : (rs0 t9 s2).first = s2.first + 1 := by unfold rs0; dsimp only; rw [if_pos (by omega)]
        refine c_reg ?_ -- region 7 co.go:44
        refine wl (ro_move rfl) ?_
        refine wl (ro_nilCheck rfl) ?_
        refine wl (ro_fieldAddr (k := 1) rfl fo_91_1) ?_
        refine wl (ro_loadB rfl sc_3 (by assumption) rfl) ?_
        refine wl (ro_addN (k := 1) rfl rfl (by omega)) ?_
        refine wl (ro_nilCheck rfl) ?_
        refine wl (ro_fieldAddr (k := 1) rfl fo_91_1) ?_
        refine wl_put rfl rfl rfl sz_3 hC (by simp) (rfl) (fun w6 hC F6 => ?_)
        replace hF := hF.thenDrew.thenO F6 (by first | exact .inr (by omega) | exact .inl rfl | exact .inl (by assumption) | assumption)
        replace h6 := F6.blkO h6 (by first | omega | exact ow_ne (by assumption) (by assumption) (by omega))
        replace h7 := F6.blkO h7 (by first | omega | exact ow_ne (by assumption) (by assumption) (by omega))
        replace h8 := F6.blkO h8 (by first | omega | exact ow_ne (by assumption) (by assumption) (by omega))
        replace h9 := F6.blkO h9 (by first | omega | exact ow_ne (by assumption) (by assumption) (by omega))
        replace hR := hR.hbput ((Fram.refl (one cb) _).thenDrew.thenO F6 (.inl rfl))
        have hC : Blk w6.heap cb [ptr C.E.mb, i64c (rs0 t9 s2).first, .int .i64 d1] 91 := by rw [hfe]; exact hC
        refine wl_nil (x_then (hK8 _ _ ?_))
        clear hK8 K8
        refine forget [(0, _), (1, _), (6, _), (7, _), (8, _), (9, _)] ⟨rfl, rfl, rfl, rfl, rfl, rfl, trivial⟩ (fun e => ?_)
        refine c_seq (fun K10 hK10 => ?_)
        refine c_reg ?_ -- region 8 co.go:46
        refine wl (ro_move rfl) ?_
        refine wl (ro_fieldAddr (k := 1) rfl fo_211_1) ?_
        refine wl (ro_loadB rfl sc_3 (h9) rfl) ?_
        refine wl (ro_fieldAddr (k := 3) rfl fo_211_3) ?_
        refine wl (ro_loadAggB rfl ag_119 (h9) rfl rfl) ?_
        refine wl (ro_build rfl bld_119) ?_
        refine wl_call rfl en_39 (ih m2 (by omega) hd1r (s := rs0 t9 s2) (va := v9) (vb := vNil) ⟨hR.same rfl rfl rfl rfl rfl rfl, hlt9, (by rcases hst9 with q | q; exact .inl q.1; exact .inr (.inl q)), (fun q ↦ by rcases hst9 with q2 | q2; exact q2.2; have q : (thA s2.ths t9).st = 1 := q; omega), hvv9, .nil _ _ _, (by rw [← rsm_ex, hrs]; exact hL2), hdn2, hC, khC⟩) ?_
        rintro r60 u60 ⟨m3, z3, ow3, s3, kk, v3, e3, hm3, hL3, x60, f60, hC3, hsk3, hdn3, rfl, hE3⟩
        have hR6 : WX C ow3 s3 (HS s3 ∧ ∃ ok : Bool, kk = (if ok then 1 else 2) ∧ (wfV v3 = true ∧ W64 v3.N) ∧ aback ok v3 s3 = z3) (kk = 3 ∧ ATr e3 s3 z3) u60 := by
          rcases hE3 with ⟨q, q2⟩ | ⟨q1, q2, q3⟩
          · exact .inl ⟨q, q2⟩
          · exact .inr ⟨q3, q1, q2⟩
        have hC3' : ow3 cb = 66 := by rw [x60 cb hC.lt]; exact khC
        obtain ⟨h6, kh6⟩ := cd_loc x60 f60 h6 kh6 (by omega)
        obtain ⟨h7, kh7⟩ := cd_loc x60 f60 h7 kh7 (by omega)
        obtain ⟨h8, kh8⟩ := cd_loc x60 f60 h8 kh8 (by omega)
        have hs60 := hF.size
        replace hF := co_trans2 hX hF f60
        replace hX := hX.trans hs60 x60
        clear hE3 hR hC khC
        have hC := hC3
        have khC := hC3'
        unfold coc at hC
        have hR := hR6
        clear hR6
        refine wl_new (ze_134) (fun b11 w7 hbb11 h11 F7 => ?_)
        have hbsb11 := Nat.le_trans hF.size hbb11
        have hnecbb11 : cb < b11 := Nat.lt_of_lt_of_le hC.lt hbb11
        have hneb6b11 : b6 < b11 := Nat.lt_of_lt_of_le h6.lt hbb11
        have hneb7b11 : b7 < b11 := Nat.lt_of_lt_of_le h7.lt hbb11
        have hneb8b11 : b8 < b11 := Nat.lt_of_lt_of_le h8.lt hbb11
        have kh11 := hR.df b11 hbb11
        replace hF := hF.thenDrew.thenN F7
        replace hC := F7.blkN hC
        replace h6 := F7.blkN h6
        replace h7 := F7.blkN h7
        replace h8 := F7.blkN h8
        replace hR := hR.thruN ((Fram.refl none' _).thenDrew.thenN F7)
        refine wl_puta rfl rfl ((resc_one _ _ _)) sz_134 (rfl) h11 ((Nat.le_refl 5)) (rfl) (fun w8 h11 F8 => ?_)
        replace hF := hF.thenDrew.thenO F8 (by first | exact .inr (by omega) | exact .inl rfl | exact .inl (by assumption) | assumption)
        replace hC := F8.blkO hC (by first | omega | exact ow_ne (by assumption) (by assumption) (by omega))
        replace h6 := F8.blkO h6 (by first | omega | exact ow_ne (by assumption) (by assumption) (by omega))
        replace h7 := F8.blkO h7 (by first | omega | exact ow_ne (by assumption) (by assumption) (by omega))
        replace h8 := F8.blkO h8 (by first | omega | exact ow_ne (by assumption) (by assumption) (by omega))
        replace hR := hR.hbput ((Fram.refl (one b11) _).thenDrew.thenO F8 (.inl rfl))
        refine wl_nil (x_then (hK10 _ _ ?_))
        clear hK10 K10
        refine c_seq (fun K11 hK11 => ?_)
        refine c_seq (fun K12 hK12 => ?_)
        refine c_reg ?_ -- region 9 co.go:47
        refine wl (ro_fieldAddr (k := 0) rfl fo_134_0) ?_
        refine wl (ro_loadB rfl sc_3 (h11) rfl) ?_
        refine wl (ro_cmp rfl rfl rfl) ?_
        refine wl_nil (x_then (hK12 _ _ ?_))
        clear hK12 K12
        refine wc_cond rfl (fun hc56 => ?_) (fun hc56 => ?_)
        · try simp only [decide_eq_true_eq, decide_eq_false_iff_not, Bool.not_eq_true', Bool.not_eq_false', Bool.not_eq_eq_eq_not, Bool.not_true, Bool.not_false, beq_iff_eq, bne_iff_ne, ne_eq, beq_eq_false_iff_ne, bne_eq_false_iff_eq, gt_iff_lt, ge_iff_le, Int.not_lt, Int.not_le] at hc56
          refine c_seq (fun K13 hK13 => ?_)
          refine c_reg ?_ -- region 10 co.go:48
          refine wl (ro_move rfl) ?_
          refine wl (ro_nilCheck rfl) ?_
          refine wl (ro_fieldAddr (k := 2) rfl fo_91_2) ?_
          refine wl (ro_loadB rfl sc_3 (hC) rfl) ?_
          refine wl (ro_arithW (r := d1 - 1) rfl rfl rfl) ?_
          refine wl (ro_nilCheck rfl) ?_
          refine wl (ro_fieldAddr (k := 2) rfl fo_91_2) ?_
          refine wl_put rfl rfl rfl sz_3 hC (by simp) (rfl) (fun w9 hC F9 => ?_)
          replace hF := hF.thenDrew.thenO F9 (by first | exact .inr (by omega) | exact .inl rfl | exact .inl (by assumption) | assumption)
          replace h6 := F9.blkO h6 (by first | omega | exact ow_ne (by assumption) (by assumption) (by omega))
          replace h7 := F9.blkO h7 (by first | omega | exact ow_ne (by assumption) (by assumption) (by omega))
          replace h8 := F9.blkO h8 (by first | omega | exact ow_ne (by assumption) (by assumption) (by omega))
          replace hR := hR.hbput ((Fram.refl (one cb) _).thenDrew.thenO F9 (.inl rfl))
          replace h11 := F9.blkO h11 (by first | omega | exact ow_ne (by assumption) (by assumption) (by omega))
          rw [hd1w] at hC
          refine wl_nil (x_then (hK13 _ _ ?_))
          clear hK13 K13
          refine forget [(8, _), (11, _)] ⟨rfl, rfl, trivial⟩ (fun e => ?_)
          refine c_seq (fun K14 hK14 => ?_)
          refine c_reg ?_ -- region 11 co.go:49
          refine wl (ro_loadAggB rfl ag_134 (h11) rfl rfl) ?_
          refine wl_puta rfl rfl ((resc_one _ _ _)) sz_134 (rfl) h8 ((Nat.le_refl 5)) (rfl) (fun w10 h8 F10 => ?_)
          replace hF := hF.thenDrew.thenO F10 (by first | exact .inr (by omega) | exact .inl rfl | exact .inl (by assumption) | assumption)
          replace hC := F10.blkO hC (by first | omega | exact ow_ne (by assumption) (by assumption) (by omega))
          replace h6 := F10.blkO h6 (by first | omega | exact ow_ne (by assumption) (by assumption) (by omega))
          replace h7 := F10.blkO h7 (by first | omega | exact ow_ne (by assumption) (by assumption) (by omega))
          replace hR := hR.hbput ((Fram.refl (one b8) _).thenDrew.thenO F10 (.inl rfl))
          replace h11 := F10.blkO h11 (by first | omega | exact ow_ne (by assumption) (by assumption) (by omega))
          refine wl_nil (x_then (hK14 _ _ ?_))
          clear hK14 K14
          refine c_ret (x_thenR (x_blkR (x_thenR (x_blkR (x_thenR (x_blkR ?_))))))
          refine bq_ret (res1 Tryz.results39 (rv_c rfl ag_134 (h8) (rfl))) ?_
          have hk3 : kk = 3 := by omega
          refine ⟨m3, z3, ow3, { s3 with stack := s.stack }, kk, v3, e3, by omega, hL3, hX, hF, hC, rfl, hdn3, rfl, .inr ⟨hk3, ?_⟩⟩
          rcases hR with ⟨_, _, ok, q, -⟩ | ⟨q, -, q2⟩
          · cases ok <;> simp at q <;> omega
          · exact ⟨q2, q⟩
        · try simp only [decide_eq_true_eq, decide_eq_false_iff_not, Bool.not_eq_true', Bool.not_eq_false', Bool.not_eq_eq_eq_not, Bool.not_true, Bool.not_false, beq_iff_eq, bne_iff_ne, ne_eq, beq_eq_false_iff_ne, bne_eq_false_iff_eq, gt_iff_lt, ge_iff_le, Int.not_lt, Int.not_le] at hc56
          refine c_skip (x_then (hK11 _ _ ?_))
          clear hK11 K11
          refine forget [(0, _), (1, _), (6, _), (7, _), (8, _), (11, _)] ⟨rfl, rfl, rfl, rfl, rfl, rfl, trivial⟩ (fun e => ?_)
          refine c_seq (fun K15 hK15 => ?_)
          refine c_reg ?_ -- region 12 co.go:51
          refine wl (ro_fieldAddr (k := 0) rfl fo_134_0) ?_
          refine wl (ro_loadB rfl sc_3 (h11) rfl) ?_
          refine wl (ro_cmp (r := decide (kk = 1)) rfl rfl (congrArg some (beqc kk 1))) ?_
          refine wl_call rfl en_91 (Bool91 (b := decide (kk = 1))) ?_
          rintro _ w11 ⟨rfl, F11⟩
          replace hF := hF.thenDrew.thenN F11
          replace hC := F11.blkN hC
          replace h6 := F11.blkN h6
          replace h7 := F11.blkN h7
          replace h8 := F11.blkN h8
          replace hR := hR.thruN ((Fram.refl none' _).thenDrew.thenN F11)
          replace h11 := F11.blkN h11
          refine wl_puta rfl rfl ((pvc_one _)) sz_119 (rfl) h6 ((Nat.le_refl 3)) (rfl) (fun w12 h6 F12 => ?_)
          replace hF := hF.thenDrew.thenO F12 (by first | exact .inr (by omega) | exact .inl rfl | exact .inl (by assumption) | assumption)
          replace hC := F12.blkO hC (by first | omega | exact ow_ne (by assumption) (by assumption) (by omega))
          replace h7 := F12.blkO h7 (by first | omega | exact ow_ne (by assumption) (by assumption) (by omega))
          replace h8 := F12.blkO h8 (by first | omega | exact ow_ne (by assumption) (by assumption) (by omega))
          replace hR := hR.hbput ((Fram.refl (one b6) _).thenDrew.thenO F12 (.inl rfl))
          replace h11 := F12.blkO h11 (by first | omega | exact ow_ne (by assumption) (by assumption) (by omega))
          refine wl_nil (x_then (hK15 _ _ ?_))
          clear hK15 K15
          refine forget [(0, _), (1, _), (6, _), (7, _), (8, _), (11, _)] ⟨rfl, rfl, rfl, rfl, rfl, rfl, trivial⟩ (fun e => ?_)
          refine c_seq (fun K16 hK16 => ?_)
          refine c_reg ?_ -- region 13 co.go:52
          refine wl (ro_fieldAddr (k := 1) rfl fo_134_1) ?_
          refine wl (ro_loadAggB rfl ag_119 (h11) rfl rfl) ?_
          refine wl_puta rfl rfl ((pvc_one _)) sz_119 (rfl) h7 ((Nat.le_refl 3)) (rfl) (fun w13 h7 F13 => ?_)
          replace hF := hF.thenDrew.thenO F13 (by first | exact .inr (by omega) | exact .inl rfl | exact .inl (by assumption) | assumption)
          replace hC := F13.blkO hC (by first | omega | exact ow_ne (by assumption) (by assumption) (by omega))
          replace h6 := F13.blkO h6 (by first | omega | exact ow_ne (by assumption) (by assumption) (by omega))
          replace h8 := F13.blkO h8 (by first | omega | exact ow_ne (by assumption) (by assumption) (by omega))
          replace hR := hR.hbput ((Fram.refl (one b7) _).thenDrew.thenO F13 (.inl rfl))
          replace h11 := F13.blkO h11 (by first | omega | exact ow_ne (by assumption) (by assumption) (by omega))
          refine wl_nil (x_then (hK16 _ _ ?_))
          clear hK16 K16
          refine c_exit (x_blkY rfl (x_thenX (x_blkX (x_then ?_))))
          rcases hR with ⟨hq, hHS, ok, hkk, hw3, hz3⟩ | ⟨-, q, -⟩
          · have hok : decide (kk = 1) = ok := by cases ok <;> simp at hkk <;> subst hkk <;> rfl
            rw [hok] at h6
            have hsk3' : s3.stack = th :: s.stack := by rw [hsk3]; show s2.cur :: s2.stack = _; rw [hcu2, hst2]
            obtain ⟨hlt3, hst3⟩ := hHS.lt hsk3'
            rw [aback_ex (Ps := Psf C.F) hsk3' (by omega)] at hz3
            rw [← hz3] at hL3
            have hvv := exS_vv (s := { s3 with stack := s.stack }) hL3 hdn3 hlt3 (by show (thA s3.ths th).st ≠ 1; omega)
            exact ⟨m3, by omega, vBool ok, v3, { s3 with stack := s.stack }, ow3, by omega, ⟨hq.same rfl rfl rfl rfl rfl rfl, hlt3, .inr (.inr hst3), fun q ↦ absurd q (by show (thA s3.ths th).st ≠ 1; omega), hvv.1, hvv.2, hL3, hdn3, hC, khC⟩, rfl, hX, hF, h6, kh6, h7, kh7, h8, kh8, kp _ ⟨rfl, rfl, rfl, rfl, rfl, trivial⟩⟩
          · exfalso; omega
      · try simp only [decide_eq_true_eq, decide_eq_false_iff_not, Bool.not_eq_true', Bool.not_eq_false', Bool.not_eq_eq_eq_not, Bool.not_true, Bool.not_false, beq_iff_eq, bne_iff_ne, ne_eq, beq_eq_false_iff_ne, bne_eq_false_iff_eq, gt_iff_lt, ge_iff_le, Int.not_lt, Int.not_le] at hc39
        have hfe : (rs0 t9 s2).first = s2.first := by unfold rs0; dsimp only; rw [if_neg (by omega)]
        rw [← hfe] at hC
        refine c_skip (x_then (hK8 _ _ ?_))
        clear hK8 K8
        refine forget [(0, _), (1, _), (6, _), (7, _), (8, _), (9, _)] ⟨rfl, rfl, rfl, rfl, rfl, rfl, trivial⟩ (fun e => ?_)
        refine c_seq (fun K17 hK17 => ?_)
        refine c_reg ?_ -- region 8 co.go:46
        refine wl (ro_move rfl) ?_
        refine wl (ro_fieldAddr (k := 1) rfl fo_211_1) ?_
        refine wl (ro_loadB rfl sc_3 (h9) rfl) ?_
        refine wl (ro_fieldAddr (k := 3) rfl fo_211_3) ?_
        refine wl (ro_loadAggB rfl ag_119 (h9) rfl rfl) ?_
        refine wl (ro_build rfl bld_119) ?_
        refine wl_call rfl en_39 (ih m2 (by omega) hd1r (s := rs0 t9 s2) (va := v9) (vb := vNil) ⟨hR.same rfl rfl rfl rfl rfl rfl, hlt9, (by rcases hst9 with q | q; exact .inl q.1; exact .inr (.inl q)), (fun q ↦ by rcases hst9 with q2 | q2; exact q2.2; have q : (thA s2.ths t9).st = 1 := q; omega), hvv9, .nil _ _ _, (by rw [← rsm_ex, hrs]; exact hL2), hdn2, hC, khC⟩) ?_
        rintro r60 u60 ⟨m3, z3, ow3, s3, kk, v3, e3, hm3, hL3, x60, f60, hC3, hsk3, hdn3, rfl, hE3⟩
        have hR6 : WX C ow3 s3 (HS s3 ∧ ∃ ok : Bool, kk = (if ok then 1 else 2) ∧ (wfV v3 = true ∧ W64 v3.N) ∧ aback ok v3 s3 = z3) (kk = 3 ∧ ATr e3 s3 z3) u60 := by
          rcases hE3 with ⟨q, q2⟩ | ⟨q1, q2, q3⟩
          · exact .inl ⟨q, q2⟩
          · exact .inr ⟨q3, q1, q2⟩
        have hC3' : ow3 cb = 66 := by rw [x60 cb hC.lt]; exact khC
        obtain ⟨h6, kh6⟩ := cd_loc x60 f60 h6 kh6 (by omega)
        obtain ⟨h7, kh7⟩ := cd_loc x60 f60 h7 kh7 (by omega)
        obtain ⟨h8, kh8⟩ := cd_loc x60 f60 h8 kh8 (by omega)
        have hs60 := hF.size
        replace hF := co_trans2 hX hF f60
        replace hX := hX.trans hs60 x60
        clear hE3 hR hC khC
        have hC := hC3
        have khC := hC3'
        unfold coc at hC
        have hR := hR6
        clear hR6
        refine wl_new (ze_134) (fun b11 w14 hbb11 h11 F14 => ?_)
        have hbsb11 := Nat.le_trans hF.size hbb11
        have hnecbb11 : cb < b11 := Nat.lt_of_lt_of_le hC.lt hbb11
        have hneb6b11 : b6 < b11 := Nat.lt_of_lt_of_le h6.lt hbb11
        have hneb7b11 : b7 < b11 := Nat.lt_of_lt_of_le h7.lt hbb11
        have hneb8b11 : b8 < b11 := Nat.lt_of_lt_of_le h8.lt hbb11
        have kh11 := hR.df b11 hbb11
        replace hF := hF.thenDrew.thenN F14
        replace hC := F14.blkN hC
        replace h6 := F14.blkN h6
        replace h7 := F14.blkN h7
        replace h8 := F14.blkN h8
        replace hR := hR.thruN ((Fram.refl none' _).thenDrew.thenN F14)
        refine wl_puta rfl rfl ((resc_one _ _ _)) sz_134 (rfl) h11 ((Nat.le_refl 5)) (rfl) (fun w15 h11 F15 => ?_)
        replace hF := hF.thenDrew.thenO F15 (by first | exact .inr (by omega) | exact .inl rfl | exact .inl (by assumption) | assumption)
        replace hC := F15.blkO hC (by first | omega | exact ow_ne (by assumption) (by assumption) (by omega))
        replace h6 := F15.blkO h6 (by first | omega | exact ow_ne (by assumption) (by assumption) (by omega))
        replace h7 := F15.blkO h7 (by first | omega | exact ow_ne (by assumption) (by assumption) (by omega))
        replace h8 := F15.blkO h8 (by first | omega | exact ow_ne (by assumption) (by assumption) (by omega))
        replace hR := hR.hbput ((Fram.refl (one b11) _).thenDrew.thenO F15 (.inl rfl))
        refine wl_nil (x_then (hK17 _ _ ?_))
        clear hK17 K17
        refine c_seq (fun K18 hK18 => ?_)
        refine c_seq (fun K19 hK19 => ?_)
        refine c_reg ?_ -- region 9 co.go:47
        refine wl (ro_fieldAddr (k := 0) rfl fo_134_0) ?_
        refine wl (ro_loadB rfl sc_3 (h11) rfl) ?_
        refine wl (ro_cmp rfl rfl rfl) ?_
        refine wl_nil (x_then (hK19 _ _ ?_))
        clear hK19 K19
        refine wc_cond rfl (fun hc56 => ?_) (fun hc56 => ?_)
        · try simp only [decide_eq_true_eq, decide_eq_false_iff_not, Bool.not_eq_true', Bool.not_eq_false', Bool.not_eq_eq_eq_not, Bool.not_true, Bool.not_false, beq_iff_eq, bne_iff_ne, ne_eq, beq_eq_false_iff_ne, bne_eq_false_iff_eq, gt_iff_lt, ge_iff_le, Int.not_lt, Int.not_le] at hc56
          refine c_seq (fun K20 hK20 => ?_)
          refine c_reg ?_ -- region 10 co.go:48
          refine wl (ro_move rfl) ?_
          refine wl (ro_nilCheck rfl) ?_
          refine wl (ro_fieldAddr (k := 2) rfl fo_91_2) ?_
          refine wl (ro_loadB rfl sc_3 (hC) rfl) ?_
          refine wl (ro_arithW (r := d1 - 1) rfl rfl rfl) ?_
          refine wl (ro_nilCheck rfl) ?_
          refine wl (ro_fieldAddr (k := 2) rfl fo_91_2) ?_
          refine wl_put rfl rfl rfl sz_3 hC (by simp) (rfl) (fun w16 hC F16 => ?_)
          replace hF := hF.thenDrew.thenO F16 (by first | exact .inr (by omega) | exact .inl rfl | exact .inl (by assumption) | assumption)
          replace h6 := F16.blkO h6 (by first | omega | exact ow_ne (by assumption) (by assumption) (by omega))
          replace h7 := F16.blkO h7 (by first | omega | exact ow_ne (by assumption) (by assumption) (by omega))
          replace h8 := F16.blkO h8 (by first | omega | exact ow_ne (by assumption) (by assumption) (by omega))
          replace hR := hR.hbput ((Fram.refl (one cb) _).thenDrew.thenO F16 (.inl rfl))
          replace h11 := F16.blkO h11 (by first | omega | exact ow_ne (by assumption) (by assumption) (by omega))
          rw [hd1w] at hC
          refine wl_nil (x_then (hK20 _ _ ?_))
          clear hK20 K20
          refine forget [(8, _), (11, _)] ⟨rfl, rfl, trivial⟩ (fun e => ?_)
          refine c_seq (fun K21 hK21 => ?_)
          refine c_reg ?_ -- region 11 co.go:49
          refine wl (ro_loadAggB rfl ag_134 (h11) rfl rfl) ?_
          refine wl_puta rfl rfl ((resc_one _ _ _)) sz_134 (rfl) h8 ((Nat.le_refl 5)) (rfl) (fun w17 h8 F17 => ?_)
          replace hF := hF.thenDrew.thenO F17 (by first | exact .inr (by omega) | exact .inl rfl | exact .inl (by assumption) | assumption)
          replace hC := F17.blkO hC (by first | omega | exact ow_ne (by assumption) (by assumption) (by omega))
          replace h6 := F17.blkO h6 (by first | omega | exact ow_ne (by assumption) (by assumption) (by omega))
          replace h7 := F17.blkO h7 (by first | omega | exact ow_ne (by assumption) (by assumption) (by omega))
          replace hR := hR.hbput ((Fram.refl (one b8) _).thenDrew.thenO F17 (.inl rfl))
          replace h11 := F17.blkO h11 (by first | omega | exact ow_ne (by assumption) (by assumption) (by omega))
          refine wl_nil (x_then (hK21 _ _ ?_))
          clear hK21 K21
          refine c_ret (x_thenR (x_blkR (x_thenR (x_blkR (x_thenR (x_blkR ?_))))))
          refine bq_ret (res1 Tryz.results39 (rv_c rfl ag_134 (h8) (rfl))) ?_
          have hk3 : kk = 3 := by omega
          refine ⟨m3, z3, ow3, { s3 with stack := s.stack }, kk, v3, e3, by omega, hL3, hX, hF, hC, rfl, hdn3, rfl, .inr ⟨hk3, ?_⟩⟩
          rcases hR with ⟨_, _, ok, q, -⟩ | ⟨q, -, q2⟩
          · cases ok <;> simp at q <;> omega
          · exact ⟨q2, q⟩
        · try simp only [decide_eq_true_eq, decide_eq_false_iff_not, Bool.not_eq_true', Bool.not_eq_false', Bool.not_eq_eq_eq_not, Bool.not_true, Bool.not_false, beq_iff_eq, bne_iff_ne, ne_eq, beq_eq_false_iff_ne, bne_eq_false_iff_eq, gt_iff_lt, ge_iff_le, Int.not_lt, Int.not_le] at hc56
          refine c_skip (x_then (hK18 _ _ ?_))
          clear hK18 K18
          refine forget [(0, _), (1, _), (6, _), (7, _), (8, _), (11, _)] ⟨rfl, rfl, rfl, rfl, rfl, rfl, trivial⟩ (fun e => ?_)
          refine c_seq (fun K22 hK22 => ?_)
          refine c_reg ?_ -- region 12 co.go:51
          refine wl (ro_fieldAddr (k := 0) rfl fo_134_0) ?_
          refine wl (ro_loadB rfl sc_3 (h11) rfl) ?_
          refine wl (ro_cmp (r := decide (kk = 1)) rfl rfl (congrArg some (beqc kk 1))) ?_
          refine wl_call rfl en_91 (Bool91 (b := decide (kk = 1))) ?_
          rintro _ w18 ⟨rfl, F18⟩
          replace hF := hF.thenDrew.thenN F18
          replace hC := F18.blkN hC
          replace h6 := F18.blkN h6
          replace h7 := F18.blkN h7
          replace h8 := F18.blkN h8
          replace hR := hR.thruN ((Fram.refl none' _).thenDrew.thenN F18)
          replace h11 := F18.blkN h11
          refine wl_puta rfl rfl ((pvc_one _)) sz_119 (rfl) h6 ((Nat.le_refl 3)) (rfl) (fun w19 h6 F19 => ?_)
          replace hF := hF.thenDrew.thenO F19 (by first | exact .inr (by omega) | exact .inl rfl | exact .inl (by assumption) | assumption)
          replace hC := F19.blkO hC (by first | omega | exact ow_ne (by assumption) (by assumption) (by omega))
          replace h7 := F19.blkO h7 (by first | omega | exact ow_ne (by assumption) (by assumption) (by omega))
          replace h8 := F19.blkO h8 (by first | omega | exact ow_ne (by assumption) (by assumption) (by omega))
          replace hR := hR.hbput ((Fram.refl (one b6) _).thenDrew.thenO F19 (.inl rfl))
          replace h11 := F19.blkO h11 (by first | omega | exact ow_ne (by assumption) (by assumption) (by omega))
          refine wl_nil (x_then (hK22 _ _ ?_))
          clear hK22 K22
          refine forget [(0, _), (1, _), (6, _), (7, _), (8, _), (11, _)] ⟨rfl, rfl, rfl, rfl, rfl, rfl, trivial⟩ (fun e => ?_)
          refine c_seq (fun K23 hK23 => ?_)
          refine c_reg ?_ -- region 13 co.go:52
          refine wl (ro_fieldAddr (k := 1) rfl fo_134_1) ?_
          refine wl (ro_loadAggB rfl ag_119 (h11) rfl rfl) ?_
          refine wl_puta rfl rfl ((pvc_one _)) sz_119 (rfl) h7 ((Nat.le_refl 3)) (rfl) (fun w20 h7 F20 => ?_)
          replace hF := hF.thenDrew.thenO F20 (by first | exact .inr (by omega) | exact .inl rfl | exact .inl (by assumption) | assumption)
          replace hC := F20.blkO hC (by first | omega | exact ow_ne (by assumption) (by assumption) (by omega))
          replace h6 := F20.blkO h6 (by first | omega | exact ow_ne (by assumption) (by assumption) (by omega))
          replace h8 := F20.blkO h8 (by first | omega | exact ow_ne (by assumption) (by assumption) (by omega))
          replace hR := hR.hbput ((Fram.refl (one b7) _).thenDrew.thenO F20 (.inl rfl))
          replace h11 := F20.blkO h11 (by first | omega | exact ow_ne (by assumption) (by assumption) (by omega))
          refine wl_nil (x_then (hK23 _ _ ?_))
          clear hK23 K23
          refine c_exit (x_blkY rfl (x_thenX (x_blkX (x_then ?_))))
          rcases hR with ⟨hq, hHS, ok, hkk, hw3, hz3⟩ | ⟨-, q, -⟩
          · have hok : decide (kk = 1) = ok := by cases ok <;> simp at hkk <;> subst hkk <;> rfl
            rw [hok] at h6
            have hsk3' : s3.stack = th :: s.stack := by rw [hsk3]; show s2.cur :: s2.stack = _; rw [hcu2, hst2]
            obtain ⟨hlt3, hst3⟩ := hHS.lt hsk3'
            rw [aback_ex (Ps := Psf C.F) hsk3' (by omega)] at hz3
            rw [← hz3] at hL3
            have hvv := exS_vv (s := { s3 with stack := s.stack }) hL3 hdn3 hlt3 (by show (thA s3.ths th).st ≠ 1; omega)
            exact ⟨m3, by omega, vBool ok, v3, { s3 with stack := s.stack }, ow3, by omega, ⟨hq.same rfl rfl rfl rfl rfl rfl, hlt3, .inr (.inr hst3), fun q ↦ absurd q (by show (thA s3.ths th).st ≠ 1; omega), hvv.1, hvv.2, hL3, hdn3, hC, khC⟩, rfl, hX, hF, h6, kh6, h7, kh7, h8, kh8, kp _ ⟨rfl, rfl, rfl, rfl, rfl, trivial⟩⟩
          · exfalso; omega
    · try simp only [decide_eq_true_eq, decide_eq_false_iff_not, Bool.not_eq_true', Bool.not_eq_false', Bool.not_eq_eq_eq_not, Bool.not_true, Bool.not_false, beq_iff_eq, bne_iff_ne, ne_eq, beq_eq_false_iff_ne, bne_eq_false_iff_eq, gt_iff_lt, ge_iff_le, Int.not_lt, Int.not_le] at hc29
      refine c_mid (fun aa ww => ww = u3 ∧ ∃ bb : Bool, (bb = true ↔ (k9 = 3 ∨ k9 = 1)) ∧ ∃ e', aa = Fr 116 (upds e' [(0, ptr cb), (1, i64c th), (6, ptr b6), (7, ptr b7), (8, ptr b8), (9, ptr b9), (28, i64c k9), (71, .bool bb)]) []) ?_ ?_
      · skip
        refine c_seq (fun K24 hK24 => ?_)
        refine c_reg ?_ -- region 14 co.go:54
        refine wl (ro_cmp rfl rfl rfl) ?_
        refine wl (ro_assign rfl) ?_
        refine wl_nil (x_then (hK24 _ _ ?_))
        clear hK24 K24
        refine wc_cond rfl (fun hc71 => ?_) (fun hc71 => ?_)
        · try simp only [decide_eq_true_eq, decide_eq_false_iff_not, Bool.not_eq_true', Bool.not_eq_false', Bool.not_eq_eq_eq_not, Bool.not_true, Bool.not_false, beq_iff_eq, bne_iff_ne, ne_eq, beq_eq_false_iff_ne, bne_eq_false_iff_eq, gt_iff_lt, ge_iff_le, Int.not_lt, Int.not_le] at hc71
          refine c_skip (x_then ?_)
          exact ⟨rfl, _, by simp; omega, kp _ ⟨rfl, rfl, rfl, rfl, rfl, rfl, rfl, rfl, trivial⟩⟩
        · try simp only [decide_eq_true_eq, decide_eq_false_iff_not, Bool.not_eq_true', Bool.not_eq_false', Bool.not_eq_eq_eq_not, Bool.not_true, Bool.not_false, beq_iff_eq, bne_iff_ne, ne_eq, beq_eq_false_iff_ne, bne_eq_false_iff_eq, gt_iff_lt, ge_iff_le, Int.not_lt, Int.not_le] at hc71
          refine c_reg ?_ -- region 15 co.go:54
          refine wl (ro_cmp rfl rfl rfl) ?_
          refine wl (ro_assign rfl) ?_
          refine wl_nil (x_then ?_)
          exact ⟨rfl, _, by simp; omega, kp _ ⟨rfl, rfl, rfl, rfl, rfl, rfl, rfl, rfl, trivial⟩⟩
      rintro _ u4 ⟨rfl, bb, hbb, e', rfl⟩
      refine wc_cond rfl (fun hc71 => ?_) (fun hc71 => ?_)
      · try simp only [decide_eq_true_eq, decide_eq_false_iff_not, Bool.not_eq_true', Bool.not_eq_false', Bool.not_eq_eq_eq_not, Bool.not_true, Bool.not_false, beq_iff_eq, bne_iff_ne, ne_eq, beq_eq_false_iff_ne, bne_eq_false_iff_eq, gt_iff_lt, ge_iff_le, Int.not_lt, Int.not_le] at hc71
        have h13 := hbb.1 hc71
        obtain ⟨hR, hHS, hw9, hz9⟩ : AMq C u4 ow2 s2 ∧ HS s2 ∧ (wfV v9 = true ∧ W64 v9.N) ∧ aback true v9 s2 = z2 := by
          rcases hE with ⟨q, ⟨-, h2⟩ | ⟨h1, -⟩ | ⟨h1, -⟩⟩ | ⟨h1, -⟩
          · exact ⟨q, h2⟩
          · omega
          · omega
          · omega
        refine c_seq (fun K25 hK25 => ?_)
        refine c_reg ?_ -- region 16 co.go:55
        refine wl (ro_move rfl) ?_
        refine wl (ro_nilCheck rfl) ?_
        refine wl (ro_fieldAddr (k := 2) rfl fo_91_2) ?_
        refine wl (ro_loadB rfl sc_3 (hC) rfl) ?_
        refine wl (ro_arithW (r := d1 - 1) rfl rfl rfl) ?_
        refine wl (ro_nilCheck rfl) ?_
        refine wl (ro_fieldAddr (k := 2) rfl fo_91_2) ?_
        refine wl_put rfl rfl rfl sz_3 hC (by simp) (rfl) (fun w21 hC F21 => ?_)
        replace hF := hF.thenDrew.thenO F21 (by first | exact .inr (by omega) | exact .inl rfl | exact .inl (by assumption) | assumption)
        replace h6 := F21.blkO h6 (by first | omega | exact ow_ne (by assumption) (by assumption) (by omega))
        replace h7 := F21.blkO h7 (by first | omega | exact ow_ne (by assumption) (by assumption) (by omega))
        replace h8 := F21.blkO h8 (by first | omega | exact ow_ne (by assumption) (by assumption) (by omega))
        replace h9 := F21.blkO h9 (by first | omega | exact ow_ne (by assumption) (by assumption) (by omega))
        replace hR := hR.hbput ((Fram.refl (one cb) _).thenDrew.thenO F21 (.inl rfl))
        rw [hd1w] at hC
        refine wl_nil (x_then (hK25 _ _ ?_))
        clear hK25 K25
        refine forget [(8, _), (9, _)] ⟨rfl, rfl, trivial⟩ (fun e => ?_)
        refine c_seq (fun K26 hK26 => ?_)
        refine c_reg ?_ -- region 17 co.go:56
        refine wl (ro_fieldAddr (k := 3) rfl fo_211_3) ?_
        refine wl (ro_loadAggB rfl ag_119 (h9) rfl rfl) ?_
        refine wl (ro_build rfl bld_134_0_1) ?_
        refine wl_puta rfl rfl ((resc_one 1 v9 0)) sz_134 (rfl) h8 ((Nat.le_refl 5)) (rfl) (fun w22 h8 F22 => ?_)
        replace hF := hF.thenDrew.thenO F22 (by first | exact .inr (by omega) | exact .inl rfl | exact .inl (by assumption) | assumption)
        replace hC := F22.blkO hC (by first | omega | exact ow_ne (by assumption) (by assumption) (by omega))
        replace h6 := F22.blkO h6 (by first | omega | exact ow_ne (by assumption) (by assumption) (by omega))
        replace h7 := F22.blkO h7 (by first | omega | exact ow_ne (by assumption) (by assumption) (by omega))
        replace h9 := F22.blkO h9 (by first | omega | exact ow_ne (by assumption) (by assumption) (by omega))
        replace hR := hR.hbput ((Fram.refl (one b8) _).thenDrew.thenO F22 (.inl rfl))
        refine wl_nil (x_then (hK26 _ _ ?_))
        clear hK26 K26
        refine c_ret (x_blkR (x_thenR (x_blkR (x_thenR (x_blkR ?_)))))
        refine bq_ret (res1 Tryz.results39 (rv_c rfl ag_134 (h8) (rfl))) ?_
        exact ⟨m2, z2, ow2, s2, 1, v9, 0, by omega, hL2, hX, hF, hC, hst2, hdn2, rfl, .inl ⟨hR, hHS, true, rfl, hw9, hz9⟩⟩
      · try simp only [decide_eq_true_eq, decide_eq_false_iff_not, Bool.not_eq_true', Bool.not_eq_false', Bool.not_eq_eq_eq_not, Bool.not_true, Bool.not_false, beq_iff_eq, bne_iff_ne, ne_eq, beq_eq_false_iff_ne, bne_eq_false_iff_eq, gt_iff_lt, ge_iff_le, Int.not_lt, Int.not_le] at hc71
        have h13 : ¬ (k9 = 3 ∨ k9 = 1) := fun q ↦ by have := hbb.2 q; rw [hc71] at this; cases this
        refine c_seq (fun K27 hK27 => ?_)
        refine c_reg ?_ -- region 18 co.go:57
        refine wl (ro_cmp rfl rfl rfl) ?_
        refine wl (ro_assign rfl) ?_
        refine wl_nil (x_then (hK27 _ _ ?_))
        clear hK27 K27
        refine wc_cond rfl (fun hc84 => ?_) (fun hc84 => ?_)
        · try simp only [decide_eq_true_eq, decide_eq_false_iff_not, Bool.not_eq_true', Bool.not_eq_false', Bool.not_eq_eq_eq_not, Bool.not_true, Bool.not_false, beq_iff_eq, bne_iff_ne, ne_eq, beq_eq_false_iff_ne, bne_eq_false_iff_eq, gt_iff_lt, ge_iff_le, Int.not_lt, Int.not_le] at hc84
          have hk2' : k9 = 2 := by omega
          obtain ⟨hR, hHS, hw9, hz9⟩ : AMq C u4 ow2 s2 ∧ HS s2 ∧ (wfV v9 = true ∧ W64 v9.N) ∧ aback false v9 s2 = z2 := by
            rcases hE with ⟨q, ⟨h1, -⟩ | ⟨h1, -⟩ | ⟨-, h2⟩⟩ | ⟨h1, -⟩
            · omega
            · omega
            · exact ⟨q, h2⟩
            · omega
          refine c_seq (fun K28 hK28 => ?_)
          refine c_reg ?_ -- region 19 co.go:58
          refine wl (ro_move rfl) ?_
          refine wl (ro_nilCheck rfl) ?_
          refine wl (ro_fieldAddr (k := 2) rfl fo_91_2) ?_
          refine wl (ro_loadB rfl sc_3 (hC) rfl) ?_
          refine wl (ro_arithW (r := d1 - 1) rfl rfl rfl) ?_
          refine wl (ro_nilCheck rfl) ?_
          refine wl (ro_fieldAddr (k := 2) rfl fo_91_2) ?_
          refine wl_put rfl rfl rfl sz_3 hC (by simp) (rfl) (fun w23 hC F23 => ?_)
          replace hF := hF.thenDrew.thenO F23 (by first | exact .inr (by omega) | exact .inl rfl | exact .inl (by assumption) | assumption)
          replace h6 := F23.blkO h6 (by first | omega | exact ow_ne (by assumption) (by assumption) (by omega))
          replace h7 := F23.blkO h7 (by first | omega | exact ow_ne (by assumption) (by assumption) (by omega))
          replace h8 := F23.blkO h8 (by first | omega | exact ow_ne (by assumption) (by assumption) (by omega))
          replace h9 := F23.blkO h9 (by first | omega | exact ow_ne (by assumption) (by assumption) (by omega))
          replace hR := hR.hbput ((Fram.refl (one cb) _).thenDrew.thenO F23 (.inl rfl))
          rw [hd1w] at hC
          refine wl_nil (x_then (hK28 _ _ ?_))
          clear hK28 K28
          refine forget [(8, _), (9, _)] ⟨rfl, rfl, trivial⟩ (fun e => ?_)
          refine c_seq (fun K29 hK29 => ?_)
          refine c_reg ?_ -- region 20 co.go:59
          refine wl (ro_fieldAddr (k := 3) rfl fo_211_3) ?_
          refine wl (ro_loadAggB rfl ag_119 (h9) rfl rfl) ?_
          refine wl (ro_build rfl bld_134_0_1) ?_
          refine wl_puta rfl rfl ((resc_one 2 v9 0)) sz_134 (rfl) h8 ((Nat.le_refl 5)) (rfl) (fun w24 h8 F24 => ?_)
          replace hF := hF.thenDrew.thenO F24 (by first | exact .inr (by omega) | exact .inl rfl | exact .inl (by assumption) | assumption)
          replace hC := F24.blkO hC (by first | omega | exact ow_ne (by assumption) (by assumption) (by omega))
          replace h6 := F24.blkO h6 (by first | omega | exact ow_ne (by assumption) (by assumption) (by omega))
          replace h7 := F24.blkO h7 (by first | omega | exact ow_ne (by assumption) (by assumption) (by omega))
          replace h9 := F24.blkO h9 (by first | omega | exact ow_ne (by assumption) (by assumption) (by omega))
          replace hR := hR.hbput ((Fram.refl (one b8) _).thenDrew.thenO F24 (.inl rfl))
          refine wl_nil (x_then (hK29 _ _ ?_))
          clear hK29 K29
          refine c_ret (x_blkR (x_thenR (x_blkR (x_thenR (x_blkR ?_)))))
          refine bq_ret (res1 Tryz.results39 (rv_c rfl ag_134 (h8) (rfl))) ?_
          exact ⟨m2, z2, ow2, s2, 2, v9, 0, by omega, hL2, hX, hF, hC, hst2, hdn2, rfl, .inl ⟨hR, hHS, false, rfl, hw9, hz9⟩⟩
        · try simp only [decide_eq_true_eq, decide_eq_false_iff_not, Bool.not_eq_true', Bool.not_eq_false', Bool.not_eq_eq_eq_not, Bool.not_true, Bool.not_false, beq_iff_eq, bne_iff_ne, ne_eq, beq_eq_false_iff_ne, bne_eq_false_iff_eq, gt_iff_lt, ge_iff_le, Int.not_lt, Int.not_le] at hc84
          refine c_seq (fun K30 hK30 => ?_)
          refine c_reg ?_ -- region 21 co.go:60
          refine wl (ro_cmp rfl rfl rfl) ?_
          refine wl (ro_assign rfl) ?_
          refine wl_nil (x_then (hK30 _ _ ?_))
          clear hK30 K30
          refine wc_cond rfl (fun hc96 => ?_) (fun hc96 => ?_)
          · try simp only [decide_eq_true_eq, decide_eq_false_iff_not, Bool.not_eq_true', Bool.not_eq_false', Bool.not_eq_eq_eq_not, Bool.not_true, Bool.not_false, beq_iff_eq, bne_iff_ne, ne_eq, beq_eq_false_iff_ne, bne_eq_false_iff_eq, gt_iff_lt, ge_iff_le, Int.not_lt, Int.not_le] at hc96
            have hk5 : k9 = 5 := by omega
            obtain ⟨hat, hR⟩ : ATr e9 s2 z2 ∧ MOZ C u4 ow2 s2.fuel s2.out := by
              rcases hE with ⟨q, ⟨h1, -⟩ | ⟨h1, -⟩ | ⟨h1, -⟩⟩ | ⟨-, h2⟩
              · omega
              · omega
              · omega
              · exact h2
            refine c_seq (fun K31 hK31 => ?_)
            refine c_reg ?_ -- region 22 co.go:61
            refine wl (ro_move rfl) ?_
            refine wl (ro_nilCheck rfl) ?_
            refine wl (ro_fieldAddr (k := 2) rfl fo_91_2) ?_
            refine wl (ro_loadB rfl sc_3 (hC) rfl) ?_
            refine wl (ro_arithW (r := d1 - 1) rfl rfl rfl) ?_
            refine wl (ro_nilCheck rfl) ?_
            refine wl (ro_fieldAddr (k := 2) rfl fo_91_2) ?_
            refine wl_put rfl rfl rfl sz_3 hC (by simp) (rfl) (fun w25 hC F25 => ?_)
            replace hF := hF.thenDrew.thenO F25 (by first | exact .inr (by omega) | exact .inl rfl | exact .inl (by assumption) | assumption)
            replace h6 := F25.blkO h6 (by first | omega | exact ow_ne (by assumption) (by assumption) (by omega))
            replace h7 := F25.blkO h7 (by first | omega | exact ow_ne (by assumption) (by assumption) (by omega))
            replace h8 := F25.blkO h8 (by first | omega | exact ow_ne (by assumption) (by assumption) (by omega))
            replace h9 := F25.blkO h9 (by first | omega | exact ow_ne (by assumption) (by assumption) (by omega))
            replace hR := hR.hbput ((Fram.refl (one cb) _).thenDrew.thenO F25 (.inl rfl))
            rw [hd1w] at hC
            refine wl_nil (x_then (hK31 _ _ ?_))
            clear hK31 K31
            refine forget [(8, _), (9, _)] ⟨rfl, rfl, trivial⟩ (fun e => ?_)
            refine c_seq (fun K32 hK32 => ?_)
            refine c_reg ?_ -- region 23 co.go:62
            refine wl (ro_fieldAddr (k := 2) rfl fo_211_2) ?_
            refine wl (ro_loadB rfl sc_54 (h9) rfl) ?_
            refine wl (ro_build rfl bld_134_0_2) ?_
            refine wl_puta rfl rfl ((resc_one 3 vNil e9)) sz_134 (rfl) h8 ((Nat.le_refl 5)) (rfl) (fun w26 h8 F26 => ?_)
            replace hF := hF.thenDrew.thenO F26 (by first | exact .inr (by omega) | exact .inl rfl | exact .inl (by assumption) | assumption)
            replace hC := F26.blkO hC (by first | omega | exact ow_ne (by assumption) (by assumption) (by omega))
            replace h6 := F26.blkO h6 (by first | omega | exact ow_ne (by assumption) (by assumption) (by omega))
            replace h7 := F26.blkO h7 (by first | omega | exact ow_ne (by assumption) (by assumption) (by omega))
            replace h9 := F26.blkO h9 (by first | omega | exact ow_ne (by assumption) (by assumption) (by omega))
            replace hR := hR.hbput ((Fram.refl (one b8) _).thenDrew.thenO F26 (.inl rfl))
            refine wl_nil (x_then (hK32 _ _ ?_))
            clear hK32 K32
            refine c_ret (x_blkR (x_thenR (x_blkR (x_thenR (x_blkR ?_)))))
            refine bq_ret (res1 Tryz.results39 (rv_c rfl ag_134 (h8) (rfl))) ?_
            exact ⟨m2, z2, ow2, s2, 3, vNil, e9, by omega, hL2, hX, hF, hC, hst2, hdn2, rfl, .inr ⟨rfl, hat, hR⟩⟩
          · try simp only [decide_eq_true_eq, decide_eq_false_iff_not, Bool.not_eq_true', Bool.not_eq_false', Bool.not_eq_eq_eq_not, Bool.not_true, Bool.not_false, beq_iff_eq, bne_iff_ne, ne_eq, beq_eq_false_iff_ne, bne_eq_false_iff_eq, gt_iff_lt, ge_iff_le, Int.not_lt, Int.not_le] at hc96
            exfalso
            rcases hE with ⟨q, ⟨h1, -⟩ | ⟨h1, -⟩ | ⟨h1, -⟩⟩ | ⟨h1, -⟩ <;> omega
end
end Go.Proofs.Qxb6500568aGreatDoor
