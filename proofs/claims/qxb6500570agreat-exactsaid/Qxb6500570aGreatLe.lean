import Derived.Test.Qxb6500570aGreatLd
/- The real editor: Edit and Copy. -/
namespace Go.Proofs.Qxb6500570aGreat
set_option linter.unusedVariables false
set_option linter.unusedSimpArgs false

set_option maxHeartbeats 4000000 in
theorem text74 {w : World} {D : DB} {lo hi nb : Nat} {n : List Nd} {v0 : Value} (hb : DaB lo hi D) (hv0 : v0 = trV nb n) (hE : Blk w.heap D.e (dst D) 95) (hfm : FmR w D.B) (hD : DoneOK n) (hA : AOK n) (hnb : NbO nb D.B) (hN : Blk w.heap nb (rws ndc n) 143) :
    Ret Tryz.prog 74 [ptr D.e, v0] w (fun v w' => v = S (61 :: textF n) ∧ FmR w' D.B ∧ Fram (pnset D.B) w w') := by
  subst hv0
  have hF : Fram (pnset D.B) w w := Fram.refl _ _
  have hbe := hb.be
  have hX := hb.pnset
  have hEl := hE.lt
  have hXe : ¬ pnset D.B D.e := fun q => absurd (hX _ q).2 (by omega)
  have hXn : ¬ pnset D.B nb := fun q => by rcases q with q | q | q; exact hnb.f q; exact hnb.u q; exact hnb.n q
  refine ret_of Tryz.func74 rfl Tryz.ntmps74 rfl ?_
  refine c_seq (fun K1 hK1 => ?_)
  refine c_reg ?_ -- region 0 edit.go:64
  refine wl_box (cs := [sl nb n.length, i64c (n.length - 1), icv 0, icv 0]) rfl rfl (fun b3 w1 hbb3 h3 F1 => ?_)
  have hbsb3 := Nat.le_trans hF.size hbb3
  have hneD.eb3 : D.e < b3 := Nat.lt_of_lt_of_le hE.lt hbb3
  have hnenbb3 : nb < b3 := Nat.lt_of_lt_of_le hN.lt hbb3
  replace hF := hF.thenDrew.thenN F1
  replace hE := F1.blkN hE
  replace hN := F1.blkN hN
  replace hfm := hfm.far F1 (fun _ _ h ↦ h)
  refine wl (ro_assign rfl) ?_
  refine wl_nil (x_then (hK1 _ _ ?_))
  clear hK1 K1
  refine forget [(0, _), (3, _)] ⟨rfl, rfl, trivial⟩ (fun e => ?_)
  refine c_seq (fun K2 hK2 => ?_)
  refine c_pi [(0, false), (1, false), (2, false), (3, false), (4, false), (5, true), (6, false), (7, false), (8, false), (9, false), (10, false)] (fun w' => Blk w'.heap D.e (dst D) 95 ∧ Blk w'.heap b3 [sl nb n.length, i64c (n.length - 1), icv 0, icv 0] 113) mixed (by kernel_rfl) rfl (by kernel_rfl) (po_then (po_bp)) (⟨hE, h3⟩) ?_ -- region 1 edit.go:65
  refine pi_ro rfl (fun w hS => ro_move rfl) ?_
  refine pi_ro rfl (fun w hS => ro_nilCheck rfl) ?_
  refine pi_ro rfl (fun w hS => ro_fieldAddr (k := 0) rfl fo_95_0) ?_
  refine pi_ro rfl (fun w hS => ro_loadB rfl sc_38 (hS.1) (rfl)) ?_
  refine pi_ro rfl (fun w hS => ro_loadAggB rfl ag_113 (hS.2) (rfl) (rfl)) ?_
  refine pi_call rfl rfl en_101 (Print101 hb.fo hD hA hnb (hfm.far (Fram.drew none' w1 _) (fun _ _ q ↦ q)) hN) ?_
  rintro _ u1 ⟨rfl, hfm1, G1⟩
  replace hF := (hF.trans ((Fram.drew none' w1 _).mono (fun _ _ h => h.elim))).trans G1
  replace hE := G1.blkF hE hXe
  replace h3 := G1.blkF h3 (fun q => absurd (hX _ q).2 (by omega))
  refine ⟨⟨hE, h3⟩, ?_⟩
  refine pi_ro rfl (fun w hS => ro_move rfl) ?_
  refine pi_ro rfl (fun w hS => ro_extract rfl rfl) ?_
  refine pi_ro rfl (fun w hS => ro_extract rfl rfl) ?_
  refine pi_ro rfl (fun w hS => ro_assign rfl) ?_
  refine pi_ro rfl (fun w hS => ro_assign rfl) ?_
  refine pi_nil (x_then (hK2 _ _ ?_))
  clear hK2 K2
  refine forget [(5, _)] ⟨rfl, trivial⟩ (fun e => ?_)
  refine c_seq (fun K3 hK3 => ?_)
  refine c_reg ?_ -- region 2 edit.go:66
  refine wl (ro_move rfl) ?_
  refine wl (ro_catS (l := [61]) (m := textF n) rfl rfl (by have := (text_law hD hA).1; simp; omega)) ?_
  refine wl (ro_assign rfl) ?_
  refine wl_nil (x_then (hK3 _ _ ?_))
  clear hK3 K3
  refine c_ret ?_
  refine bp_ret Tryz.results74 rfl ?_
  exact ⟨rfl, hfm1, hF⟩

def nwT (rows ins : Bool) (a : Int) (T : List Tx) (c : Nat) : Tx := if srcI rows ins a c < 0 then [] else rwT (shN rows ins a) (tF T (srcI rows ins a c).toNat)
def nwL (rows ins : Bool) (a : Int) (T : List Tx) : List Tx := (List.range 24).map (nwT rows ins a T)
theorem nwL_len {rows ins : Bool} {a : Int} {T : List Tx} : (nwL rows ins a T).length = 24 := by unfold nwL; simp
theorem nwL_get {rows ins : Bool} {a : Int} {T : List Tx} {c : Nat} (hc : c < 24) : tF (nwL rows ins a T) c = nwT rows ins a T c := by
  unfold tF nwL
  rw [List.getD_eq_getElem?_getD, List.getElem?_map, List.getElem?_range hc]
  rfl
abbrev zL : List Tx := List.replicate 24 []
theorem zL_get {c : Nat} : tF zL c = [] := tF_rep _ _
/-- The sheet behind an edit. -/
def editT (T : List Tx) (kind a : Int) : List Tx := layT (nwT (rwB kind) (inB kind) a T) T 24
theorem nb_of {D : DB} {lo hi nb : Nat} (hb : DaB lo hi D) (h : hi ≤ nb) : NbO nb D.B := by
  have h2 := hb.g2
  have h3 := hb.be
  have h4 := hb.eh
  exact ⟨by omega, by omega, by omega⟩
theorem Edit47N {w : World} {k : Nat} {kind a : Int} (hok : edOK kind a = false) : Ret Tryz.prog 47 [ptr k, icv kind, icv a] w (fun v w' => v = icv 9 ∧ w' = w) := by
  refine ret_of Tryz.func47 rfl Tryz.ntmps47 rfl ?_
  refine c_seq (fun K1 hK1 => ?_)
  refine c_reg ?_ -- region 0 edit.go:78
  refine wl (ro_assign rfl) ?_
  refine wl_nil (x_then (hK1 _ _ ?_))
  clear hK1 K1
  refine c_seq (fun K2 hK2 => ?_)
  refine c_seq (fun K3 hK3 => ?_)
  refine c_reg ?_ -- region 1 edit.go:79
  refine wl (ro_move rfl) ?_
  refine wl (ro_move rfl) ?_
  refine wl_call rfl en_69 (EditOK69) ?_
  rintro _ _ ⟨rfl, rfl⟩
  rw [hok]
  refine wl (ro_not rfl) ?_
  refine wl_nil (x_then (hK3 _ _ ?_))
  clear hK3 K3
  refine wc_condT rfl ?_
  refine c_seq (fun K4 hK4 => ?_)
  refine c_reg ?_ -- region 2 edit.go:80
  refine wl (ro_assign rfl) ?_
  refine wl_nil (x_then (hK4 _ _ ?_))
  clear hK4 K4
  refine c_ret (x_thenR ?_)
  refine bp_ret Tryz.results47 rfl ?_
  exact ⟨rfl, rfl⟩
set_option maxHeartbeats 16000000 in
theorem Edit47 {w : World} {D : DB} {lo hi : Nat} {kind a : Int} {T : List Tx} {SL : List Vl} (hb : DaB lo hi D) (hhi : hi ≤ w.heap.size) (h : DaV w D zL T SL) (hok : edOK kind a = true) :
    Ret Tryz.prog 47 [ptr D.e, icv kind, icv a] w (fun v w' => v = icv 0 ∧ (∃ SL', DaV w' D zL (editT T kind a) SL') ∧ Fram (rng lo hi) w w') := by
  have hF : Fram (rng lo hi) w w := Fram.refl _ _
  obtain ⟨hE, hU, -, hfm, hcv⟩ := h
  obtain ⟨hk14, ha⟩ := ed_iff.1 hok
  have ho1 := hb.lom
  have ho2 := hb.mb
  have ho3 := hb.be
  have ho4 := hb.eh
  have hm1 : rng lo hi D.b := ⟨by omega, by omega⟩
  have hsev := hb.sev
  have hXf := hb.fset
  have hXp := hb.pnset
  have hT40 : TxOK T := ⟨hcv.tl, hcv.t40⟩
  unfold editT
  generalize hrw : rwB kind = rows at ha ⊢
  generalize hin : inB kind = ins at ⊢
  generalize hfd : nwT rows ins a T = f
  have hFl := nwL_len (rows := rows) (ins := ins) (a := a) (T := T)
  have hFg : ∀ c, c < 24 → tF (nwL rows ins a T) c = f c := fun c hc => by rw [nwL_get hc, hfd]
  generalize nwL rows ins a T = FL at hFl hFg
  have hzl : zL.length = 24 := List.length_replicate
  have frF : ∀ {u u' : World} {G : Nat → Prop}, FmR u D.B → Fram G u u' → (∀ b, D.m ≤ b → b < D.b → ¬ G b) → FmR u' D.B := fun h1 h2 h3 => h1.far h2 (fun b q => h3 b (hsev b q).1 (hsev b q).2)
  refine ret_of Tryz.func47 rfl Tryz.ntmps47 rfl ?_
  refine c_seq (fun K1 hK1 => ?_)
  refine c_reg ?_ -- region 0 edit.go:78
  refine wl (ro_assign rfl) ?_
  refine wl_nil (x_then (hK1 _ _ ?_))
  clear hK1 K1
  refine c_seq (fun K2 hK2 => ?_)
  refine c_seq (fun K3 hK3 => ?_)
  refine c_reg ?_ -- region 1 edit.go:79
  refine wl (ro_move rfl) ?_
  refine wl (ro_move rfl) ?_
  refine wl_call rfl en_69 (EditOK69) ?_
  rintro _ u0 ⟨rfl, hw0⟩
  rw [hok, hw0]
  clear hw0 u0
  refine wl (ro_not rfl) ?_
  refine wl_nil (x_then (hK3 _ _ ?_))
  clear hK3 K3
  refine wc_condF rfl ?_
  refine c_skip (x_then (hK2 _ _ ?_))
  clear hK2 K2
  refine forget [(0, _), (1, _), (2, _)] ⟨rfl, rfl, rfl, trivial⟩ (fun e => ?_)
  refine c_seq (fun K4 hK4 => ?_)
  refine c_reg ?_ -- region 3 edit.go:82
  refine wl (ro_move rfl) ?_
  refine wl (ro_move rfl) ?_
  refine wl_call rfl en_70 (gapOf70 hk14) ?_
  rintro _ u1 ⟨rfl, G1⟩
  replace hF := hF.transG G1 (by intro k hk h; simp only [none', rng, one] at h ⊢ <;> omega)
  replace hE := G1.blkF hE (by intro h; simp only [none', rng, one] at h <;> omega)
  replace hU := G1.blkF hU (by intro h; simp only [none', rng, one] at h <;> omega)
  replace hfm := hfm.far G1 (fun _ _ q => q)
  replace hcv := hcv.far hb.cb G1 (fun _ _ _ q => q)
  rw [hrw, hin]
  refine wl_new (ze_110) (fun b7 w1 hbb7 h7 F1 => ?_)
  have hbsb7 := Nat.le_trans hF.size hbb7
  have hneD.eb7 : D.e < b7 := Nat.lt_of_lt_of_le hE.lt hbb7
  have hneD.bb7 : D.b < b7 := Nat.lt_of_lt_of_le hU.lt hbb7
  replace hF := hF.thenDrew.thenN F1
  replace hE := F1.blkN hE
  replace hU := F1.blkN hU
  replace hfm := hfm.far F1 (fun _ _ q ↦ q)
  replace hcv := hcv.far hb.cb F1 (fun _ _ _ q ↦ q)
  refine wl_puta rfl rfl ((gpc_cells rows ins a)) sz_110 (rfl) h7 ((by simp)) ((show _ = gpc rows ins a from rfl)) (fun w2 h7 F2 => ?_)
  replace hF := hF.thenDrew.thenO F2 (by first | exact .inr (by omega) | exact .inl rfl | exact .inl (by assumption))
  replace hE := F2.blkO hE (by omega)
  replace hU := F2.blkO hU (by omega)
  replace hfm := frF hfm F2 (fun b q1 q2 hh ↦ absurd (show b = b7 from hh) (by omega))
  replace hcv := hcv.far hb.cb F2 (fun b q1 q2 hh ↦ absurd (show b = b7 from hh) (by omega))
  refine wl_nil (x_then (hK4 _ _ ?_))
  clear hK4 K4
  refine c_seq (fun K5 hK5 => ?_)
  refine c_seq (fun K6 hK6 => ?_)
  refine c_reg ?_ -- region 4 edit.go:83
  refine wl (ro_assign rfl) ?_
  refine wl_nil (x_then (hK6 _ _ ?_))
  clear hK6 K6
  refine c_block ?_
  -- loop@r5: live slots [0, 7, 8]
  refine c_loopG (fun m a' w' => ∃ i, m = 24 - i ∧ i ≤ 24 ∧ Blk w'.heap D.e (dst D) 95 ∧ Blk w'.heap D.b (rws stc (mixT FL zL i)) 9 ∧ FmR w' D.B ∧ CaV w' D.C T SL ∧ Blk w'.heap b7 (gpc rows ins a) 110 ∧ Fram (rng lo hi) w w' ∧ ∃ e, a' = Fr 77 (upds e [(0, ptr D.e), (7, ptr b7), (8, i64c i)]) []) 24 ⟨0, rfl, by omega, hE, by rw [mix_zero]; exact hU, hfm, hcv, h7, hF, kp _ ⟨rfl, rfl, rfl, trivial⟩⟩ ?_
  clear hF hE hU hfm hcv h7
  rintro m a' u3 ⟨i, rfl, hi24, hE, hU, hfm, hcv, h7, hF, e, rfl⟩
  have hml := mix_len (i := i) hFl hzl
  have hsz := hF.size
  refine c_seq (fun K7 hK7 => ?_)
  refine c_seq (fun K8 hK8 => ?_)
  refine c_reg ?_ -- region 5 edit.go:83
  refine wl (ro_move rfl) ?_
  refine wl (ro_cmp (r := decide (i < 24)) rfl rfl (congrArg some (decide_eq_decide.2 (by omega)))) ?_
  refine wl_nil (x_then (hK8 _ _ ?_))
  clear hK8 K8
  refine wc_cond rfl (fun hc22 => ?_) (fun hc22 => ?_)
  · try simp only [decide_eq_true_eq, decide_eq_false_iff_not, Bool.not_eq_true', Bool.not_eq_false', Bool.not_eq_eq_eq_not, Bool.not_true, Bool.not_false, beq_iff_eq, bne_iff_ne, ne_eq, beq_eq_false_iff_ne, bne_eq_false_iff_eq, gt_iff_lt, ge_iff_le, Int.not_lt, Int.not_le] at hc22
    refine c_skip (x_then (hK7 _ _ ?_))
    clear hK7 K7
    refine forget [(0, _), (7, _), (8, _)] ⟨rfl, rfl, rfl, trivial⟩ (fun e => ?_)
    refine c_seq (fun K9 hK9 => ?_)
    refine c_block ?_
    refine c_seq (fun K10 hK10 => ?_)
    refine c_reg ?_ -- region 7 edit.go:84
    refine wl (ro_loadAggB rfl ag_110 (h7) (rfl) (rfl)) ?_
    refine wl (ro_move rfl) ?_
    refine wl_call rfl en_71 (source71 ha hc22) ?_
    rintro _ u4 ⟨rfl, G4⟩
    replace hF := hF.transG G4 (by intro k hk h; simp only [none', rng, one] at h ⊢ <;> omega)
    replace hE := G4.blkF hE (by intro h; simp only [none', rng, one] at h <;> omega)
    replace hU := G4.blkF hU (by intro h; simp only [none', rng, one] at h <;> omega)
    replace h7 := G4.blkF h7 (by intro h; simp only [none', rng, one] at h <;> omega)
    replace hfm := hfm.far G4 (fun _ _ q => q)
    replace hcv := hcv.far hb.cb G4 (fun _ _ _ q => q)
    refine wl (ro_assign rfl) ?_
    refine wl_nil (x_then (hK10 _ _ ?_))
    clear hK10 K10
    refine forget [(0, _), (7, _), (8, _), (9, _)] ⟨rfl, rfl, rfl, rfl, trivial⟩ (fun e => ?_)
    refine c_seq (fun K11 hK11 => ?_)
    refine c_reg ?_ -- region 8 edit.go:85
    refine wl (ro_move rfl) ?_
    refine wl (ro_cmp (r := decide (0 ≤ srcI rows ins a i)) rfl rfl rfl) ?_
    refine wl_nil (x_then (hK11 _ _ ?_))
    clear hK11 K11
    refine wc_cond rfl (fun hc29 => ?_) (fun hc29 => ?_)
    · try simp only [decide_eq_true_eq, decide_eq_false_iff_not, Bool.not_eq_true', Bool.not_eq_false', Bool.not_eq_eq_eq_not, Bool.not_true, Bool.not_false, beq_iff_eq, bne_iff_ne, ne_eq, beq_eq_false_iff_ne, bne_eq_false_iff_eq, gt_iff_lt, ge_iff_le, Int.not_lt, Int.not_le] at hc29
      obtain ⟨d, hd24, hds⟩ : ∃ d : Nat, d < 24 ∧ srcI rows ins a i = (d : Int) := (src_bd ha.1 hc22).resolve_left (fun q => by omega)
      have hfi : f i = rwT (shN rows ins a) (tF T d) := by rw [← hfd]; unfold nwT; rw [if_neg (by omega), hds, Int.toNat_natCast]
      refine c_seq (fun K12 hK12 => ?_)
      refine c_reg ?_ -- region 9 edit.go:86
      refine wl (ro_move rfl) ?_
      refine wl (ro_nilCheck rfl) ?_
      refine wl (ro_fieldAddr (k := 1) rfl fo_95_1) ?_
      refine wl (ro_loadB rfl sc_44 (by assumption) rfl) ?_
      refine wl (ro_move rfl) ?_
      refine wl_call rfl en_58 (Raw58G hcv) ?_
      rintro _ _ ⟨rfl, rfl⟩
      rw [hds, getS_nat hd24]
      refine wl (ro_assign rfl) ?_
      refine wl_nil (x_then (hK12 _ _ ?_))
      clear hK12 K12
      refine forget [(0, _), (7, _), (8, _), (10, _)] ⟨rfl, rfl, rfl, rfl, trivial⟩ (fun e => ?_)
      refine c_seq (fun K13 hK13 => ?_)
      cases hp : opR (tF T d)
      · skip
        refine c_reg ?_ -- region 10 edit.go:87
        refine wl (ro_move rfl) ?_
        refine wl (ro_move rfl) ?_
        refine wl_call rfl en_72 (tree72 hb hE hfm (hT40.le d)) ?_
        rintro _ u5 ⟨⟨cs, rfl, hTr⟩, hfm5, G5⟩
        rw [hp] at hTr ⊢
        have hform := hTr.form
        have hfi2 : f i = tF T d := by rw [hfi]; unfold rwT; rw [hp]
        have hsz5 := G5.size
        have h7l := h7.lt
        have hEl := hE.lt
        replace hF := hF.trans (G5.mono (fun k _ hk => ⟨by have := hXf k hk; omega, by have := hXf k hk; omega⟩))
        replace hE := G5.blkF hE (fun q => by have := hXf _ q; omega)
        replace hU := G5.blkF hU (fun q => by have := hXf _ q; omega)
        replace h7 := G5.blkF h7 (fun q => by have := hXf _ q; omega)
        replace hcv := hcv.far hb.cb G5 (fun b q1 q2 q => by have := hXf _ q; omega)
        clear hfm
        refine wl (ro_move rfl) ?_
        refine wl (ro_extract rfl rfl) ?_
        refine wl (ro_extract rfl rfl) ?_
        refine wl_new (ze_113) (fun b11 w3 hbb11 h11 F3 => ?_)
        have hbsb11 := Nat.le_trans hF.size hbb11
        have hneD.eb11 : D.e < b11 := Nat.lt_of_lt_of_le hE.lt hbb11
        have hneD.bb11 : D.b < b11 := Nat.lt_of_lt_of_le hU.lt hbb11
        have hneb7b11 : b7 < b11 := Nat.lt_of_lt_of_le h7.lt hbb11
        replace hF := hF.thenDrew.thenN F3
        replace hE := F3.blkN hE
        replace hU := F3.blkN hU
        replace h7 := F3.blkN h7
        replace hfm5 := hfm5.far F3 (fun _ _ q ↦ q)
        replace hcv := hcv.far hb.cb F3 (fun _ _ _ q ↦ q)
        refine wl_puta rfl rfl (hform.2) sz_113 (hform.1) h11 ((by simp)) ((by simp; rfl)) (fun w4 h11 F4 => ?_)
        replace hF := hF.thenDrew.thenO F4 (by first | exact .inr (by omega) | exact .inl rfl | exact .inl (by assumption))
        replace hE := F4.blkO hE (by omega)
        replace hU := F4.blkO hU (by omega)
        replace h7 := F4.blkO h7 (by omega)
        replace hfm5 := frF hfm5 F4 (fun b q1 q2 hh ↦ absurd (show b = b11 from hh) (by omega))
        replace hcv := hcv.far hb.cb F4 (fun b q1 q2 hh ↦ absurd (show b = b11 from hh) (by omega))
        refine wl (ro_assign rfl) ?_
        refine wl_nil (x_then (hK13 _ _ ?_))
        clear hK13 K13
        refine c_seq (fun K14 hK14 => ?_)
        refine c_seq (fun K15 hK15 => ?_)
        refine c_reg ?_ -- region 11 edit.go:88
        refine wl (ro_move rfl) ?_
        refine wl_nil (x_then (hK15 _ _ ?_))
        clear hK15 K15
        refine wc_condF rfl ?_
        refine c_skip (x_then (hK14 _ _ ?_))
        clear hK14 K14
        refine c_reg ?_ -- region 14 edit.go:92
        refine wl (ro_move rfl) ?_
        refine wl (ro_nilCheck rfl) ?_
        refine wl (ro_fieldAddr (k := 2) rfl fo_95_2) ?_
        refine wl (ro_loadB rfl sc_56 (by assumption) rfl) ?_
        refine wl (ro_move rfl) ?_
        refine wl (ro_move rfl) ?_
        refine wl (ro_indexAddr (et := 9) (k := 1) rfl rfl se_56 (rfl) ((by omega))) ?_
        refine wl_put rfl rfl rfl sz_9 hU ((rw_fit stc_len (i := i) (j := 0) (m := 1) (by omega) (by omega) (by omega))) ((rw_put stc_len (i := i) (j := 0) (x := tF (mixT FL zL i) i) (x' := f i) (tF_get (by omega)) (by omega) (by omega) (by rw [hfi2]; rfl))) (fun w5 hU F5 => ?_)
        replace hF := hF.thenDrew.thenO F5 (by first | exact .inr (by omega) | exact .inl rfl | exact .inl (by assumption))
        replace hE := F5.blkO hE (by omega)
        replace h7 := F5.blkO h7 (by omega)
        replace h11 := F5.blkO h11 (by omega)
        rw [← hFg i hc22, mix_set hFl hzl hc22] at hU
        replace hfm5 := frF hfm5 F5 (fun b q1 q2 hh ↦ absurd (show b = D.b from hh) (by omega))
        replace hcv := hcv.far hb.cb F5 (fun b q1 q2 hh ↦ absurd (show b = D.b from hh) (by omega))
        refine wl_nil (x_blk (x_then (hK9 _ _ ?_)))
        clear hK9 K9
        refine c_reg ?_ -- region 6 edit.go:83
        refine wl (ro_move rfl) ?_
        refine wl (ro_arith (r := ((i + 1 : Nat) : Int)) rfl rfl rfl (Go.IntWalk.i64_in _ (by omega))) ?_
        refine wl (ro_assign rfl) ?_
        refine wl_nil (x_then ?_)
        exact ⟨24 - (i + 1), by omega, i + 1, rfl, by omega, hE, hU, hfm5, hcv, h7, hF, kp _ ⟨rfl, rfl, rfl, trivial⟩⟩
      · skip
        rename_i n
        obtain ⟨hDn, hAn⟩ := opR_ok hp
        have hn1 : 1 ≤ n.length := hDn.1
        have hn24 : n.length ≤ 24 := hDn.2.1
        refine c_reg ?_ -- region 10 edit.go:87
        refine wl (ro_move rfl) ?_
        refine wl (ro_move rfl) ?_
        refine wl_call rfl en_72 (tree72 hb hE hfm (hT40.le d)) ?_
        rintro _ u5 ⟨⟨cs, rfl, hTr⟩, hfm5, G5⟩
        rw [hp] at hTr ⊢
        have hform := hTr.form
        obtain ⟨qb, rfl, hqb, hQ⟩ := hTr
        have hfi2 : f i = 61 :: textF (n.map (shN rows ins a)) := by rw [hfi]; unfold rwT; rw [hp]
        have hsz5 := G5.size
        have hQl := hQ.lt
        have h7l := h7.lt
        have hEl := hE.lt
        replace hF := hF.trans (G5.mono (fun k _ hk => ⟨by have := hXf k hk; omega, by have := hXf k hk; omega⟩))
        replace hE := G5.blkF hE (fun q => by have := hXf _ q; omega)
        replace hU := G5.blkF hU (fun q => by have := hXf _ q; omega)
        replace h7 := G5.blkF h7 (fun q => by have := hXf _ q; omega)
        replace hcv := hcv.far hb.cb G5 (fun b q1 q2 q => by have := hXf _ q; omega)
        clear hfm
        refine wl (ro_move rfl) ?_
        refine wl (ro_extract rfl rfl) ?_
        refine wl (ro_extract rfl rfl) ?_
        refine wl_new (ze_113) (fun b11 w6 hbb11 h11 F6 => ?_)
        have hbsb11 := Nat.le_trans hF.size hbb11
        have hneD.eb11 : D.e < b11 := Nat.lt_of_lt_of_le hE.lt hbb11
        have hneD.bb11 : D.b < b11 := Nat.lt_of_lt_of_le hU.lt hbb11
        have hneb7b11 : b7 < b11 := Nat.lt_of_lt_of_le h7.lt hbb11
        have hneqbb11 : qb < b11 := Nat.lt_of_lt_of_le hQ.lt hbb11
        replace hF := hF.thenDrew.thenN F6
        replace hE := F6.blkN hE
        replace hU := F6.blkN hU
        replace h7 := F6.blkN h7
        replace hQ := F6.blkN hQ
        replace hfm5 := hfm5.far F6 (fun _ _ q ↦ q)
        replace hcv := hcv.far hb.cb F6 (fun _ _ _ q ↦ q)
        refine wl_puta rfl rfl (hform.2) sz_113 (hform.1) h11 ((by simp)) ((by simp; rfl)) (fun w7 h11 F7 => ?_)
        replace hF := hF.thenDrew.thenO F7 (by first | exact .inr (by omega) | exact .inl rfl | exact .inl (by assumption))
        replace hE := F7.blkO hE (by omega)
        replace hU := F7.blkO hU (by omega)
        replace h7 := F7.blkO h7 (by omega)
        replace hQ := F7.blkO hQ (by omega)
        replace hfm5 := frF hfm5 F7 (fun b q1 q2 hh ↦ absurd (show b = b11 from hh) (by omega))
        replace hcv := hcv.far hb.cb F7 (fun b q1 q2 hh ↦ absurd (show b = b11 from hh) (by omega))
        refine wl (ro_assign rfl) ?_
        refine wl_nil (x_then (hK13 _ _ ?_))
        clear hK13 K13
        refine c_seq (fun K16 hK16 => ?_)
        refine c_seq (fun K17 hK17 => ?_)
        refine c_reg ?_ -- region 11 edit.go:88
        refine wl (ro_move rfl) ?_
        refine wl_nil (x_then (hK17 _ _ ?_))
        clear hK17 K17
        refine wc_condT rfl ?_
        refine c_seq (fun K18 hK18 => ?_)
        refine c_reg ?_ -- region 12 edit.go:89
        refine wl (ro_loadAggB rfl ag_110 (h7) (rfl) (rfl)) ?_
        refine wl (ro_fieldAddr (k := 0) rfl fo_113_0) ?_
        refine wl (ro_loadB rfl sc_78 (h11) (rfl)) ?_
        refine wl_call rfl en_73 (shiftAll73 (rows := rows) (ins := ins) (a := a) hn24 hQ) ?_
        rintro _ u6 ⟨hQ6, G6⟩
        replace hF := hF.transG G6 (by intro k hk h; simp only [none', rng, one] at h ⊢ <;> omega)
        replace hE := G6.blkF hE (by intro h; simp only [none', rng, one] at h <;> omega)
        replace hU := G6.blkF hU (by intro h; simp only [none', rng, one] at h <;> omega)
        replace h7 := G6.blkF h7 (by intro h; simp only [none', rng, one] at h <;> omega)
        replace h11 := G6.blkF h11 (by intro h; simp only [none', rng, one] at h <;> omega)
        replace hfm5 := frF hfm5 G6 (fun b q1 q2 hh => absurd (show b = qb from hh) (by omega))
        replace hcv := hcv.far hb.cb G6 (fun b q1 q2 hh => absurd (show b = qb from hh) (by omega))
        have hv0 : Value.agg #[sl qb n.length, icv ((n.length : Int) - 1), icv 0, icv 0] = trV qb (n.map (shN rows ins a)) := by
          rw [← trV_eq (n := n.map (shN rows ins a)) (by rw [List.length_map]; exact hn1), List.length_map]
        refine wl_nil (x_then (hK18 _ _ ?_))
        clear hK18 K18
        refine c_reg ?_ -- region 13 edit.go:90
        refine wl (ro_move rfl) ?_
        refine wl (ro_loadAggB rfl ag_113 (h11) (rfl) (rfl)) ?_
        refine wl_call rfl en_74 (text74 (n := n.map (shN rows ins a)) hb hv0 hE hfm5 (done_map sh_gok hDn) (aok_map (fun x hx ↦ sh_nm ha.1 hx) hAn) (nb_of hb (by omega)) hQ6) ?_
        rintro _ u7 ⟨rfl, hfm7, G7⟩
        replace hF := hF.trans (G7.mono (fun k _ hk => ⟨by have := hXp k hk; omega, by have := hXp k hk; omega⟩))
        replace hE := G7.blkF hE (fun q => by have := hXp _ q; omega)
        replace hU := G7.blkF hU (fun q => by have := hXp _ q; omega)
        replace h7 := G7.blkF h7 (fun q => by have := hXp _ q; omega)
        replace hcv := hcv.far hb.cb G7 (fun b q1 q2 q => by have := hXp _ q; omega)
        clear hfm5 h11 hQ hQ6
        have hfm5 := hfm7
        refine wl (ro_assign rfl) ?_
        refine wl_nil (x_then (hK16 _ _ ?_))
        clear hK16 K16
        refine c_reg ?_ -- region 14 edit.go:92
        refine wl (ro_move rfl) ?_
        refine wl (ro_nilCheck rfl) ?_
        refine wl (ro_fieldAddr (k := 2) rfl fo_95_2) ?_
        refine wl (ro_loadB rfl sc_56 (by assumption) rfl) ?_
        refine wl (ro_move rfl) ?_
        refine wl (ro_move rfl) ?_
        refine wl (ro_indexAddr (et := 9) (k := 1) rfl rfl se_56 (rfl) ((by omega))) ?_
        refine wl_put rfl rfl rfl sz_9 hU ((rw_fit stc_len (i := i) (j := 0) (m := 1) (by omega) (by omega) (by omega))) ((rw_put stc_len (i := i) (j := 0) (x := tF (mixT FL zL i) i) (x' := f i) (tF_get (by omega)) (by omega) (by omega) (by rw [hfi2]; rfl))) (fun w8 hU F8 => ?_)
        replace hF := hF.thenDrew.thenO F8 (by first | exact .inr (by omega) | exact .inl rfl | exact .inl (by assumption))
        replace hE := F8.blkO hE (by omega)
        replace h7 := F8.blkO h7 (by omega)
        rw [← hFg i hc22, mix_set hFl hzl hc22] at hU
        replace hfm5 := frF hfm5 F8 (fun b q1 q2 hh ↦ absurd (show b = D.b from hh) (by omega))
        replace hcv := hcv.far hb.cb F8 (fun b q1 q2 hh ↦ absurd (show b = D.b from hh) (by omega))
        refine wl_nil (x_blk (x_then (hK9 _ _ ?_)))
        clear hK9 K9
        refine c_reg ?_ -- region 6 edit.go:83
        refine wl (ro_move rfl) ?_
        refine wl (ro_arith (r := ((i + 1 : Nat) : Int)) rfl rfl rfl (Go.IntWalk.i64_in _ (by omega))) ?_
        refine wl (ro_assign rfl) ?_
        refine wl_nil (x_then ?_)
        exact ⟨24 - (i + 1), by omega, i + 1, rfl, by omega, hE, hU, hfm5, hcv, h7, hF, kp _ ⟨rfl, rfl, rfl, trivial⟩⟩
    · try simp only [decide_eq_true_eq, decide_eq_false_iff_not, Bool.not_eq_true', Bool.not_eq_false', Bool.not_eq_eq_eq_not, Bool.not_true, Bool.not_false, beq_iff_eq, bne_iff_ne, ne_eq, beq_eq_false_iff_ne, bne_eq_false_iff_eq, gt_iff_lt, ge_iff_le, Int.not_lt, Int.not_le] at hc29
      refine c_skip (x_blk (x_then (hK9 _ _ ?_)))
      clear hK9 K9
      refine c_reg ?_ -- region 6 edit.go:83
      refine wl (ro_move rfl) ?_
      refine wl (ro_arith (r := ((i + 1 : Nat) : Int)) rfl rfl rfl (Go.IntWalk.i64_in _ (by omega))) ?_
      refine wl (ro_assign rfl) ?_
      refine wl_nil (x_then ?_)
      have hfi : f i = [] := by rw [← hfd]; unfold nwT; rw [if_pos (by omega)]
      rw [← mix_same hFl hzl hc22 (by rw [hFg i hc22, hfi, zL_get])] at hU
      exact ⟨24 - (i + 1), by omega, i + 1, rfl, by omega, hE, hU, hfm, hcv, h7, hF, kp _ ⟨rfl, rfl, rfl, trivial⟩⟩
  · try simp only [decide_eq_true_eq, decide_eq_false_iff_not, Bool.not_eq_true', Bool.not_eq_false', Bool.not_eq_eq_eq_not, Bool.not_true, Bool.not_false, beq_iff_eq, bne_iff_ne, ne_eq, beq_eq_false_iff_ne, bne_eq_false_iff_eq, gt_iff_lt, ge_iff_le, Int.not_lt, Int.not_le] at hc22
    refine c_exit (x_thenX (x_thenX (x_blkX (x_then (hK5 _ _ ?_)))))
    clear hK7 K7 hK5 K5
    refine c_seq (fun K19 hK19 => ?_)
    refine c_seq (fun K20 hK20 => ?_)
    refine c_reg ?_ -- region 15 edit.go:95
    refine wl (ro_assign rfl) ?_
    refine wl_nil (x_then (hK20 _ _ ?_))
    clear hK20 K20
    refine c_block ?_
    -- loop@r16: live slots [0, 13]
    refine c_loopG (fun m a' w' => ∃ i SL, m = 24 - i ∧ i ≤ 24 ∧ DaV w' D (mixT zL FL i) (layT f T i) SL ∧ Fram (rng lo hi) w w' ∧ ∃ e, a' = Fr 77 (upds e [(0, ptr D.e), (13, i64c i)]) []) 24 ⟨0, SL, rfl, by omega, ⟨hE, ?_, mix_len hzl hFl, hfm, hcv⟩, hF, kp _ ⟨rfl, rfl, trivial⟩⟩ ?_
    · have : i = 24 := by omega
      subst this
      rw [mix_all hFl hzl] at hU
      rw [mix_zero]
      exact hU
    clear hF hE hU hfm hcv h7
    rintro m a' u9 ⟨i, SL, rfl, hi24, h9, hF, e, rfl⟩
    obtain ⟨hE, hU, hul, hfm, hcv⟩ := id h9
    have hsz := hF.size
    refine c_seq (fun K21 hK21 => ?_)
    refine c_seq (fun K22 hK22 => ?_)
    refine c_reg ?_ -- region 16 edit.go:95
    refine wl (ro_move rfl) ?_
    refine wl (ro_cmp (r := decide (i < 24)) rfl rfl (congrArg some (decide_eq_decide.2 (by omega)))) ?_
    refine wl_nil (x_then (hK22 _ _ ?_))
    clear hK22 K22
    refine wc_cond rfl (fun hc58 => ?_) (fun hc58 => ?_)
    · try simp only [decide_eq_true_eq, decide_eq_false_iff_not, Bool.not_eq_true', Bool.not_eq_false', Bool.not_eq_eq_eq_not, Bool.not_true, Bool.not_false, beq_iff_eq, bne_iff_ne, ne_eq, beq_eq_false_iff_ne, bne_eq_false_iff_eq, gt_iff_lt, ge_iff_le, Int.not_lt, Int.not_le] at hc58
      refine c_skip (x_then (hK21 _ _ ?_))
      clear hK21 K21
      refine forget [(0, _), (13, _)] ⟨rfl, rfl, trivial⟩ (fun e => ?_)
      refine c_seq (fun K23 hK23 => ?_)
      refine c_block ?_
      refine c_seq (fun K24 hK24 => ?_)
      refine c_reg ?_ -- region 18 edit.go:96
      refine wl (ro_move rfl) ?_
      refine wl (ro_move rfl) ?_
      refine wl (ro_move rfl) ?_
      refine wl (ro_nilCheck rfl) ?_
      refine wl (ro_fieldAddr (k := 2) rfl fo_95_2) ?_
      refine wl (ro_loadB rfl sc_56 (by assumption) rfl) ?_
      refine wl (ro_move rfl) ?_
      refine wl (ro_indexAddr (et := 9) (k := 1) rfl rfl se_56 (rfl) ((by omega))) ?_
      refine wl (ro_loadB rfl sc_9 (hU) ((rw_get stc_len (tF_get (T := mixT zL FL i) (c := i) (by omega)) (j := 0) (by omega) rfl))) ?_
      refine wl_call rfl en_75 (lay75 hb (by omega) h9 hc58) ?_
      rintro _ u10 ⟨⟨SL10, h10⟩, G10⟩
      rw [mix_get hzl hFl, if_neg (Nat.lt_irrefl i), hFg i hc58] at h10
      obtain ⟨hE2, hU2, hul2, hfm2, hcv2⟩ := h10
      replace hF := hF.trans (G10.mono (fun k _ hk => ⟨hk.1, by have := hk.2; omega⟩))
      clear hE hU hfm hcv h9
      have hE := hE2
      have hU := hU2
      refine wl_nil (x_then (hK24 _ _ ?_))
      clear hK24 K24
      refine c_reg ?_ -- region 19 edit.go:97
      refine wl (ro_move rfl) ?_
      refine wl (ro_nilCheck rfl) ?_
      refine wl (ro_fieldAddr (k := 2) rfl fo_95_2) ?_
      refine wl (ro_loadB rfl sc_56 (by assumption) rfl) ?_
      refine wl (ro_move rfl) ?_
      refine wl (ro_indexAddr (et := 9) (k := 1) rfl rfl se_56 (rfl) ((by omega))) ?_
      refine wl_put rfl rfl rfl sz_9 hU ((rw_fit stc_len (i := i) (j := 0) (m := 1) (by omega) (by omega) (by omega))) ((rw_put stc_len (i := i) (j := 0) (x := tF (mixT zL FL i) i) (x' := tF zL i) (tF_get (by omega)) (by omega) (by omega) (by rw [zL_get]; rfl))) (fun w9 hU F9 => ?_)
      replace hF := hF.thenDrew.thenO F9 (by first | exact .inr (by omega) | exact .inl rfl | exact .inl (by assumption))
      replace hE := F9.blkO hE (by omega)
      rw [mix_set hzl hFl hc58] at hU
      replace hfm2 := frF hfm2 F9 (fun b q1 q2 hh ↦ absurd (show b = D.b from hh) (by omega))
      replace hcv2 := hcv2.far hb.cb F9 (fun b q1 q2 hh ↦ absurd (show b = D.b from hh) (by omega))
      refine wl_nil (x_blk (x_then (hK23 _ _ ?_)))
      clear hK23 K23
      refine c_reg ?_ -- region 17 edit.go:95
      refine wl (ro_move rfl) ?_
      refine wl (ro_arith (r := ((i + 1 : Nat) : Int)) rfl rfl rfl (Go.IntWalk.i64_in _ (by omega))) ?_
      refine wl (ro_assign rfl) ?_
      refine wl_nil (x_then ?_)
      exact ⟨24 - (i + 1), by omega, i + 1, SL10, rfl, by omega, ⟨hE, hU, mix_len hzl hFl, hfm2, hcv2⟩, hF, kp _ ⟨rfl, rfl, trivial⟩⟩
    · try simp only [decide_eq_true_eq, decide_eq_false_iff_not, Bool.not_eq_true', Bool.not_eq_false', Bool.not_eq_eq_eq_not, Bool.not_true, Bool.not_false, beq_iff_eq, bne_iff_ne, ne_eq, beq_eq_false_iff_ne, bne_eq_false_iff_eq, gt_iff_lt, ge_iff_le, Int.not_lt, Int.not_le] at hc58
      refine c_exit (x_thenX (x_thenX (x_blkX (x_then (hK19 _ _ ?_)))))
      clear hK21 K21 hK19 K19
      refine forget [] trivial (fun e => ?_)
      refine c_seq (fun K25 hK25 => ?_)
      refine c_reg ?_ -- region 20 edit.go:99
      refine wl (ro_assign rfl) ?_
      refine wl_nil (x_then (hK25 _ _ ?_))
      clear hK25 K25
      refine c_ret ?_
      refine bp_ret Tryz.results47 rfl ?_
      have : i = 24 := by omega
      subst this
      rw [mix_all hzl hFl] at h9
      exact ⟨rfl, ⟨SL, h9⟩, hF⟩

/-- The text that a copy from s to d lays. -/
def cpyT (T : List Tx) (s d : Nat) : Tx := rwT (cyN (((d % 4 : Nat) : Int) - ((s % 4 : Nat) : Int)) (((d / 4 : Nat) : Int) - ((s / 4 : Nat) : Int))) (tF T s)
theorem Copy49N {w : World} {k : Nat} {s d : Int} (hc : s < 0 ∨ 24 ≤ s ∨ d < 0 ∨ 24 ≤ d) : Ret Tryz.prog 49 [ptr k, icv s, icv d] w (fun v w' => v = icv 9 ∧ w' = w) := by
  refine ret_of Tryz.func49 rfl Tryz.ntmps49 rfl ?_
  refine c_seq (fun K1 hK1 => ?_)
  refine c_reg ?_ -- region 0 edit.go:103
  refine wl (ro_assign rfl) ?_
  refine wl_nil (x_then (hK1 _ _ ?_))
  clear hK1 K1
  refine c_seq (fun K2 hK2 => ?_)
  refine c_seq (fun K3 hK3 => ?_)
  refine c_reg ?_ -- region 1 edit.go:104
  refine wl (ro_move rfl) ?_
  refine wl (ro_cmp (r := decide (s < 0)) rfl rfl rfl) ?_
  refine wl_fork rfl (fun hg12 => ?_) (fun hg12 => ?_)
  · try simp only [decide_eq_true_eq, decide_eq_false_iff_not, Bool.not_eq_true', Bool.not_eq_false', Bool.not_eq_eq_eq_not, Bool.not_true, Bool.not_false, beq_iff_eq, bne_iff_ne, ne_eq, beq_eq_false_iff_ne, bne_eq_false_iff_eq, gt_iff_lt, ge_iff_le, Int.not_lt, Int.not_le] at hg12
    refine wlg_no rfl ?_
    refine wlg_no rfl ?_
    refine wl (ro_pick rfl rfl rfl) ?_
    refine wl_nil (x_then (hK3 _ _ ?_))
    clear hK3 K3
    refine wc_condT rfl ?_
    refine c_seq (fun K4 hK4 => ?_)
    refine c_reg ?_ -- region 2 edit.go:105
    refine wl (ro_assign rfl) ?_
    refine wl_nil (x_then (hK4 _ _ ?_))
    clear hK4 K4
    refine c_ret (x_thenR ?_)
    refine bp_ret Tryz.results49 rfl ?_
    exact ⟨rfl, rfl⟩
  · try simp only [decide_eq_true_eq, decide_eq_false_iff_not, Bool.not_eq_true', Bool.not_eq_false', Bool.not_eq_eq_eq_not, Bool.not_true, Bool.not_false, beq_iff_eq, bne_iff_ne, ne_eq, beq_eq_false_iff_ne, bne_eq_false_iff_eq, gt_iff_lt, ge_iff_le, Int.not_lt, Int.not_le] at hg12
    refine wlg_yes rfl (ro_move rfl) ?_
    refine wlg_yes rfl (ro_cmp (r := decide (24 ≤ s)) rfl rfl rfl) ?_
    refine wl (ro_pick rfl rfl rfl) ?_
    refine wl_nil (x_then (hK3 _ _ ?_))
    clear hK3 K3
    refine wc_cond rfl (fun hc15 => ?_) (fun hc15 => ?_)
    · try simp only [decide_eq_true_eq, decide_eq_false_iff_not, Bool.not_eq_true', Bool.not_eq_false', Bool.not_eq_eq_eq_not, Bool.not_true, Bool.not_false, beq_iff_eq, bne_iff_ne, ne_eq, beq_eq_false_iff_ne, bne_eq_false_iff_eq, gt_iff_lt, ge_iff_le, Int.not_lt, Int.not_le] at hc15
      refine c_seq (fun K5 hK5 => ?_)
      refine c_reg ?_ -- region 2 edit.go:105
      refine wl (ro_assign rfl) ?_
      refine wl_nil (x_then (hK5 _ _ ?_))
      clear hK5 K5
      refine c_ret (x_thenR ?_)
      refine bp_ret Tryz.results49 rfl ?_
      exact ⟨rfl, rfl⟩
    · try simp only [decide_eq_true_eq, decide_eq_false_iff_not, Bool.not_eq_true', Bool.not_eq_false', Bool.not_eq_eq_eq_not, Bool.not_true, Bool.not_false, beq_iff_eq, bne_iff_ne, ne_eq, beq_eq_false_iff_ne, bne_eq_false_iff_eq, gt_iff_lt, ge_iff_le, Int.not_lt, Int.not_le] at hc15
      refine c_skip (x_then (hK2 _ _ ?_))
      clear hK2 K2
      refine c_seq (fun K6 hK6 => ?_)
      refine c_seq (fun K7 hK7 => ?_)
      refine c_reg ?_ -- region 3 edit.go:107
      refine wl (ro_move rfl) ?_
      refine wl (ro_cmp (r := decide (d < 0)) rfl rfl rfl) ?_
      refine wl_fork rfl (fun hg18 => ?_) (fun hg18 => ?_)
      · try simp only [decide_eq_true_eq, decide_eq_false_iff_not, Bool.not_eq_true', Bool.not_eq_false', Bool.not_eq_eq_eq_not, Bool.not_true, Bool.not_false, beq_iff_eq, bne_iff_ne, ne_eq, beq_eq_false_iff_ne, bne_eq_false_iff_eq, gt_iff_lt, ge_iff_le, Int.not_lt, Int.not_le] at hg18
        refine wlg_no rfl ?_
        refine wlg_no rfl ?_
        refine wl (ro_pick rfl rfl rfl) ?_
        refine wl_nil (x_then (hK7 _ _ ?_))
        clear hK7 K7
        refine wc_condT rfl ?_
        refine c_seq (fun K8 hK8 => ?_)
        refine c_reg ?_ -- region 4 edit.go:108
        refine wl (ro_assign rfl) ?_
        refine wl_nil (x_then (hK8 _ _ ?_))
        clear hK8 K8
        refine c_ret (x_thenR ?_)
        refine bp_ret Tryz.results49 rfl ?_
        exact ⟨rfl, rfl⟩
      · try simp only [decide_eq_true_eq, decide_eq_false_iff_not, Bool.not_eq_true', Bool.not_eq_false', Bool.not_eq_eq_eq_not, Bool.not_true, Bool.not_false, beq_iff_eq, bne_iff_ne, ne_eq, beq_eq_false_iff_ne, bne_eq_false_iff_eq, gt_iff_lt, ge_iff_le, Int.not_lt, Int.not_le] at hg18
        refine wlg_yes rfl (ro_move rfl) ?_
        refine wlg_yes rfl (ro_cmp (r := true) rfl rfl (congrArg some (decide_eq_true (by omega)))) ?_
        refine wl (ro_pick rfl rfl rfl) ?_
        refine wl_nil (x_then (hK7 _ _ ?_))
        clear hK7 K7
        refine wc_condT rfl ?_
        refine c_seq (fun K9 hK9 => ?_)
        refine c_reg ?_ -- region 4 edit.go:108
        refine wl (ro_assign rfl) ?_
        refine wl_nil (x_then (hK9 _ _ ?_))
        clear hK9 K9
        refine c_ret (x_thenR ?_)
        refine bp_ret Tryz.results49 rfl ?_
        exact ⟨rfl, rfl⟩
set_option maxHeartbeats 16000000 in
theorem Copy49 {w : World} {D : DB} {lo hi s d : Nat} {T : List Tx} {SL : List Vl} (hb : DaB lo hi D) (hhi : hi ≤ w.heap.size) (h : DaV w D zL T SL) (hs : s < 24) (hd : d < 24) :
    Ret Tryz.prog 49 [ptr D.e, i64c s, i64c d] w (fun v w' => v = icv (if 40 < (cpyT T s d).length then 1 else 0) ∧ (∃ SL', DaV w' D zL (stT T d (cpyT T s d)) SL') ∧ Fram (rng lo hi) w w') := by
  have hF : Fram (rng lo hi) w w := Fram.refl _ _
  obtain ⟨hE, hU, hul, hfm, hcv⟩ := h
  have ho1 := hb.lom
  have ho2 := hb.mb
  have ho3 := hb.be
  have ho4 := hb.eh
  have hsev := hb.sev
  have hXf := hb.fset
  have hXp := hb.pnset
  have hT40 : TxOK T := ⟨hcv.tl, hcv.t40⟩
  generalize hraw : cpyT T s d = raw
  unfold cpyT at hraw
  generalize hdc : (((d % 4 : Nat) : Int) - ((s % 4 : Nat) : Int)) = dc at hraw
  generalize hdr : (((d / 4 : Nat) : Int) - ((s / 4 : Nat) : Int)) = dr at hraw
  have hbd : -10 ≤ dc ∧ dc ≤ 10 ∧ -10 ≤ dr ∧ dr ≤ 10 := by omega
  have frF : ∀ {u u' : World} {G : Nat → Prop}, FmR u D.B → Fram G u u' → (∀ b, D.m ≤ b → b < D.b → ¬ G b) → FmR u' D.B := fun h1 h2 h3 => h1.far h2 (fun b q => h3 b (hsev b q).1 (hsev b q).2)
  have hlong : 40 < raw.length → stT T d raw = T := fun q => by unfold stT; rw [if_neg (by omega)]
  refine ret_of Tryz.func49 rfl Tryz.ntmps49 rfl ?_
  refine c_seq (fun K1 hK1 => ?_)
  refine c_reg ?_ -- region 0 edit.go:103
  refine wl (ro_assign rfl) ?_
  refine wl_nil (x_then (hK1 _ _ ?_))
  clear hK1 K1
  refine c_seq (fun K2 hK2 => ?_)
  refine c_seq (fun K3 hK3 => ?_)
  refine c_reg ?_ -- region 1 edit.go:104
  refine wl (ro_move rfl) ?_
  refine wl (ro_cmp (r := false) rfl rfl (congrArg some (decide_eq_false (by omega)))) ?_
  refine wl (ro_move rfl) ?_
  refine wlg_yes rfl (ro_move rfl) ?_
  refine wlg_yes rfl (ro_cmp (r := false) rfl rfl (congrArg some (decide_eq_false (by omega)))) ?_
  refine wl (ro_pick rfl rfl rfl) ?_
  refine wl_nil (x_then (hK3 _ _ ?_))
  clear hK3 K3
  refine wc_condF rfl ?_
  refine c_skip (x_then (hK2 _ _ ?_))
  clear hK2 K2
  refine c_seq (fun K4 hK4 => ?_)
  refine c_seq (fun K5 hK5 => ?_)
  refine c_reg ?_ -- region 3 edit.go:107
  refine wl (ro_move rfl) ?_
  refine wl (ro_cmp (r := false) rfl rfl (congrArg some (decide_eq_false (by omega)))) ?_
  refine wl (ro_move rfl) ?_
  refine wlg_yes rfl (ro_move rfl) ?_
  refine wlg_yes rfl (ro_cmp (r := false) rfl rfl (congrArg some (decide_eq_false (by omega)))) ?_
  refine wl (ro_pick rfl rfl rfl) ?_
  refine wl_nil (x_then (hK5 _ _ ?_))
  clear hK5 K5
  refine wc_condF rfl ?_
  refine c_skip (x_then (hK4 _ _ ?_))
  clear hK4 K4
  refine forget [(0, _), (1, _), (2, _)] ⟨rfl, rfl, rfl, trivial⟩ (fun e => ?_)
  refine c_seq (fun K6 hK6 => ?_)
  refine c_reg ?_ -- region 5 edit.go:110
  refine wl (ro_move rfl) ?_
  refine wl (ro_nilCheck rfl) ?_
  refine wl (ro_fieldAddr (k := 1) rfl fo_95_1) ?_
  refine wl (ro_loadB rfl sc_44 (by assumption) rfl) ?_
  refine wl (ro_move rfl) ?_
  refine wl_call rfl en_58 (Raw58G hcv) ?_
  rintro _ u0 ⟨rfl, hw0⟩
  rw [getS_nat hs, hw0]
  clear hw0 u0
  refine wl (ro_assign rfl) ?_
  refine wl_nil (x_then (hK6 _ _ ?_))
  clear hK6 K6
  refine forget [(0, _), (1, _), (2, _), (7, _)] ⟨rfl, rfl, rfl, rfl, trivial⟩ (fun e => ?_)
  refine c_seq (fun K7 hK7 => ?_)
  cases hp : opR (tF T s)
  · skip
    refine c_reg ?_ -- region 6 edit.go:111
    refine wl (ro_move rfl) ?_
    refine wl (ro_move rfl) ?_
    refine wl_call rfl en_72 (tree72 hb hE hfm (hT40.le s)) ?_
    rintro _ u5 ⟨⟨cs, rfl, hTr⟩, hfm5, G5⟩
    rw [hp] at hTr ⊢
    have hform := hTr.form
    have hfi2 : tF T s = raw := by rw [← hraw]; unfold rwT; rw [hp]
    have hsz5 := G5.size
    have hEl := hE.lt
    replace hF := hF.trans (G5.mono (fun k _ hk => ⟨by have := hXf k hk; omega, by have := hXf k hk; omega⟩))
    replace hE := G5.blkF hE (fun q => by have := hXf _ q; omega)
    replace hU := G5.blkF hU (fun q => by have := hXf _ q; omega)
    replace hcv := hcv.far hb.cb G5 (fun b q1 q2 q => by have := hXf _ q; omega)
    clear hfm
    refine wl (ro_move rfl) ?_
    refine wl (ro_extract rfl rfl) ?_
    refine wl (ro_extract rfl rfl) ?_
    refine wl_new (ze_113) (fun b8 w1 hbb8 h8 F1 => ?_)
    have hbsb8 := Nat.le_trans hF.size hbb8
    have hneD.eb8 : D.e < b8 := Nat.lt_of_lt_of_le hE.lt hbb8
    have hneD.bb8 : D.b < b8 := Nat.lt_of_lt_of_le hU.lt hbb8
    replace hF := hF.thenDrew.thenN F1
    replace hE := F1.blkN hE
    replace hU := F1.blkN hU
    replace hfm5 := hfm5.far F1 (fun _ _ q ↦ q)
    replace hcv := hcv.far hb.cb F1 (fun _ _ _ q ↦ q)
    refine wl_puta rfl rfl (hform.2) sz_113 (hform.1) h8 ((by simp)) ((by simp; rfl)) (fun w2 h8 F2 => ?_)
    replace hF := hF.thenDrew.thenO F2 (by first | exact .inr (by omega) | exact .inl rfl | exact .inl (by assumption))
    replace hE := F2.blkO hE (by omega)
    replace hU := F2.blkO hU (by omega)
    replace hfm5 := frF hfm5 F2 (fun b q1 q2 hh ↦ absurd (show b = b8 from hh) (by omega))
    replace hcv := hcv.far hb.cb F2 (fun b q1 q2 hh ↦ absurd (show b = b8 from hh) (by omega))
    refine wl (ro_assign rfl) ?_
    refine wl_nil (x_then (hK7 _ _ ?_))
    clear hK7 K7
    refine c_seq (fun K8 hK8 => ?_)
    refine c_seq (fun K9 hK9 => ?_)
    refine c_reg ?_ -- region 7 edit.go:112
    refine wl (ro_move rfl) ?_
    refine wl_nil (x_then (hK9 _ _ ?_))
    clear hK9 K9
    refine wc_condF rfl ?_
    refine c_skip (x_then (hK8 _ _ ?_))
    clear hK8 K8
    refine c_seq (fun K10 hK10 => ?_)
    refine c_seq (fun K11 hK11 => ?_)
    refine c_reg ?_ -- region 10 edit.go:116
    refine wl (ro_move rfl) ?_
    refine wl (ro_lenS rfl st_9) ?_
    refine wl (ro_cmp (r := decide (40 < raw.length)) rfl rfl (congrArg some (decide_eq_decide.2 (by rw [← hfi2]; constructor <;> intro h <;> omega)))) ?_
    rw [hfi2]
    have hsz7 := hF.size
    refine wl_nil (x_then (hK11 _ _ ?_))
    clear hK11 K11
    refine wc_cond rfl (fun hc53 => ?_) (fun hc53 => ?_)
    · try simp only [decide_eq_true_eq, decide_eq_false_iff_not, Bool.not_eq_true', Bool.not_eq_false', Bool.not_eq_eq_eq_not, Bool.not_true, Bool.not_false, beq_iff_eq, bne_iff_ne, ne_eq, beq_eq_false_iff_ne, bne_eq_false_iff_eq, gt_iff_lt, ge_iff_le, Int.not_lt, Int.not_le] at hc53
      refine c_seq (fun K12 hK12 => ?_)
      refine c_reg ?_ -- region 11 edit.go:117
      refine wl (ro_assign rfl) ?_
      refine wl_nil (x_then (hK12 _ _ ?_))
      clear hK12 K12
      refine c_ret (x_thenR ?_)
      refine bp_ret Tryz.results49 rfl ?_
      rw [if_pos hc53, hlong hc53]
      exact ⟨rfl, ⟨SL, hE, hU, hul, hfm5, hcv⟩, hF⟩
    · try simp only [decide_eq_true_eq, decide_eq_false_iff_not, Bool.not_eq_true', Bool.not_eq_false', Bool.not_eq_eq_eq_not, Bool.not_true, Bool.not_false, beq_iff_eq, bne_iff_ne, ne_eq, beq_eq_false_iff_ne, bne_eq_false_iff_eq, gt_iff_lt, ge_iff_le, Int.not_lt, Int.not_le] at hc53
      refine c_skip (x_then (hK10 _ _ ?_))
      clear hK10 K10
      refine forget [(0, _), (2, _), (7, _)] ⟨rfl, rfl, rfl, trivial⟩ (fun e => ?_)
      refine c_seq (fun K13 hK13 => ?_)
      refine c_reg ?_ -- region 12 edit.go:119
      refine wl (ro_move rfl) ?_
      refine wl (ro_move rfl) ?_
      refine wl (ro_move rfl) ?_
      refine wl_call rfl en_75 (lay75 (raw := raw) hb (by omega) ⟨hE, hU, hul, hfm5, hcv⟩ hd) ?_
      rintro _ u8 ⟨⟨SL8, h88⟩, G8⟩
      refine wl_nil (x_then (hK13 _ _ ?_))
      clear hK13 K13
      refine forget [] trivial (fun e => ?_)
      refine c_seq (fun K14 hK14 => ?_)
      refine c_reg ?_ -- region 13 edit.go:120
      refine wl (ro_assign rfl) ?_
      refine wl_nil (x_then (hK14 _ _ ?_))
      clear hK14 K14
      refine c_ret ?_
      refine bp_ret Tryz.results49 rfl ?_
      rw [if_neg hc53]
      exact ⟨rfl, ⟨SL8, h88⟩, hF.trans (G8.mono (fun k _ hk => ⟨hk.1, by have := hk.2; omega⟩))⟩
  · skip
    rename_i n
    obtain ⟨hDn, hAn⟩ := opR_ok hp
    have hn1 : 1 ≤ n.length := hDn.1
    have hn24 : n.length ≤ 24 := hDn.2.1
    refine c_reg ?_ -- region 6 edit.go:111
    refine wl (ro_move rfl) ?_
    refine wl (ro_move rfl) ?_
    refine wl_call rfl en_72 (tree72 hb hE hfm (hT40.le s)) ?_
    rintro _ u5 ⟨⟨cs, rfl, hTr⟩, hfm5, G5⟩
    rw [hp] at hTr ⊢
    have hform := hTr.form
    obtain ⟨qb, rfl, hqb, hQ⟩ := hTr
    have hfi2 : 61 :: textF (n.map (cyN dc dr)) = raw := by rw [← hraw]; unfold rwT; rw [hp]
    have hsz5 := G5.size
    have hQl := hQ.lt
    have hEl := hE.lt
    replace hF := hF.trans (G5.mono (fun k _ hk => ⟨by have := hXf k hk; omega, by have := hXf k hk; omega⟩))
    replace hE := G5.blkF hE (fun q => by have := hXf _ q; omega)
    replace hU := G5.blkF hU (fun q => by have := hXf _ q; omega)
    replace hcv := hcv.far hb.cb G5 (fun b q1 q2 q => by have := hXf _ q; omega)
    clear hfm
    refine wl (ro_move rfl) ?_
    refine wl (ro_extract rfl rfl) ?_
    refine wl (ro_extract rfl rfl) ?_
    refine wl_new (ze_113) (fun b8 w3 hbb8 h8 F3 => ?_)
    have hbsb8 := Nat.le_trans hF.size hbb8
    have hneD.eb8 : D.e < b8 := Nat.lt_of_lt_of_le hE.lt hbb8
    have hneD.bb8 : D.b < b8 := Nat.lt_of_lt_of_le hU.lt hbb8
    have hneqbb8 : qb < b8 := Nat.lt_of_lt_of_le hQ.lt hbb8
    replace hF := hF.thenDrew.thenN F3
    replace hE := F3.blkN hE
    replace hU := F3.blkN hU
    replace hQ := F3.blkN hQ
    replace hfm5 := hfm5.far F3 (fun _ _ q ↦ q)
    replace hcv := hcv.far hb.cb F3 (fun _ _ _ q ↦ q)
    refine wl_puta rfl rfl (hform.2) sz_113 (hform.1) h8 ((by simp)) ((by simp; rfl)) (fun w4 h8 F4 => ?_)
    replace hF := hF.thenDrew.thenO F4 (by first | exact .inr (by omega) | exact .inl rfl | exact .inl (by assumption))
    replace hE := F4.blkO hE (by omega)
    replace hU := F4.blkO hU (by omega)
    replace hQ := F4.blkO hQ (by omega)
    replace hfm5 := frF hfm5 F4 (fun b q1 q2 hh ↦ absurd (show b = b8 from hh) (by omega))
    replace hcv := hcv.far hb.cb F4 (fun b q1 q2 hh ↦ absurd (show b = b8 from hh) (by omega))
    refine wl (ro_assign rfl) ?_
    refine wl_nil (x_then (hK7 _ _ ?_))
    clear hK7 K7
    refine c_seq (fun K15 hK15 => ?_)
    refine c_seq (fun K16 hK16 => ?_)
    refine c_reg ?_ -- region 7 edit.go:112
    refine wl (ro_move rfl) ?_
    refine wl_nil (x_then (hK16 _ _ ?_))
    clear hK16 K16
    refine wc_condT rfl ?_
    refine c_seq (fun K17 hK17 => ?_)
    refine c_reg ?_ -- region 8 edit.go:113
    refine wl (ro_fieldAddr (k := 0) rfl fo_113_0) ?_
    refine wl (ro_loadB rfl sc_78 (h8) (rfl)) ?_
    refine wl (ro_move rfl) ?_
    refine wl (ro_remN (b := 4) rfl rfl (by omega)) ?_
    refine wl (ro_move rfl) ?_
    refine wl (ro_remN (b := 4) rfl rfl (by omega)) ?_
    refine wl (ro_arith (r := dc) rfl rfl (congrArg some hdc) (Go.IntWalk.i64_in _ (by omega))) ?_
    refine wl (ro_move rfl) ?_
    refine wl (ro_quoN (b := 4) rfl rfl (by omega) (by omega)) ?_
    refine wl (ro_move rfl) ?_
    refine wl (ro_quoN (b := 4) rfl rfl (by omega) (by omega)) ?_
    refine wl (ro_arith (r := dr) rfl rfl (congrArg some hdr) (Go.IntWalk.i64_in _ (by omega))) ?_
    refine wl_call rfl en_81 (carryAll81 hn24 hAn hbd hQ) ?_
    rintro _ u6 ⟨hQ6, G6⟩
    replace hF := hF.transG G6 (by intro k hk h; simp only [none', rng, one] at h ⊢ <;> omega)
    replace hE := G6.blkF hE (by intro h; simp only [none', rng, one] at h <;> omega)
    replace hU := G6.blkF hU (by intro h; simp only [none', rng, one] at h <;> omega)
    replace h8 := G6.blkF h8 (by intro h; simp only [none', rng, one] at h <;> omega)
    replace hfm5 := frF hfm5 G6 (fun b q1 q2 hh => absurd (show b = qb from hh) (by omega))
    replace hcv := hcv.far hb.cb G6 (fun b q1 q2 hh => absurd (show b = qb from hh) (by omega))
    have hv0 : Value.agg #[sl qb n.length, icv ((n.length : Int) - 1), icv 0, icv 0] = trV qb (n.map (cyN dc dr)) := by
      rw [← trV_eq (n := n.map (cyN dc dr)) (by rw [List.length_map]; exact hn1), List.length_map]
    refine wl_nil (x_then (hK17 _ _ ?_))
    clear hK17 K17
    refine c_reg ?_ -- region 9 edit.go:114
    refine wl (ro_move rfl) ?_
    refine wl (ro_loadAggB rfl ag_113 (h8) (rfl) (rfl)) ?_
    refine wl_call rfl en_74 (text74 (n := n.map (cyN dc dr)) hb hv0 hE hfm5 (done_map cy_gok hDn) (aok_map (fun x hx ↦ cy_nm hx) hAn) (nb_of hb (by omega)) hQ6) ?_
    rintro _ u7 ⟨rfl, hfm7, G7⟩
    replace hF := hF.trans (G7.mono (fun k _ hk => ⟨by have := hXp k hk; omega, by have := hXp k hk; omega⟩))
    replace hE := G7.blkF hE (fun q => by have := hXp _ q; omega)
    replace hU := G7.blkF hU (fun q => by have := hXp _ q; omega)
    replace hcv := hcv.far hb.cb G7 (fun b q1 q2 q => by have := hXp _ q; omega)
    clear hfm5 h8 hQ hQ6
    have hfm5 := hfm7
    refine wl (ro_assign rfl) ?_
    refine wl_nil (x_then (hK15 _ _ ?_))
    clear hK15 K15
    refine c_seq (fun K18 hK18 => ?_)
    refine c_seq (fun K19 hK19 => ?_)
    refine c_reg ?_ -- region 10 edit.go:116
    refine wl (ro_move rfl) ?_
    refine wl (ro_lenS rfl st_9) ?_
    refine wl (ro_cmp (r := decide (40 < raw.length)) rfl rfl (congrArg some (decide_eq_decide.2 (by rw [← hfi2]; constructor <;> intro h <;> omega)))) ?_
    rw [hfi2]
    have hsz7 := hF.size
    refine wl_nil (x_then (hK19 _ _ ?_))
    clear hK19 K19
    refine wc_cond rfl (fun hc53 => ?_) (fun hc53 => ?_)
    · try simp only [decide_eq_true_eq, decide_eq_false_iff_not, Bool.not_eq_true', Bool.not_eq_false', Bool.not_eq_eq_eq_not, Bool.not_true, Bool.not_false, beq_iff_eq, bne_iff_ne, ne_eq, beq_eq_false_iff_ne, bne_eq_false_iff_eq, gt_iff_lt, ge_iff_le, Int.not_lt, Int.not_le] at hc53
      refine c_seq (fun K20 hK20 => ?_)
      refine c_reg ?_ -- region 11 edit.go:117
      refine wl (ro_assign rfl) ?_
      refine wl_nil (x_then (hK20 _ _ ?_))
      clear hK20 K20
      refine c_ret (x_thenR ?_)
      refine bp_ret Tryz.results49 rfl ?_
      rw [if_pos hc53, hlong hc53]
      exact ⟨rfl, ⟨SL, hE, hU, hul, hfm5, hcv⟩, hF⟩
    · try simp only [decide_eq_true_eq, decide_eq_false_iff_not, Bool.not_eq_true', Bool.not_eq_false', Bool.not_eq_eq_eq_not, Bool.not_true, Bool.not_false, beq_iff_eq, bne_iff_ne, ne_eq, beq_eq_false_iff_ne, bne_eq_false_iff_eq, gt_iff_lt, ge_iff_le, Int.not_lt, Int.not_le] at hc53
      refine c_skip (x_then (hK18 _ _ ?_))
      clear hK18 K18
      refine forget [(0, _), (2, _), (7, _)] ⟨rfl, rfl, rfl, trivial⟩ (fun e => ?_)
      refine c_seq (fun K21 hK21 => ?_)
      refine c_reg ?_ -- region 12 edit.go:119
      refine wl (ro_move rfl) ?_
      refine wl (ro_move rfl) ?_
      refine wl (ro_move rfl) ?_
      refine wl_call rfl en_75 (lay75 (raw := raw) hb (by omega) ⟨hE, hU, hul, hfm5, hcv⟩ hd) ?_
      rintro _ u8 ⟨⟨SL8, h88⟩, G8⟩
      refine wl_nil (x_then (hK21 _ _ ?_))
      clear hK21 K21
      refine forget [] trivial (fun e => ?_)
      refine c_seq (fun K22 hK22 => ?_)
      refine c_reg ?_ -- region 13 edit.go:120
      refine wl (ro_assign rfl) ?_
      refine wl_nil (x_then (hK22 _ _ ?_))
      clear hK22 K22
      refine c_ret ?_
      refine bp_ret Tryz.results49 rfl ?_
      rw [if_neg hc53]
      exact ⟨rfl, ⟨SL8, h88⟩, hF.trans (G8.mono (fun k _ hk => ⟨hk.1, by have := hk.2; omega⟩))⟩

end Go.Proofs.Qxb6500570aGreat
