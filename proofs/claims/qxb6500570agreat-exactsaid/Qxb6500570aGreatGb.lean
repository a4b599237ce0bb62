import Derived.Test.Qxb6500570aGreatGa
/- The real sheet: the sweep. -/
namespace Go.Proofs.Qxb6500570aGreat
set_option linter.unusedVariables false
set_option linter.unusedSimpArgs false

def swf (lo : Nat) (C : CB) : Nat → Prop := fun b => (lo ≤ b ∧ b < C.G.g) ∨ b = C.s
theorem pair_inj {cs : List Value} {a b : Value} {ds : List Value} (h : Value.tuple #[.agg cs.toArray, a] = .tuple #[.agg ds.toArray, b]) : cs = ds := by
  have q := congrArg (fun v => match v with | Value.tuple vs => vs[0]? | _ => none) h
  exact agg_inj (Option.some.inj q)
theorem drop_cons' {l : List Nat} {i x : Nat} (h : l[i]? = some x) : l.drop i = x :: l.drop (i + 1) := by
  obtain ⟨hi, hx⟩ := List.getElem?_eq_some_iff.1 h
  rw [← hx, ← List.drop_eq_getElem_cons hi]
set_option maxHeartbeats 16000000 in
theorem sweep93 {w : World} {lo hi c h cy : Nat} {tc : Int} {C : CB} {T : List (List UInt8)} {SL : List Vl} {RL : List Nat} {T0 : Nat → List UInt8} {L0 L : Nat → Int} {S0 : Nat → Vl} {l : List Nat} {V : Value} (hb : CaB lo hi C) (hhi : hi ≤ w.heap.size)
    (hK : Blk w.heap C.k (cast C) 93) (hR : Blk w.heap C.r (rws stc T) 9) (hV : Blk w.heap C.s (rws vlc SL) 104) (htl : T.length = 24) (hsl : SL.length = 24) (h40 : ∀ t ∈ T, t.length ≤ 40) (hlw : ∀ v ∈ SL, Lw v) (hev : EvR w C.E C.X)
    (hA : Blk w.heap C.G.g (gst C.G cy tc) 91) (hQ : Blk w.heap C.G.r (rws msc RL) 85) (hrl : RL.length = 24) (hRR : ∀ x, x < 24 → rF RL x = rdsV (tF T x)) (sws : SwS T0 (tF T) L0 L S0 (envF SL) h c) (ho : OrdOK L h l) (hO : Own w.heap V 3 1 l.length (rws onc l)) (hvb : ∀ b, V.ownBlock = some b → hi ≤ b) :
    Ret Tryz.prog 93 [ptr C.k, i64c c, V] w (fun _ w' => (∃ SL' turned, SL'.length = 24 ∧ (∀ v ∈ SL', Lw v) ∧ Blk w'.heap C.s (rws vlc SL') 104 ∧ EvR w' C.E C.X ∧ SwI (tF T) L h (envF SL) (envF SL') turned l []) ∧ Fram (swf lo C) w w') := by
  have hF : Fram (swf lo C) w w := Fram.refl _ _
  obtain ⟨hb1, hb2, hb3, hb4, hb5, hb6, hb7, hb8⟩ := hb
  have ho2 := hb2
  unfold GBo at hb2
  have hlo : lo ≤ C.G.g := by
    have h1 := hb1.1
    have h2 := hb1.2.2.2.1
    have h3 := hb1.2.2.2.2.1
    have h4 := hb1.2.2.2.2.2
    unfold EBo at h1
    omega
  have hm1 : swf lo C C.s := .inr rfl
  have hc24 := sws.hc
  obtain ⟨a, cap, rfl⟩ := hO.form
  have hdr : ∀ {u : World} {k : Nat}, EvR u C.E C.X → EvR { u with drawn := k } C.E C.X := fun h => h.far hb1 (Fram.drew none' _ _) (fun _ _ _ h => h)
  refine ret_of Tryz.func93 rfl Tryz.ntmps93 rfl ?_
  refine c_seq (fun K1 hK1 => ?_)
  refine c_reg ?_ -- region 0 sweep.go:18
  refine wl (ro_assign rfl) ?_
  refine wl_nil (x_then (hK1 _ _ ?_))
  clear hK1 K1
  refine forget [(0, _), (1, _), (2, _), (6, _)] ⟨rfl, rfl, rfl, rfl, trivial⟩ (fun e => ?_)
  refine c_seq (fun K2 hK2 => ?_)
  refine c_reg ?_ -- region 1 sweep.go:19
  refine wl_call rfl en_116 (Err116) ?_
  rintro _ u2 ⟨rfl, G2⟩
  replace hev := hev.far hb1 G2 (fun _ _ _ h => h)
  replace hO := hO.fram G2 (fun _ _ h => h)
  have hOb : ∀ b, (Value.slice a l.length cap).ownBlock = some b → b < u2.heap.size := fun b q => hO.lt q
  have hsz := G2.size
  replace hF := hF.transG G2 (by intro k hk h; simp only [one, none', rng, swf] at h ⊢ <;> omega)
  replace hK := G2.blkF hK (by intro h; simp only [one, none', rng, swf] at h <;> omega)
  replace hR := G2.blkF hR (by intro h; simp only [one, none', rng, swf] at h <;> omega)
  replace hV := G2.blkF hV (by intro h; simp only [one, none', rng, swf] at h <;> omega)
  replace hA := G2.blkF hA (by intro h; simp only [one, none', rng, swf] at h <;> omega)
  replace hQ := G2.blkF hQ (by intro h; simp only [one, none', rng, swf] at h <;> omega)
  refine wl_new (ze_104) (fun b7 w1 hbb7 h7 F1 => ?_)
  have hbsb7 := Nat.le_trans hF.size hbb7
  have hneC.kb7 : C.k < b7 := Nat.lt_of_lt_of_le hK.lt hbb7
  have hneC.rb7 : C.r < b7 := Nat.lt_of_lt_of_le hR.lt hbb7
  have hneC.sb7 : C.s < b7 := Nat.lt_of_lt_of_le hV.lt hbb7
  have hneC.G.gb7 : C.G.g < b7 := Nat.lt_of_lt_of_le hA.lt hbb7
  have hneC.G.rb7 : C.G.r < b7 := Nat.lt_of_lt_of_le hQ.lt hbb7
  replace hF := hF.thenDrew.thenN F1
  replace hK := F1.blkN hK
  replace hR := F1.blkN hR
  replace hV := F1.blkN hV
  replace hA := F1.blkN hA
  replace hQ := F1.blkN hQ
  replace hev := hev.far hb1 F1 (fun _ _ _ h ↦ h)
  replace hO := hO.fram F1 (fun _ _ h ↦ h)
  refine wl_puta rfl rfl ((vlc_cells _)) sz_104 (rfl) h7 ((by simp)) (rfl) (fun w2 h7 F2 => ?_)
  replace hF := hF.thenDrew.thenO F2 (by first | exact .inr (by omega) | exact .inl rfl | exact .inl (by assumption))
  replace hK := F2.blkO hK (by omega)
  replace hR := F2.blkO hR (by omega)
  replace hV := F2.blkO hV (by omega)
  replace hA := F2.blkO hA (by omega)
  replace hQ := F2.blkO hQ (by omega)
  replace hev := hev.far hb1 F2 (fun b q1 q2 hh ↦ absurd (show b = b7 from hh) (by omega))
  replace hO := hO.fram F2 (fun b q hh ↦ by have h1 := hOb b q; have h2 : b = b7 := hh; omega)
  refine wl_nil (x_then (hK2 _ _ ?_))
  clear hK2 K2
  refine forget [(0, _), (1, _), (2, _), (6, _), (7, _)] ⟨rfl, rfl, rfl, rfl, rfl, trivial⟩ (fun e => ?_)
  refine c_seq (fun K3 hK3 => ?_)
  refine c_reg ?_ -- region 2 sweep.go:20
  refine wl (ro_assign rfl) ?_
  refine wl_nil (x_then (hK3 _ _ ?_))
  clear hK3 K3
  refine c_block ?_
  -- loop@r3: live slots [0, 1, 2, 6, 7, 8]
  refine c_loopG (fun m a' w' => ∃ i SL' turned, m = l.length - i ∧ i ≤ l.length ∧ SwI (tF T) L h (envF SL) (envF SL') turned (l.take i) (l.drop i) ∧ SL'.length = 24 ∧ (∀ v ∈ SL', Lw v) ∧ EvR w' C.E C.X ∧ Own w'.heap (.slice a l.length cap) 3 1 l.length (rws onc l) ∧ Blk w'.heap C.k (cast C) 93 ∧ Blk w'.heap C.r (rws stc T) 9 ∧ Blk w'.heap C.s (rws vlc SL') 104 ∧ Blk w'.heap C.G.g (gst C.G cy tc) 91 ∧ Blk w'.heap C.G.r (rws msc RL) 85 ∧ Blk w'.heap b7 (vlc (vE 6)) 104 ∧ Fram (swf lo C) w w' ∧ ∃ e, a' = Fr 89 (upds e [(0, ptr C.k), (1, i64c c), (2, .slice a l.length cap), (6, u32c turned), (7, ptr b7), (8, i64c i)]) []) l.length ⟨0, SL, 0, rfl, by omega, by rw [List.take_zero, List.drop_zero]; exact sw_start sws, hsl, hlw, hev, hO, hK, hR, hV, hA, hQ, h7, hF, kp _ ⟨rfl, rfl, rfl, rfl, rfl, rfl, trivial⟩⟩ ?_
  have hb7w : w.heap.size ≤ b7 := by omega
  clear hF hK hR hV hA hQ h7 hev hO
  rintro m a' u3 ⟨i, SL', turned, rfl, hil0, hsw, hsl', hlw', hev, hO, hK, hR, hV, hA, hQ, h7, hF, e, rfl⟩
  have hsz3 := hF.size
  refine c_seq (fun K4 hK4 => ?_)
  refine c_seq (fun K5 hK5 => ?_)
  refine c_reg ?_ -- region 3 sweep.go:20
  refine wl (ro_move rfl) ?_
  refine wl (ro_move rfl) ?_
  refine wl (ro_lenL rfl se_79) ?_
  refine wl (ro_cmp (r := decide (i < l.length)) rfl rfl (congrArg some (decide_eq_decide.2 (by omega)))) ?_
  refine wl_nil (x_then (hK5 _ _ ?_))
  clear hK5 K5
  refine wc_cond rfl (fun hc18 => ?_) (fun hc18 => ?_)
  · try simp only [decide_eq_true_eq, decide_eq_false_iff_not, Bool.not_eq_true', Bool.not_eq_false', Bool.not_eq_eq_eq_not, Bool.not_true, Bool.not_false, beq_iff_eq, bne_iff_ne, ne_eq, beq_eq_false_iff_ne, bne_eq_false_iff_eq, gt_iff_lt, ge_iff_le, Int.not_lt, Int.not_le] at hc18
    obtain ⟨x, hx⟩ : ∃ x, l[i]? = some x := ⟨_, List.getElem?_eq_getElem hc18⟩
    obtain ⟨g, cap', lc, hea, hLs, hg3, hg4, hg5, hg6⟩ := hO.pos (by omega)
    injection hea with hea1 hea2 hea3
    subst hea1
    subst hea3
    have hgh : hi ≤ g := hvb g rfl
    have hgb := hOb g rfl
    have hlx : lc[i]? = some (i64c x) := by
      have e1 : (rws onc l)[i]? = some (i64c x) := rw_get onc_len hx (j := 0) (by omega) rfl
      rw [← hg6, List.getElem?_take_of_lt (by omega)] at e1
      exact e1
    have hdx := drop_cons' hx
    have hspl : l.take i ++ x :: l.drop (i + 1) = l := by rw [← hdx, List.take_append_drop]
    rw [hdx] at hsw
    have ho' : OrdOK L h (l.take i ++ x :: l.drop (i + 1)) := by rw [hspl]; exact ho
    have hx24 : x < 24 := ((ho.1 x).1 (List.mem_of_getElem? hx)).1
    have htx : l.take (i + 1) = l.take i ++ [x] := by rw [List.take_add_one, hx]; rfl
    have hrx := hRR x hx24
    have hr24 : rdsV (tF T x) < 2 ^ 24 := rdsV_lt _
    have ht24 := hsw.tl
    clear hO
    refine c_skip (x_then (hK4 _ _ ?_))
    clear hK4 K4
    refine forget [(0, _), (1, _), (2, _), (6, _), (7, _), (8, _)] ⟨rfl, rfl, rfl, rfl, rfl, rfl, trivial⟩ (fun e => ?_)
    refine c_seq (fun K6 hK6 => ?_)
    refine c_block ?_
    refine c_seq (fun K7 hK7 => ?_)
    refine c_reg ?_ -- region 5 sweep.go:21
    refine wl (ro_move rfl) ?_
    refine wl (ro_move rfl) ?_
    refine wl (ro_indexAddr (et := 3) (k := 1) rfl rfl se_79 rfl (by omega)) ?_
    refine wl (ro_loadB rfl sc_3 (hLs) ((by rw [Nat.mul_one, Nat.zero_add]; exact hlx))) ?_
    refine wl (ro_assign rfl) ?_
    refine wl_nil (x_then (hK7 _ _ ?_))
    clear hK7 K7
    refine c_mid (fun a' w' => EvR w' C.E C.X ∧ Blk w'.heap C.k (cast C) 93 ∧ Blk w'.heap C.r (rws stc T) 9 ∧ Blk w'.heap C.s (rws vlc SL') 104 ∧ Blk w'.heap C.G.g (gst C.G cy tc) 91 ∧ Blk w'.heap C.G.r (rws msc RL) 85 ∧ Blk w'.heap b7 (vlc (vE 6)) 104 ∧ Blk w'.heap g lc 3 ∧ Fram (swf lo C) w w' ∧ ∃ e, a' = Fr 89 (upds e [(0, ptr C.k), (1, i64c c), (2, .slice (some ⟨g, 0, none⟩) l.length cap), (6, u32c turned), (7, ptr b7), (8, i64c i), (9, i64c x)]) []) ?_ ?_
    · skip
      refine c_seq (fun K8 hK8 => ?_)
      refine c_reg ?_ -- region 6 sweep.go:22
      refine wl (ro_move rfl) ?_
      refine wl (ro_move rfl) ?_
      refine wl (ro_cmp (r := decide (x ≠ c)) rfl rfl (congrArg some (bnec x c))) ?_
      refine wl_nil (x_then (hK8 _ _ ?_))
      clear hK8 K8
      refine wc_cond rfl (fun hc27 => ?_) (fun hc27 => ?_)
      · try simp only [decide_eq_true_eq, decide_eq_false_iff_not, Bool.not_eq_true', Bool.not_eq_false', Bool.not_eq_eq_eq_not, Bool.not_true, Bool.not_false, beq_iff_eq, bne_iff_ne, ne_eq, beq_eq_false_iff_ne, bne_eq_false_iff_eq, gt_iff_lt, ge_iff_le, Int.not_lt, Int.not_le] at hc27
        refine c_seq (fun K9 hK9 => ?_)
        refine c_reg ?_ -- region 7 sweep.go:23
        refine wl (ro_move rfl) ?_
        refine wl (ro_nilCheck rfl) ?_
        refine wl (ro_fieldAddr (k := 1) rfl fo_93_1) ?_
        refine wl (ro_loadB rfl sc_42 (by assumption) rfl) ?_
        refine wl (ro_move rfl) ?_
        refine wl_call rfl en_117 (ReadsG117 hA hQ hrl hx24) ?_
        rintro _ _ ⟨rfl, rfl⟩
        rw [hrx]
        refine wl (ro_assign rfl) ?_
        refine wl_nil (x_then (hK9 _ _ ?_))
        clear hK9 K9
        refine forget [(0, _), (1, _), (2, _), (6, _), (7, _), (8, _), (9, _), (10, _)] ⟨rfl, rfl, rfl, rfl, rfl, rfl, rfl, rfl, trivial⟩ (fun e => ?_)
        refine c_seq (fun K10 hK10 => ?_)
        by_cases hz : rdsV (tF T x) &&& turned = 0
        · skip
          refine c_pi [(0, false), (1, false), (2, false), (3, false), (4, false), (5, false), (6, false), (7, false), (8, false), (9, false), (10, false), (11, false), (12, false), (13, false), (14, false)] (SameH _) mixed (by kernel_rfl) rfl (by kernel_rfl) (po_then (po_then (po_blk (po_then (po_then (po_blk (po_bp))))))) (sameH_now _ _) ?_ -- region 8 sweep.go:24
          refine pi_ro rfl (fun w hS => ro_move rfl) ?_
          refine pi_ro rfl (fun w hS => ro_move rfl) ?_
          refine pi_ro rfl (fun w hS => ro_and32 rfl rfl (by omega) (by omega)) ?_
          refine pi_ro rfl (fun w hS => ro_cmp (r := true) rfl rfl (congrArg some (by rw [hz]; rfl))) ?_
          refine pi_ro rfl (fun w hS => ro_move rfl) ?_
          refine pi_gyes rfl rfl (fun w hS => ro_move rfl) ?_
          refine pi_gyes rfl rfl (fun w hS => ro_nilCheck rfl) ?_
          refine pi_gyes rfl rfl (fun w hS => ro_fieldAddr (k := 3) rfl fo_93_3) ?_
          refine pi_gyes rfl rfl (fun w hS => ro_loadB rfl sc_86 (Blk.of_heap (by assumption) hS) rfl) ?_
          refine pi_gyes rfl rfl (fun w hS => ro_move rfl) ?_
          refine pi_gyes rfl rfl (fun w hS => ro_indexAddr (et := 104) (k := 3) rfl rfl se_86 rfl (by omega)) ?_
          refine pi_gyes rfl rfl (fun w hS => ro_loadAggB rfl ag_104 (Blk.of_heap hV hS) ((vlc_len _)) ((rw_agg vlc_len (env_get (EL := SL') (c := x) (by omega)) (by omega)))) ?_
          refine pi_gyes rfl rfl (fun w hS => ro_loadAggB rfl ag_104 (Blk.of_heap h7 hS) ((vlc_len _)) (rfl)) ?_
          refine pi_gyes rfl rfl (fun w hS => ro_eqSt3 (r := !decide ((envF SL' x).k = (vE 6).k ∧ (envF SL' x).n = (vE 6).n ∧ (envF SL' x).s = (vE 6).s)) rfl rfl st3_104 in_3 in_3 st_9 eg_104 rfl) ?_
          refine pi_ro rfl (fun w hS => ro_pick rfl rfl rfl) ?_
          refine pi_nil (x_then (hK10 _ _ ?_))
          clear hK10 K10
          refine wc_cond rfl (fun hc48 => ?_) (fun hc48 => ?_)
          · try simp only [decide_eq_true_eq, decide_eq_false_iff_not, Bool.not_eq_true', Bool.not_eq_false', Bool.not_eq_eq_eq_not, Bool.not_true, Bool.not_false, beq_iff_eq, bne_iff_ne, ne_eq, beq_eq_false_iff_ne, bne_eq_false_iff_eq, gt_iff_lt, ge_iff_le, Int.not_lt, Int.not_le] at hc48
            refine c_exit (x_thenX (x_blkX (x_then (hK6 _ _ ?_))))
            clear hK6 K6
            refine c_reg ?_ -- region 4 sweep.go:20
            refine wl (ro_move rfl) ?_
            refine wl (ro_arith (r := ((i + 1 : Nat) : Int)) rfl rfl rfl (Go.IntWalk.i64_in _ (by omega))) ?_
            refine wl (ro_assign rfl) ?_
            refine wl_nil (x_then ?_)
            have hne6 : envF SL' x ≠ vE 6 := fun q => hc48 (vl_ext.2 q)
            refine ⟨l.length - (i + 1), by omega, i + 1, SL', turned, rfl, by omega, ?_, hsl', hlw', hdr hev, ⟨by rw [rws_len onc_len], .inr ⟨g, cap, lc, rfl, hLs, hg3, hg4, hg5, hg6⟩⟩, hK, hR, hV, hA, hQ, h7, hF.thenDrew, kp _ ⟨rfl, rfl, rfl, rfl, rfl, rfl, trivial⟩⟩
            rw [htx]
            exact hsw.turn sws.lv ho' (sw_skip sws ho' hsw hc27 hz hne6) (fun _ _ _ => rfl) hsw.tl (fun _ _ _ => rfl) (fun _ => rfl)
          · try simp only [decide_eq_true_eq, decide_eq_false_iff_not, Bool.not_eq_true', Bool.not_eq_false', Bool.not_eq_eq_eq_not, Bool.not_true, Bool.not_false, beq_iff_eq, bne_iff_ne, ne_eq, beq_eq_false_iff_ne, bne_eq_false_iff_eq, gt_iff_lt, ge_iff_le, Int.not_lt, Int.not_le] at hc48
            refine c_skip (x_then ?_)
            first
              | exact ⟨hdr hev, hK, hR, hV, hA, hQ, h7, hLs, hF.thenDrew, kp _ ⟨rfl, rfl, rfl, rfl, rfl, rfl, rfl, trivial⟩⟩
              | exact ⟨hev, hK, hR, hV, hA, hQ, h7, hLs, hF, kp _ ⟨rfl, rfl, rfl, rfl, rfl, rfl, rfl, trivial⟩⟩
        · skip
          refine c_pi [(0, false), (1, false), (2, false), (3, false), (4, false), (5, false), (6, false), (7, false), (8, false), (9, false), (10, false), (11, false), (12, false), (13, false), (14, false)] (SameH _) mixed (by kernel_rfl) rfl (by kernel_rfl) (po_then (po_then (po_blk (po_then (po_then (po_blk (po_bp))))))) (sameH_now _ _) ?_ -- region 8 sweep.go:24
          refine pi_ro rfl (fun w hS => ro_move rfl) ?_
          refine pi_ro rfl (fun w hS => ro_move rfl) ?_
          refine pi_ro rfl (fun w hS => ro_and32 rfl rfl (by omega) (by omega)) ?_
          refine pi_ro rfl (fun w hS => ro_cmp (r := false) rfl rfl (congrArg some ((beqc _ 0).trans (decide_eq_false hz)))) ?_
          refine pi_ro rfl (fun w hS => ro_move rfl) ?_
          refine pi_gno rfl rfl ?_
          refine pi_gno rfl rfl ?_
          refine pi_gno rfl rfl ?_
          refine pi_gno rfl rfl ?_
          refine pi_gno rfl rfl ?_
          refine pi_gno rfl rfl ?_
          refine pi_gno rfl rfl ?_
          refine pi_gno rfl rfl ?_
          refine pi_gno rfl rfl ?_
          refine pi_ro rfl (fun w hS => ro_pick rfl rfl rfl) ?_
          refine pi_nil (x_then (hK10 _ _ ?_))
          clear hK10 K10
          refine wc_condF rfl ?_
          refine c_skip (x_then ?_)
          first
            | exact ⟨hdr hev, hK, hR, hV, hA, hQ, h7, hLs, hF.thenDrew, kp _ ⟨rfl, rfl, rfl, rfl, rfl, rfl, rfl, trivial⟩⟩
            | exact ⟨hev, hK, hR, hV, hA, hQ, h7, hLs, hF, kp _ ⟨rfl, rfl, rfl, rfl, rfl, rfl, rfl, trivial⟩⟩
      · try simp only [decide_eq_true_eq, decide_eq_false_iff_not, Bool.not_eq_true', Bool.not_eq_false', Bool.not_eq_eq_eq_not, Bool.not_true, Bool.not_false, beq_iff_eq, bne_iff_ne, ne_eq, beq_eq_false_iff_ne, bne_eq_false_iff_eq, gt_iff_lt, ge_iff_le, Int.not_lt, Int.not_le] at hc27
        refine c_skip (x_then ?_)
        first
          | exact ⟨hdr hev, hK, hR, hV, hA, hQ, h7, hLs, hF.thenDrew, kp _ ⟨rfl, rfl, rfl, rfl, rfl, rfl, rfl, trivial⟩⟩
          | exact ⟨hev, hK, hR, hV, hA, hQ, h7, hLs, hF, kp _ ⟨rfl, rfl, rfl, rfl, rfl, rfl, rfl, trivial⟩⟩
    clear hev hK hR hV hA hQ h7 hLs hF
    rintro a' u5 ⟨hev, hK, hR, hV, hA, hQ, h7, hLs, hF, e, rfl⟩
    have hsz5 := hF.size
    have l1 := hK.lt
    have l2 := hR.lt
    have l3 := hV.lt
    have l4 := hA.lt
    have l5 := hQ.lt
    have l6 := h7.lt
    have l7 := hLs.lt
    have hraw : (tF T x).length ≤ 40 := h40 _ (tF_mem (by omega))
    refine c_seq (fun K11 hK11 => ?_)
    refine c_piF 21 15 19 [0, 1, 2, 3, 4, 5, 6, 7, 8, 9, 10, 11, 12, 13, 14] [(16, false), (17, false), (18, false), (19, true), (20, true)] [(15, true), (16, false), (17, false), (18, false), (20, true)] (fun w' => Blk w'.heap C.k (cast C) 93 ∧ Blk w'.heap C.r (rws stc T) 9) mixed (by kernel_rfl) rfl rfl (by kernel_rfl) (po_then (po_blk (po_then (po_then (po_blk (po_bp)))))) (⟨hK, hR⟩) ?_ -- region 9 sweep.go:28
    refine wf_ro rfl (fun w hS => ro_move rfl) ?_
    refine wf_ro rfl (fun w hS => ro_nilCheck rfl) ?_
    refine wf_ro rfl (fun w hS => ro_fieldAddr (k := 0) rfl fo_93_0) ?_
    refine wf_ro rfl (fun w hS => ro_loadB rfl sc_40 (hS.1) (rfl)) ?_
    refine wf_ro rfl (fun w hS => ro_move rfl) ?_
    refine wf_ro rfl (fun w hS => ro_nilCheck rfl) ?_
    refine wf_ro rfl (fun w hS => ro_fieldAddr (k := 2) rfl fo_93_2) ?_
    refine wf_ro rfl (fun w hS => ro_loadB rfl sc_56 (hS.1) (rfl)) ?_
    refine wf_ro rfl (fun w hS => ro_move rfl) ?_
    refine wf_ro rfl (fun w hS => ro_indexAddr (et := 9) (k := 1) rfl rfl se_56 rfl (by omega)) ?_
    refine wf_ro rfl (fun w hS => ro_loadB rfl sc_9 (hS.2) ((rw_get stc_len (tF_get (T := T) (c := x) (by omega)) (j := 0) (by omega) rfl))) ?_
    refine wf_ro rfl (fun w hS => ro_move rfl) ?_
    refine wf_ro rfl (fun w hS => ro_nilCheck rfl) ?_
    refine wf_ro rfl (fun w hS => ro_fieldAddr (k := 3) rfl fo_93_3) ?_
    refine wf_ro rfl (fun w hS => ro_loadB rfl sc_86 (hS.1) (rfl)) ?_
    refine wf_cx (R := (fun v u => v = .tuple #[vlA (cellV (tF T x) (envF SL')), icv 0] ∧ EvR u C.E C.X ∧ Fram (rng lo C.G.g) u5 u)) (G := rng lo C.G.g) rfl rfl rfl rfl rfl rfl rfl (by decide) (by decide) rfl (fun _ => rfl) en_118 ze_104 sz_104 rfl ((fun wA F1 => (Cell118 hb1 (hev.far hb1 ((Fram.drew none' u5 _).trans F1) (fun _ _ _ h => h)) hraw (by have h1 := F1.size; have h2 : u5.heap.size ≤ wA.heap.size := h1; omega) (by omega) (((Fram.drew none' u5 _).trans F1).blkN hV) hsl' hlw').mono (fun v u hh => ⟨⟨hh.1, hh.2.1, (((Fram.drew none' u5 _).trans F1).mono (fun _ _ h => h.elim)).trans hh.2.2⟩, hh.2.2⟩))) ((fun v u u' hh F => ⟨hh.1, hh.2.1.far hb1 F (fun _ _ _ h => h), hh.2.2.thenN F⟩)) ((fun b hg => by have h1 := hg.2; show b < u5.heap.size; omega)) ((fun v u hh => ⟨vlc (cellV (tF T x) (envF SL')), hh.1, rfl, vlc_cells _⟩)) ((fun u F => ⟨F.blkN (w := { u5 with drawn := u5.drawn + 1 }) hK, F.blkN (w := { u5 with drawn := u5.drawn + 1 }) hR⟩)) ((fun v u hh => ⟨hh.2.2.blkF hK (fun hg => absurd hg.2 (by omega)), hh.2.2.blkF hR (fun hg => absurd hg.2 (by omega))⟩)) ((fun v u b u' hh hbw F => ⟨F.blkO (hh.2.2.blkF hK (fun hg => absurd hg.2 (by omega))) (by have h1 : u5.heap.size ≤ b := hbw; omega), F.blkO (hh.2.2.blkF hR (fun hg => absurd hg.2 (by omega))) (by have h1 : u5.heap.size ≤ b := hbw; omega)⟩)) ((fun v u hh => hh.2.2.size)) ?_
    intro cs uA b11 uB hR9 hcl hbw h50 h11 F5
    have hcs := pair_inj hR9.1
    subst hcs
    replace hbw : u5.heap.size ≤ b11 := hbw
    replace hev := hR9.2.1.far hb1 F5 (fun b q1 q2 hh => absurd (show b = b11 from hh) (by omega))
    have G9 := hR9.2.2
    replace hF := hF.transG G9 (by intro k hk h; simp only [one, none', rng, swf] at h ⊢ <;> omega)
    replace hK := G9.blkF hK (by intro h; simp only [one, none', rng, swf] at h <;> omega)
    replace hR := G9.blkF hR (by intro h; simp only [one, none', rng, swf] at h <;> omega)
    replace hV := G9.blkF hV (by intro h; simp only [one, none', rng, swf] at h <;> omega)
    replace hA := G9.blkF hA (by intro h; simp only [one, none', rng, swf] at h <;> omega)
    replace hQ := G9.blkF hQ (by intro h; simp only [one, none', rng, swf] at h <;> omega)
    replace h7 := G9.blkF h7 (by intro h; simp only [one, none', rng, swf] at h <;> omega)
    replace hLs := G9.blkF hLs (by intro h; simp only [one, none', rng, swf] at h <;> omega)
    replace hF := hF.transG F5 (by intro k hk h; simp only [one, none', rng, swf] at h ⊢ <;> omega)
    replace hK := F5.blkF hK (by intro h; simp only [one, none', rng, swf] at h <;> omega)
    replace hR := F5.blkF hR (by intro h; simp only [one, none', rng, swf] at h <;> omega)
    replace hV := F5.blkF hV (by intro h; simp only [one, none', rng, swf] at h <;> omega)
    replace hA := F5.blkF hA (by intro h; simp only [one, none', rng, swf] at h <;> omega)
    replace hQ := F5.blkF hQ (by intro h; simp only [one, none', rng, swf] at h <;> omega)
    replace h7 := F5.blkF h7 (by intro h; simp only [one, none', rng, swf] at h <;> omega)
    replace hLs := F5.blkF hLs (by intro h; simp only [one, none', rng, swf] at h <;> omega)
    have hb11 := h11.lt
    refine x_then (hK11 _ _ ?_)
    clear hK11 K11
    refine forget [(0, _), (1, _), (2, _), (6, _), (7, _), (8, _), (9, _), (11, _)] ⟨rfl, rfl, rfl, rfl, rfl, rfl, rfl, rfl, trivial⟩ (fun e => ?_)
    refine c_seq (fun K12 hK12 => ?_)
    refine c_pi [(0, false), (1, false), (2, false), (3, false), (4, false), (5, false), (6, false), (7, false), (8, false)] (SameH _) mixed (by kernel_rfl) rfl (by kernel_rfl) (po_then (po_blk (po_then (po_then (po_blk (po_bp)))))) (sameH_now _ _) ?_ -- region 10 sweep.go:29
    refine pi_ro rfl (fun w hS => ro_loadAggB rfl ag_104 (Blk.of_heap h11 hS) ((vlc_len _)) (rfl)) ?_
    refine pi_ro rfl (fun w hS => ro_move rfl) ?_
    refine pi_ro rfl (fun w hS => ro_nilCheck rfl) ?_
    refine pi_ro rfl (fun w hS => ro_fieldAddr (k := 3) rfl fo_93_3) ?_
    refine pi_ro rfl (fun w hS => ro_loadB rfl sc_86 (Blk.of_heap (by assumption) hS) rfl) ?_
    refine pi_ro rfl (fun w hS => ro_move rfl) ?_
    refine pi_ro rfl (fun w hS => ro_indexAddr (et := 104) (k := 3) rfl rfl se_86 rfl (by omega)) ?_
    refine pi_ro rfl (fun w hS => ro_loadAggB rfl ag_104 (Blk.of_heap hV hS) ((vlc_len _)) ((rw_agg vlc_len (env_get (EL := SL') (c := x) (by omega)) (by omega)))) ?_
    refine pi_ro rfl (fun w hS => ro_eqSt3 (r := !decide ((cellV (tF T x) (envF SL')).k = (envF SL' x).k ∧ (cellV (tF T x) (envF SL')).n = (envF SL' x).n ∧ (cellV (tF T x) (envF SL')).s = (envF SL' x).s)) rfl rfl st3_104 in_3 in_3 st_9 eg_104 rfl) ?_
    refine pi_nil (x_then (hK12 _ _ ?_))
    clear hK12 K12
    refine wc_cond rfl (fun hc76 => ?_) (fun hc76 => ?_)
    · try simp only [decide_eq_true_eq, decide_eq_false_iff_not, Bool.not_eq_true', Bool.not_eq_false', Bool.not_eq_eq_eq_not, Bool.not_true, Bool.not_false, beq_iff_eq, bne_iff_ne, ne_eq, beq_eq_false_iff_ne, bne_eq_false_iff_eq, gt_iff_lt, ge_iff_le, Int.not_lt, Int.not_le] at hc76
      replace hev := hdr (k := uB.drawn + 1) hev
      replace hF := hF.thenDrew (k := uB.drawn + 1)
      have hclw : Lw (cellV (tF T x) (envF SL')) := cellV_lw hraw (env_lw hlw')
      have hset : ∀ y, envF (SL'.set x (cellV (tF T x) (envF SL'))) y = if y = x then cellV (tF T x) (envF SL') else envF SL' y := fun y => env_set (by omega)
      refine c_seq (fun K13 hK13 => ?_)
      refine c_piL 7 [(0, false), (1, false), (2, false), (3, false), (4, false), (5, false), (6, false)] (SameH _) mixed (by kernel_rfl) rfl (by kernel_rfl) (po_then (po_blk (po_then (po_then (po_blk (po_bp)))))) (sameH_now _ _) ?_ -- region 11 sweep.go:30
      refine ql_ro rfl (fun w hS => ro_move rfl) ?_
      refine ql_ro rfl (fun w hS => ro_nilCheck rfl) ?_
      refine ql_ro rfl (fun w hS => ro_fieldAddr (k := 3) rfl fo_93_3) ?_
      refine ql_ro rfl (fun w hS => ro_loadB rfl sc_86 (Blk.of_heap (by assumption) hS) rfl) ?_
      refine ql_ro rfl (fun w hS => ro_move rfl) ?_
      refine ql_ro rfl (fun w hS => ro_loadAggB rfl ag_104 (Blk.of_heap h11 hS) ((vlc_len _)) (rfl)) ?_
      refine ql_ro rfl (fun w hS => ro_indexAddr (et := 104) (k := 3) rfl rfl se_86 rfl (by omega)) ?_
      refine ql_puta rfl rfl rfl ((vlc_cells _)) sz_104 (rfl) hV ((rw_fit vlc_len (i := x) (j := 0) (m := 3) (by omega) (by omega) (by omega))) ((rw_puta vlc_len (i := x) (x' := cellV (tF T x) (envF SL')) (by omega) (by omega))) (fun w3 hV F3 => ?_)
      replace hF := hF.thenDrew.thenO F3 (by first | exact .inr (by omega) | exact .inl rfl | exact .inl (by assumption))
      replace hK := F3.blkO hK (by omega)
      replace hR := F3.blkO hR (by omega)
      replace hA := F3.blkO hA (by omega)
      replace hQ := F3.blkO hQ (by omega)
      replace h7 := F3.blkO h7 (by omega)
      replace hLs := F3.blkO hLs (by omega)
      replace h11 := F3.blkO h11 (by omega)
      replace hev := (hdr (k := uB.drawn + 1 + 1) hev).far hb1 F3 (fun b q1 q2 hh ↦ absurd (show b = C.s from hh) (by omega))
      refine x_then (hK13 _ _ ?_)
      clear hK13 K13
      refine forget [(0, _), (1, _), (2, _), (6, _), (7, _), (8, _), (9, _)] ⟨rfl, rfl, rfl, rfl, rfl, rfl, rfl, trivial⟩ (fun e => ?_)
      refine c_seq (fun K14 hK14 => ?_)
      refine c_reg ?_ -- region 12 sweep.go:31
      refine wl (ro_move rfl) ?_
      refine wl_call rfl en_66 (Bit66 hx24) ?_
      rintro _ _ ⟨rfl, rfl⟩
      have hbx := bit_lt hx24
      refine wl (ro_assign rfl) ?_
      refine wl_nil (x_then (hK14 _ _ ?_))
      clear hK14 K14
      refine c_reg ?_ -- region 13 sweep.go:32
      refine wl (ro_move rfl) ?_
      refine wl (ro_move rfl) ?_
      refine wl (ro_or32 rfl rfl (by omega) (by omega)) ?_
      refine wl (ro_assign rfl) ?_
      refine wl_nil (x_blk (x_then (hK6 _ _ ?_)))
      clear hK6 K6
      refine c_reg ?_ -- region 4 sweep.go:20
      refine wl (ro_move rfl) ?_
      refine wl (ro_arith (r := ((i + 1 : Nat) : Int)) rfl rfl rfl (Go.IntWalk.i64_in _ (by omega))) ?_
      refine wl (ro_assign rfl) ?_
      refine wl_nil (x_then ?_)
      refine ⟨l.length - (i + 1), by omega, i + 1, SL'.set x (cellV (tF T x) (envF SL')), turned ||| 2 ^ x, rfl, by omega, ?_, by rw [List.length_set]; exact hsl', set_all hlw' hclw, hev, ⟨by rw [rws_len onc_len], .inr ⟨g, cap, lc, rfl, hLs, hg3, hg4, hg5, hg6⟩⟩, hK, hR, hV, hA, hQ, h7, hF, kp _ ⟨rfl, rfl, rfl, rfl, rfl, rfl, trivial⟩⟩
      rw [htx]
      refine hsw.turn sws.lv ho' ?_ (fun y hy hne => ?_) (or_lt hsw.tl hbx) (fun y hy hne => ?_) (fun q => ?_)
      · rw [hset, if_pos rfl]
      · rw [hset, if_neg hne]
      · rw [Nat.testBit_or, bit_pow]; simp [hne]
      · rw [Nat.testBit_or, bit_pow] at q; simp at q
    · try simp only [decide_eq_true_eq, decide_eq_false_iff_not, Bool.not_eq_true', Bool.not_eq_false', Bool.not_eq_eq_eq_not, Bool.not_true, Bool.not_false, beq_iff_eq, bne_iff_ne, ne_eq, beq_eq_false_iff_ne, bne_eq_false_iff_eq, gt_iff_lt, ge_iff_le, Int.not_lt, Int.not_le] at hc76
      refine c_skip (x_blk (x_then (hK6 _ _ ?_)))
      clear hK6 K6
      refine c_reg ?_ -- region 4 sweep.go:20
      refine wl (ro_move rfl) ?_
      refine wl (ro_arith (r := ((i + 1 : Nat) : Int)) rfl rfl rfl (Go.IntWalk.i64_in _ (by omega))) ?_
      refine wl (ro_assign rfl) ?_
      refine wl_nil (x_then ?_)
      have heq : cellV (tF T x) (envF SL') = envF SL' x := vl_ext.1 hc76
      refine ⟨l.length - (i + 1), by omega, i + 1, SL', turned, rfl, by omega, ?_, hsl', hlw', hdr hev, ⟨by rw [rws_len onc_len], .inr ⟨g, cap, lc, rfl, hLs, hg3, hg4, hg5, hg6⟩⟩, hK, hR, hV, hA, hQ, h7, hF.thenDrew, kp _ ⟨rfl, rfl, rfl, rfl, rfl, rfl, trivial⟩⟩
      rw [htx]
      exact hsw.turn sws.lv ho' heq.symm (fun _ _ _ => rfl) hsw.tl (fun _ _ _ => rfl) (fun _ => rfl)
  · try simp only [decide_eq_true_eq, decide_eq_false_iff_not, Bool.not_eq_true', Bool.not_eq_false', Bool.not_eq_eq_eq_not, Bool.not_true, Bool.not_false, beq_iff_eq, bne_iff_ne, ne_eq, beq_eq_false_iff_ne, bne_eq_false_iff_eq, gt_iff_lt, ge_iff_le, Int.not_lt, Int.not_le] at hc18
    refine c_exit (x_thenX (x_thenX (x_blkX ?_)))
    refine bp_end Tryz.results93 rfl ?_
    have hil : i = l.length := by omega
    subst hil
    rw [List.take_length, List.drop_length] at hsw
    exact ⟨⟨SL', turned, hsl', hlw', hV, hev, hsw⟩, hF⟩

end Go.Proofs.Qxb6500570aGreat
