import Derived.Test.Qxb6500568aGreatDoorYo
/- The interpreter: eval. -/
namespace Go.Proofs.Qxb6500568aGreatDoor
open Ieee
set_option linter.unusedVariables false
set_option linter.unusedSimpArgs false
set_option linter.unusedSectionVars false

theorem pair_cs {cs l : List Value} {a b : Value} (h : Value.tuple #[.agg cs.toArray, a] = .tuple #[.agg l.toArray, b]) : cs = l := by
  injection h with h
  have := congrArg (fun x => x[0]?) h
  simp at this
  exact this
section
variable {G : Arena} {root : Nat} {np : Value} {tb rb : Nat} {nv : Value} {w w' w1 u1 u2 : World} {ow : Nat → Nat} {β τ : List Nat} {m : Nat} {s : IS} {cv v' : Value}
/-- a closure more. -/
theorem RM.cls (h : RM G root np tb rb nv w ow β τ m s) {hv a0 a1 a2 a3 a4 : Value} (hX : Blk w.heap rb (rnc np tb nv root cv hv a0 a1 a2 a3 a4 s) 112) {c : Nat × Nat} (hF : Fram none' w w1) (hon : Own u1.heap v' 122 2 (s.clos.length + 1) (rws (clc β) s.clos ++ clc β c)) (G1 : Fram (own1 cv) w1 u1) (hnb : nob cv v' w1)
    (f : Fram (one rb) u1 u2) (hB : Blk u2.heap rb (rnc np tb nv root v' hv a0 a1 a2 a3 a4 s) 112) (hce : c.2 ≤ s.envs.length) : RP G root np tb rb nv w ow β τ m { s with clos := s.clos ++ [c] } u2 := by
  obtain ⟨cv', hv', a0', a1', a2', a3', a4', h1, h2, h3, h4⟩ := h.r
  have hu := (Blk.uniq h1 hX).1
  unfold rnc at hu
  simp only [List.cons.injEq, true_and, and_true] at hu
  obtain ⟨rfl, rfl, rfl, rfl, rfl, rfl, rfl⟩ := hu
  have hw1 := hF.size
  have hu1 := G1.size
  have hu2 := f.size
  have hbl := h1.lt
  have hf : Fram (tg ow (fun t => t = 70 ∨ t = 71)) w u2 := ((hF.wide (G := tg ow (fun t => t = 70 ∨ t = 71))).trans' G1 (fun c hc q => .inr (h2.t c q))).trans' f (fun c _ q => by have q : c = rb := q; show ow c = 70 ∨ _; rw [q]; exact .inl h.t70)
  have hE : Xt w ow (cut66 u2 (nw ow w1.heap.size 71)) := fun c hc => by rw [cut66_xt _ _ c (by omega)]; exact nw_old (by omega)
  have hbne : ∀ c, c = rb → nw ow w1.heap.size 71 c = 70 := fun c q => by rw [q, nw_old (by omega)]; exact h.t70
  have hn : ∀ {c t : Nat}, ow c = t → t ≠ 70 → t ≠ 71 → ¬ tg ow (fun t => t = 70 ∨ t = 71) c := fun {c t} e q1 q2 z => by
    have z : ow c = 70 ∨ ow c = 71 := z
    omega
  refine ⟨cut66 u2 (nw ow w1.heap.size 71), hE, hf.mono (fun b _ q => by have q : ow b = 70 ∨ ow b = 71 := q; show cmT (ow b); unfold cmT; omega), ⟨⟨v', hv', a0', a1', a2', a3', a4', hB, ?_, h3.far hf (fun b q l => hn q (by omega) (by omega)) hE, h4⟩, by rw [hE _ hbl]; exact h.t70, fun i x hx => ?_, h.tl, h.t5, fun k z hz => ?_, h.el, h.up, h.te, fun z hz => ?_, h.M.far hf (fun b q l => hn rfl (by unfold mtag at q; omega) (by unfold mtag at q; omega)) hE, ?_, cut66_df _ _, h.cl, h.sk, h.bd, h.fu⟩⟩
  · have k1 := (h2.far hF (fun _ _ _ q => q) (Xt.refl _ _)).grow hon hnb hu1
    have k2 := (k1.far f (fun c q _ z => by rw [hbne c z] at q; omega) (Xt.refl _ _)).cut
    show OwT u2 _ 71 v' 122 2 (s.clos ++ [c]).length (rws (clc β) (s.clos ++ [c]))
    rw [List.length_append, rws_app, rws_one]
    exact k2
  · obtain ⟨b, tv, vv, q1, q2⟩ := h.T i x hx
    exact ⟨b, tv, vv, q1, q2.far hf (fun b q l => hn rfl (by unfold thT at q; omega) (by unfold thT at q; omega)) hE⟩
  · obtain ⟨b, q1, q2, q3⟩ := h.E k z hz
    exact ⟨b, q1, q2.fram hf (hn q3 (by omega) (by omega)), by rw [hE b q2.lt]; exact q3⟩
  · rcases List.mem_append.1 hz with hz | hz
    · exact h.ce z hz
    · rw [List.mem_singleton] at hz; subst hz; exact hce
  · obtain ⟨Gp, q1, q2⟩ := h.N
    exact ⟨Gp, q1.far hf (fun b q l => hn q (by omega) (by omega)) hE, q2⟩
theorem RM.var {e : Nat} (h : RM G root np tb rb nv w ow β τ m s) (h0 : e ≠ 0) (he : e ≤ s.envs.length) : ∃ b z, epo β e = some ⟨b, 0, none⟩ ∧ Blk w.heap b (evc β z) 159 ∧ s.envs[e - 1]? = some z ∧ ow b = 1000 + (e - 1) := by
  obtain ⟨z, hz⟩ : ∃ z, s.envs[e - 1]? = some z := ⟨_, List.getElem?_eq_getElem (by omega)⟩
  obtain ⟨b, h1, h2, h3⟩ := h.E (e - 1) z hz
  have := epo_pos h1
  rw [show e - 1 + 1 = e by omega] at this
  exact ⟨b, z, this, h2, hz, h3⟩
end
/-- what an expression's evaluation needs. -/
structure EvP (G : Arena) (n : Nat) (s : IS) : Prop where
  l : n < G.length
  k : n ≠ 0 → 12 ≤ (nd G n).K ∧ (nd G n).K ≤ 25
  z : (nd G n).K = 19 → ∃ zs, IsEL G (nd G n).B zs
  w : W64 (nd G n).N
  sl : (nd G n).S.length ≤ 40
  t : 0 < s.tabs.length
set_option maxHeartbeats 16000000 in
theorem eval57 {G : Arena} {root : Nat} {np : Value} {tb rb : Nat} {nv : Value} {w : World} {ow : Nat → Nat} {β τ : List Nat} {m : Nat} {s : IS} (hR : RM G root np tb rb nv w ow β τ m s) {n x ev : Nat} {o : Option Addr} (he : EP β ev o) (hE : EvP G n s) (hc24 : s.clos.length ≤ 24) (hm : m ≤ 19980) :
    Ret Tryz.prog 57 [ptr rb, i64c n, i64c x, .pointer o] w (fun r w' => r = .tuple #[] ∧ RP G root np tb rb nv w ow β τ (m + 6) (ieval G n x ev s) w') := by
  have hF : Fram (tg ow cmT) w w := Fram.refl _ _
  have hX : Xt w ow ow := Xt.refl _ _
  have hG : 0 < G.length := by have := hE.l; omega
  obtain ⟨gn, capn, ln, rfl, hN, khN, hcapn, hrow⟩ := hR.nodes hG
  obtain ⟨pn, hpn⟩ := hrow n hE.l
  have hEn := hE.l
  have h12 := hR.M.len
  have hel := he.2
  have heo := he.1
  subst heo
  have hfl : s.find ev (nd G n).S ≤ s.envs.length := by
    have := find_le hR.up (s.envs.length + 1) ev (nm := (nd G n).S)
    have h2 := hR.el
    show findE _ _ _ _ ≤ _
    omega
  unfold ieval
  dsimp only
  refine ret_of Tryz.func57 rfl Tryz.ntmps57 rfl ?_
  refine c_seq (fun K1 hK1 => ?_)
  refine c_seq (fun K2 hK2 => ?_)
  refine c_reg ?_ -- region 0 compm.go:359
  refine wl (ro_move rfl) ?_
  refine wl (ro_cmp rfl rfl rfl) ?_
  refine wl_nil (x_then (hK2 _ _ ?_))
  clear hK2 K2
  refine wc_cond rfl (fun hc16 => ?_) (fun hc16 => ?_)
  · try simp only [decide_eq_true_eq, decide_eq_false_iff_not, Bool.not_eq_true', Bool.not_eq_false', Bool.not_eq_eq_eq_not, Bool.not_true, Bool.not_false, beq_iff_eq, bne_iff_ne, ne_eq, beq_eq_false_iff_ne, bne_eq_false_iff_eq, gt_iff_lt, ge_iff_le, Int.not_lt, Int.not_le] at hc16
    refine c_seq (fun K3 hK3 => ?_)
    refine c_seq (fun K4 hK4 => ?_)
    refine c_reg ?_ -- region 1 compm.go:360
    refine wl (ro_move rfl) ?_
    refine wl (ro_cmp rfl rfl rfl) ?_
    refine wl_nil (x_then (hK4 _ _ ?_))
    clear hK4 K4
    refine wc_cond rfl (fun hc18 => ?_) (fun hc18 => ?_)
    · try simp only [decide_eq_true_eq, decide_eq_false_iff_not, Bool.not_eq_true', Bool.not_eq_false', Bool.not_eq_eq_eq_not, Bool.not_true, Bool.not_false, beq_iff_eq, bne_iff_ne, ne_eq, beq_eq_false_iff_ne, bne_eq_false_iff_eq, gt_iff_lt, ge_iff_le, Int.not_lt, Int.not_le] at hc18
      refine c_seq (fun K5 hK5 => ?_)
      obtain ⟨cv, hv_, a0, a1, a2, a3, a4, hXr, hq2, hq3, hq4⟩ := hR.r
      unfold rnc at hXr
      have hk70 := hR.t70
      refine c_reg ?_ -- region 2 compm.go:361
      refine wl (ro_move rfl) ?_
      refine wl (ro_nilCheck rfl) ?_
      refine wl (ro_fieldAddr (k := 0) rfl fo_112_0) ?_
      refine wl (ro_loadB rfl sc_46 (by assumption) rfl) ?_
      refine wl_call rfl en_70 (FromInt70 (i := 1) (by decide)) ?_
      rintro _ u0 ⟨rfl, hw0⟩
      rw [hw0]
      clear hw0 u0
      refine wl (ro_assign rfl) ?_
      refine wl_nil (x_then (hK5 _ _ ?_))
      clear hK5 K5
      refine c_reg ?_ -- region 3 compm.go:362
      refine wl (ro_move rfl) ?_
      refine wl (ro_move rfl) ?_
      refine wl (ro_build rfl bld_119_0_1) ?_
      refine wl_call rfl en_67 (push67 (v := vNum (fInt 1)) hR.dr (by omega)) ?_
      rintro _ u1 ⟨rfl, ow1, x1, f1, r1⟩
      obtain ⟨hN, khN⟩ := cm_loc x1 f1 hN khN
      have hs1 := hF.size
      replace hF := cm_trans hX hF f1
      replace hX := hX.trans hs1 x1
      replace hR := r1
      refine wl_nil (x_then (hK3 _ _ ?_))
      clear hK3 K3
      refine c_ret (x_thenR ?_)
      refine bp_ret Tryz.results57 rfl ?_
      refine ⟨rfl, _, hX, hF, ?_⟩
      try dsimp only at *
      first
      | (exfalso; omega)
      | (repeat (first | rw [if_pos (by omega)] | rw [if_neg (by omega)])
         try rw [hvr]
         exact hR.le (by omega))
    · try simp only [decide_eq_true_eq, decide_eq_false_iff_not, Bool.not_eq_true', Bool.not_eq_false', Bool.not_eq_eq_eq_not, Bool.not_true, Bool.not_false, beq_iff_eq, bne_iff_ne, ne_eq, beq_eq_false_iff_ne, bne_eq_false_iff_eq, gt_iff_lt, ge_iff_le, Int.not_lt, Int.not_le] at hc18
      refine c_reg ?_ -- region 4 compm.go:364
      refine wl (ro_move rfl) ?_
      refine wl (ro_build rfl bld_119) ?_
      refine wl_call rfl en_67 (push67 (v := vNil) hR.dr (by omega)) ?_
      rintro _ u2 ⟨rfl, ow2, x2, f2, r2⟩
      obtain ⟨hN, khN⟩ := cm_loc x2 f2 hN khN
      have hs2 := hF.size
      replace hF := cm_trans hX hF f2
      replace hX := hX.trans hs2 x2
      replace hR := r2
      refine wl_nil (x_then (hK3 _ _ ?_))
      clear hK3 K3
      refine c_ret (x_thenR ?_)
      refine bp_ret Tryz.results57 rfl ?_
      refine ⟨rfl, _, hX, hF, ?_⟩
      try dsimp only at *
      first
      | (exfalso; omega)
      | (repeat (first | rw [if_pos (by omega)] | rw [if_neg (by omega)])
         try rw [hvr]
         exact hR.le (by omega))
  · try simp only [decide_eq_true_eq, decide_eq_false_iff_not, Bool.not_eq_true', Bool.not_eq_false', Bool.not_eq_eq_eq_not, Bool.not_true, Bool.not_false, beq_iff_eq, bne_iff_ne, ne_eq, beq_eq_false_iff_ne, bne_eq_false_iff_eq, gt_iff_lt, ge_iff_le, Int.not_lt, Int.not_le] at hc16
    refine c_skip (x_then (hK1 _ _ ?_))
    clear hK1 K1
    refine forget [(0, _), (1, _), (3, _)] ⟨rfl, rfl, rfl, trivial⟩ (fun e => ?_)
    refine c_seq (fun K6 hK6 => ?_)
    obtain ⟨cv, hv_, a0, a1, a2, a3, a4, hXr, hq2, hq3, hq4⟩ := hR.r
    unfold rnc at hXr
    have hk70 := hR.t70
    refine c_reg ?_ -- region 5 compm.go:368
    refine wl (ro_move rfl) ?_
    refine wl (ro_nilCheck rfl) ?_
    refine wl (ro_fieldAddr (k := 2) rfl fo_112_2) ?_
    refine wl (ro_loadB rfl sc_77 (by assumption) rfl) ?_
    refine wl (ro_move rfl) ?_
    refine wl (ro_indexAddr (et := 148) (k := 8) rfl rfl se_77 rfl (by omega)) ?_
    refine wl (ro_loadAggB rfl ag_148 (hN) (rfl) (hpn)) ?_
    refine wl_new (ze_148) (fun b9 w3 hbb9 h9 F3 => ?_)
    have hbsb9 := Nat.le_trans hF.size hbb9
    have hnegnb9 : gn < b9 := Nat.lt_of_lt_of_le hN.lt hbb9
    have hnerbb9 : rb < b9 := Nat.lt_of_lt_of_le hXr.lt hbb9
    have kh9 := hR.df b9 hbb9
    replace hF := hF.thenDrew.thenN F3
    replace hR := hR.thruN ((Fram.refl none' _).thenDrew.thenN F3)
    replace hN := F3.blkN hN
    replace hXr := F3.blkN hXr
    refine wl_puta rfl rfl ((ndc_one _)) sz_148 (rfl) h9 ((by simp)) (rfl) (fun w4 h9 F4 => ?_)
    replace hF := hF.thenDrew.thenO F4 (by first | exact .inr (by omega) | exact .inl rfl | exact .inl (by assumption) | assumption)
    replace hR := hR.hbput ((Fram.refl (one b9) _).thenDrew.thenO F4 (.inl rfl))
    replace hN := F4.blkO hN (by first | omega | exact ow_ne (by assumption) (by assumption) (by omega))
    replace hXr := F4.blkO hXr (by first | omega | exact ow_ne (by assumption) (by assumption) (by omega))
    have hkr := hE.k (by omega)
    refine wl_nil (x_then (hK6 _ _ ?_))
    clear hK6 K6
    refine forget [(0, _), (1, _), (3, _), (9, _)] ⟨rfl, rfl, rfl, rfl, trivial⟩ (fun e => ?_)
    refine c_seq (fun K7 hK7 => ?_)
    refine c_reg ?_ -- region 6 compm.go:369
    refine wl (ro_fieldAddr (k := 0) rfl fo_148_0) ?_
    refine wl (ro_loadB rfl sc_3 (by assumption) rfl) ?_
    refine wl_nil (x_then (hK7 _ _ ?_))
    clear hK7 K7
    refine c_block ?_
    refine forget [(0, _), (1, _), (3, _), (9, _), (39, _)] ⟨rfl, rfl, rfl, rfl, rfl, trivial⟩ (fun e => ?_)
    refine c_seq (fun K8 hK8 => ?_)
    refine c_reg ?_ -- region 7 compm.go:370
    refine wl (ro_cmp rfl rfl rfl) ?_
    refine wl (ro_assign rfl) ?_
    refine wl_nil (x_then (hK8 _ _ ?_))
    clear hK8 K8
    refine wc_cond rfl (fun hc40 => ?_) (fun hc40 => ?_)
    · try simp only [decide_eq_true_eq, decide_eq_false_iff_not, Bool.not_eq_true', Bool.not_eq_false', Bool.not_eq_eq_eq_not, Bool.not_true, Bool.not_false, beq_iff_eq, bne_iff_ne, ne_eq, beq_eq_false_iff_ne, bne_eq_false_iff_eq, gt_iff_lt, ge_iff_le, Int.not_lt, Int.not_le] at hc40
      refine c_reg ?_ -- region 8 compm.go:371
      refine wl (ro_move rfl) ?_
      refine wl (ro_build rfl bld_119) ?_
      refine wl_call rfl en_67 (push67 (v := vNil) hR.dr (by omega)) ?_
      rintro _ u5 ⟨rfl, ow5, x5, f5, r5⟩
      obtain ⟨hN, khN⟩ := cm_loc x5 f5 hN khN
      obtain ⟨h9, kh9⟩ := cm_loc x5 f5 h9 kh9
      have hs5 := hF.size
      replace hF := cm_trans hX hF f5
      replace hX := hX.trans hs5 x5
      replace hR := r5
      refine wl_nil (x_blk ?_)
      refine bp_end Tryz.results57 rfl ?_
      refine ⟨rfl, _, hX, hF, ?_⟩
      try dsimp only at *
      first
      | (exfalso; omega)
      | (repeat (first | rw [if_pos (by omega)] | rw [if_neg (by omega)])
         try rw [hvr]
         exact hR.le (by omega))
    · try simp only [decide_eq_true_eq, decide_eq_false_iff_not, Bool.not_eq_true', Bool.not_eq_false', Bool.not_eq_eq_eq_not, Bool.not_true, Bool.not_false, beq_iff_eq, bne_iff_ne, ne_eq, beq_eq_false_iff_ne, bne_eq_false_iff_eq, gt_iff_lt, ge_iff_le, Int.not_lt, Int.not_le] at hc40
      refine c_seq (fun K9 hK9 => ?_)
      refine c_reg ?_ -- region 9 compm.go:372
      refine wl (ro_cmp rfl rfl rfl) ?_
      refine wl (ro_assign rfl) ?_
      refine wl_nil (x_then (hK9 _ _ ?_))
      clear hK9 K9
      refine wc_cond rfl (fun hc45 => ?_) (fun hc45 => ?_)
      · try simp only [decide_eq_true_eq, decide_eq_false_iff_not, Bool.not_eq_true', Bool.not_eq_false', Bool.not_eq_eq_eq_not, Bool.not_true, Bool.not_false, beq_iff_eq, bne_iff_ne, ne_eq, beq_eq_false_iff_ne, bne_eq_false_iff_eq, gt_iff_lt, ge_iff_le, Int.not_lt, Int.not_le] at hc45
        refine c_reg ?_ -- region 10 compm.go:373
        refine wl (ro_move rfl) ?_
        refine wl (ro_build rfl bld_119_0_1) ?_
        refine wl_call rfl en_67 (push67 (v := vBool true) hR.dr (by omega)) ?_
        rintro _ u6 ⟨rfl, ow6, x6, f6, r6⟩
        obtain ⟨hN, khN⟩ := cm_loc x6 f6 hN khN
        obtain ⟨h9, kh9⟩ := cm_loc x6 f6 h9 kh9
        have hs6 := hF.size
        replace hF := cm_trans hX hF f6
        replace hX := hX.trans hs6 x6
        replace hR := r6
        refine wl_nil (x_blk ?_)
        refine bp_end Tryz.results57 rfl ?_
        refine ⟨rfl, _, hX, hF, ?_⟩
        try dsimp only at *
        first
        | (exfalso; omega)
        | (repeat (first | rw [if_pos (by omega)] | rw [if_neg (by omega)])
           try rw [hvr]
           exact hR.le (by omega))
      · try simp only [decide_eq_true_eq, decide_eq_false_iff_not, Bool.not_eq_true', Bool.not_eq_false', Bool.not_eq_eq_eq_not, Bool.not_true, Bool.not_false, beq_iff_eq, bne_iff_ne, ne_eq, beq_eq_false_iff_ne, bne_eq_false_iff_eq, gt_iff_lt, ge_iff_le, Int.not_lt, Int.not_le] at hc45
        refine c_seq (fun K10 hK10 => ?_)
        refine c_reg ?_ -- region 11 compm.go:374
        refine wl (ro_cmp rfl rfl rfl) ?_
        refine wl (ro_assign rfl) ?_
        refine wl_nil (x_then (hK10 _ _ ?_))
        clear hK10 K10
        refine wc_cond rfl (fun hc50 => ?_) (fun hc50 => ?_)
        · try simp only [decide_eq_true_eq, decide_eq_false_iff_not, Bool.not_eq_true', Bool.not_eq_false', Bool.not_eq_eq_eq_not, Bool.not_true, Bool.not_false, beq_iff_eq, bne_iff_ne, ne_eq, beq_eq_false_iff_ne, bne_eq_false_iff_eq, gt_iff_lt, ge_iff_le, Int.not_lt, Int.not_le] at hc50
          refine c_reg ?_ -- region 12 compm.go:375
          refine wl (ro_move rfl) ?_
          refine wl (ro_build rfl bld_119_0) ?_
          refine wl_call rfl en_67 (push67 (v := vBool false) hR.dr (by omega)) ?_
          rintro _ u7 ⟨rfl, ow7, x7, f7, r7⟩
          obtain ⟨hN, khN⟩ := cm_loc x7 f7 hN khN
          obtain ⟨h9, kh9⟩ := cm_loc x7 f7 h9 kh9
          have hs7 := hF.size
          replace hF := cm_trans hX hF f7
          replace hX := hX.trans hs7 x7
          replace hR := r7
          refine wl_nil (x_blk ?_)
          refine bp_end Tryz.results57 rfl ?_
          refine ⟨rfl, _, hX, hF, ?_⟩
          try dsimp only at *
          first
          | (exfalso; omega)
          | (repeat (first | rw [if_pos (by omega)] | rw [if_neg (by omega)])
             try rw [hvr]
             exact hR.le (by omega))
        · try simp only [decide_eq_true_eq, decide_eq_false_iff_not, Bool.not_eq_true', Bool.not_eq_false', Bool.not_eq_eq_eq_not, Bool.not_true, Bool.not_false, beq_iff_eq, bne_iff_ne, ne_eq, beq_eq_false_iff_ne, bne_eq_false_iff_eq, gt_iff_lt, ge_iff_le, Int.not_lt, Int.not_le] at hc50
          refine c_seq (fun K11 hK11 => ?_)
          refine c_reg ?_ -- region 13 compm.go:376
          refine wl (ro_cmp rfl rfl rfl) ?_
          refine wl (ro_assign rfl) ?_
          refine wl_nil (x_then (hK11 _ _ ?_))
          clear hK11 K11
          refine wc_cond rfl (fun hc55 => ?_) (fun hc55 => ?_)
          · try simp only [decide_eq_true_eq, decide_eq_false_iff_not, Bool.not_eq_true', Bool.not_eq_false', Bool.not_eq_eq_eq_not, Bool.not_true, Bool.not_false, beq_iff_eq, bne_iff_ne, ne_eq, beq_eq_false_iff_ne, bne_eq_false_iff_eq, gt_iff_lt, ge_iff_le, Int.not_lt, Int.not_le] at hc55
            refine c_reg ?_ -- region 14 compm.go:377
            refine wl (ro_move rfl) ?_
            refine wl (ro_fieldAddr (k := 5) rfl fo_148_5) ?_
            refine wl (ro_loadB rfl sc_117 (by assumption) rfl) ?_
            refine wl (ro_build rfl bld_119_0_1) ?_
            refine wl_call rfl en_67 (push67 (v := vNum (nd G n).N) hR.dr (by omega)) ?_
            rintro _ u8 ⟨rfl, ow8, x8, f8, r8⟩
            obtain ⟨hN, khN⟩ := cm_loc x8 f8 hN khN
            obtain ⟨h9, kh9⟩ := cm_loc x8 f8 h9 kh9
            have hs8 := hF.size
            replace hF := cm_trans hX hF f8
            replace hX := hX.trans hs8 x8
            replace hR := r8
            refine wl_nil (x_blk ?_)
            refine bp_end Tryz.results57 rfl ?_
            refine ⟨rfl, _, hX, hF, ?_⟩
            try dsimp only at *
            first
            | (exfalso; omega)
            | (repeat (first | rw [if_pos (by omega)] | rw [if_neg (by omega)])
               try rw [hvr]
               exact hR.le (by omega))
          · try simp only [decide_eq_true_eq, decide_eq_false_iff_not, Bool.not_eq_true', Bool.not_eq_false', Bool.not_eq_eq_eq_not, Bool.not_true, Bool.not_false, beq_iff_eq, bne_iff_ne, ne_eq, beq_eq_false_iff_ne, bne_eq_false_iff_eq, gt_iff_lt, ge_iff_le, Int.not_lt, Int.not_le] at hc55
            refine c_seq (fun K12 hK12 => ?_)
            refine c_reg ?_ -- region 15 compm.go:378
            refine wl (ro_cmp rfl rfl rfl) ?_
            refine wl (ro_assign rfl) ?_
            refine wl_nil (x_then (hK12 _ _ ?_))
            clear hK12 K12
            refine wc_cond rfl (fun hc62 => ?_) (fun hc62 => ?_)
            · try simp only [decide_eq_true_eq, decide_eq_false_iff_not, Bool.not_eq_true', Bool.not_eq_false', Bool.not_eq_eq_eq_not, Bool.not_true, Bool.not_false, beq_iff_eq, bne_iff_ne, ne_eq, beq_eq_false_iff_ne, bne_eq_false_iff_eq, gt_iff_lt, ge_iff_le, Int.not_lt, Int.not_le] at hc62
              refine c_reg ?_ -- region 16 compm.go:379
              refine wl (ro_move rfl) ?_
              refine wl (ro_fieldAddr (k := 6) rfl fo_148_6) ?_
              refine wl (ro_loadB rfl sc_9 (by assumption) rfl) ?_
              refine wl_call rfl en_108 (pushStr108 (z := (nd G n).S) hR.dr (by omega)) ?_
              rintro _ u9 ⟨rfl, ow9, x9, f9, r9⟩
              obtain ⟨hN, khN⟩ := cm_loc x9 f9 hN khN
              obtain ⟨h9, kh9⟩ := cm_loc x9 f9 h9 kh9
              have hs9 := hF.size
              replace hF := cm_trans hX hF f9
              replace hX := hX.trans hs9 x9
              replace hR := r9
              refine wl_nil (x_blk ?_)
              refine bp_end Tryz.results57 rfl ?_
              refine ⟨rfl, _, hX, hF, ?_⟩
              try dsimp only at *
              first
              | (exfalso; omega)
              | (repeat (first | rw [if_pos (by omega)] | rw [if_neg (by omega)])
                 try rw [hvr]
                 exact hR.le (by omega))
            · try simp only [decide_eq_true_eq, decide_eq_false_iff_not, Bool.not_eq_true', Bool.not_eq_false', Bool.not_eq_eq_eq_not, Bool.not_true, Bool.not_false, beq_iff_eq, bne_iff_ne, ne_eq, beq_eq_false_iff_ne, bne_eq_false_iff_eq, gt_iff_lt, ge_iff_le, Int.not_lt, Int.not_le] at hc62
              refine c_seq (fun K13 hK13 => ?_)
              refine c_reg ?_ -- region 17 compm.go:380
              refine wl (ro_cmp rfl rfl rfl) ?_
              refine wl (ro_assign rfl) ?_
              refine wl_nil (x_then (hK13 _ _ ?_))
              clear hK13 K13
              refine wc_cond rfl (fun hc68 => ?_) (fun hc68 => ?_)
              · try simp only [decide_eq_true_eq, decide_eq_false_iff_not, Bool.not_eq_true', Bool.not_eq_false', Bool.not_eq_eq_eq_not, Bool.not_true, Bool.not_false, beq_iff_eq, bne_iff_ne, ne_eq, beq_eq_false_iff_ne, bne_eq_false_iff_eq, gt_iff_lt, ge_iff_le, Int.not_lt, Int.not_le] at hc68
                refine c_seq (fun K14 hK14 => ?_)
                refine c_reg ?_ -- region 18 compm.go:381
                refine wl (ro_move rfl) ?_
                refine wl (ro_fieldAddr (k := 6) rfl fo_148_6) ?_
                refine wl (ro_loadB rfl sc_9 (by assumption) rfl) ?_
                refine wl_call rfl en_60 (find60 (nm := (nd G n).S) hR he) ?_
                rintro _ u0 ⟨rfl, hw0⟩
                rw [hw0]
                clear hw0 u0
                refine wl (ro_assign rfl) ?_
                refine wl_nil (x_then (hK14 _ _ ?_))
                clear hK14 K14
                refine c_seq (fun K15 hK15 => ?_)
                refine c_seq (fun K16 hK16 => ?_)
                rcases Nat.eq_zero_or_pos (s.find ev (nd G n).S) with hf0 | hf0
                · skip
                  rw [hf0]
                  refine c_reg ?_ -- region 19 compm.go:382
                  refine wl (ro_move rfl) ?_
                  refine wl (ro_eqPtrNil rfl pt_120 rfl) ?_
                  refine wl_nil (x_then (hK16 _ _ ?_))
                  clear hK16 K16
                  refine wc_condF rfl ?_
                  refine c_skip (x_then (hK15 _ _ ?_))
                  clear hK15 K15
                  refine forget [(0, _), (9, _)] ⟨rfl, rfl, trivial⟩ (fun e => ?_)
                  refine c_seq (fun K17 hK17 => ?_)
                  refine c_piF 13 7 11 [0, 1, 2, 3, 4, 5, 6] [(8, false), (9, false), (10, false), (11, true), (12, true)] [(7, true), (8, false), (9, false), (10, false), (12, true)] (La gn _ _ (La b9 _ _ (Lz rb _ _ _))) mixed (by kernel_rfl) rfl rfl (by kernel_rfl) (po_then (po_blk (po_bp))) (⟨hN, h9, hR.rz⟩) ?_ -- region 21 compm.go:386
                  refine wf_ro rfl (fun w hS => ro_move rfl) ?_
                  refine wf_ro rfl (fun w hS => ro_nilCheck rfl) ?_
                  refine wf_ro rfl (fun w hS => ro_fieldAddr (k := 1) rfl fo_112_1) ?_
                  refine wf_ro rfl (fun w hS => let ⟨_, hc⟩ := hS.2.2; ro_loadB rfl sc_48 hc rfl) ?_
                  refine wf_ro rfl (fun w hS => ro_fieldAddr (k := 6) rfl fo_148_6) ?_
                  refine wf_ro rfl (fun w hS => ro_loadB rfl sc_9 (hS.2.1) rfl) ?_
                  refine wf_ro rfl (fun w hS => ro_build rfl bld_119_0_2) ?_
                  refine wf_cx (R := fun v u => v = .tuple #[pv (tGet (s.tabs.getD 0 []) (vStr (nd G n).S)), icv 0] ∧ Fram none' _ u) (G := none') rfl rfl rfl rfl rfl rfl rfl (by decide) (by decide) rfl (fun _ => rfl) en_74 ze_119 sz_119 rfl (fun w1 F => ((hR.dr.thruN F).get74 (n := 0) (k := vStr (nd G n).S) hE.t (by simp [wfV, vStr, hE.sl]) (by simp [vStr])).mono (fun v u h => ⟨⟨h.1, F.trans h.2⟩, h.2⟩)) (fun v u u9 h F => ⟨h.1, h.2.trans F⟩) (fun b h => h.elim) (fun v u h => ⟨pvc (tGet (s.tabs.getD 0 []) (vStr (nd G n).S)), h.1, rfl, pvc_one _⟩) (fun u F => ⟨F.blkN hN, F.blkN h9, (hR.dr.thruN F).rz⟩) (fun v u h => ⟨h.2.blkN hN, h.2.blkN h9, (hR.dr.thruN h.2).rz⟩) (fun v u b u9 h hb F => ⟨F.blkO (h.2.blkN hN) (fun q => by have h1 := hN.lt; subst q; exact absurd hb (by exact Nat.not_le.2 h1)), F.blkO (h.2.blkN h9) (fun q => by have h1 := h9.lt; subst q; exact absurd hb (by exact Nat.not_le.2 h1)), ((hR.dr.thruN h.2).hbput F (hR.df _ hb)).rz⟩) (fun v u h => h.2.size) ?_
                  intro cs w10 b11 w11 hR9 hcl hbb11 h0_ h11 F11
                  have hcs := pair_cs hR9.1
                  subst hcs
                  have F10 := hR9.2
                  have hbsb11 := Nat.le_trans hF.size hbb11
                  have hnegnb11 : gn < b11 := Nat.lt_of_lt_of_le hN.lt hbb11
                  have hnerbb11 : rb < b11 := Nat.lt_of_lt_of_le hXr.lt hbb11
                  have hneb9b11 : b9 < b11 := Nat.lt_of_lt_of_le h9.lt hbb11
                  have kh11 := hR.df b11 hbb11
                  replace hF := hF.thenDrew.thenN F10
                  replace hR := hR.thruN ((Fram.refl none' _).thenDrew.thenN F10)
                  replace hN := F10.blkN hN
                  replace hXr := F10.blkN hXr
                  replace h9 := F10.blkN h9
                  replace hF := hF.thenDrew.thenO F11 (by first | exact .inr (by omega) | exact .inl rfl | exact .inl (by assumption) | assumption)
                  replace hR := hR.hbput ((Fram.refl (one b11) _).thenDrew.thenO F11 (.inl rfl))
                  replace hN := F11.blkO hN (by first | omega | exact ow_ne (by assumption) (by assumption) (by omega))
                  replace hXr := F11.blkO hXr (by first | omega | exact ow_ne (by assumption) (by assumption) (by omega))
                  replace h9 := F11.blkO h9 (by first | omega | exact ow_ne (by assumption) (by assumption) (by omega))
                  refine x_then (hK17 _ _ ?_)
                  clear hK17 K17
                  refine c_reg ?_ -- region 22 compm.go:387
                  refine wl (ro_move rfl) ?_
                  refine wl (ro_loadAggB rfl ag_119 (by assumption) rfl rfl) ?_
                  refine wl_call rfl en_67 (push67 (v := tGet (s.tabs.getD 0 []) (vStr (nd G n).S)) hR.dr (by omega)) ?_
                  rintro _ u12 ⟨rfl, ow12, x12, f12, r12⟩
                  obtain ⟨hN, khN⟩ := cm_loc x12 f12 hN khN
                  obtain ⟨h9, kh9⟩ := cm_loc x12 f12 h9 kh9
                  obtain ⟨h11, kh11⟩ := cm_loc x12 f12 h11 kh11
                  have hs12 := hF.size
                  replace hF := cm_trans hX hF f12
                  replace hX := hX.trans hs12 x12
                  replace hR := r12
                  refine wl_nil (x_blk ?_)
                  refine bp_end Tryz.results57 rfl ?_
                  refine ⟨rfl, _, hX, hF, ?_⟩
                  try dsimp only at *
                  first
                  | (exfalso; omega)
                  | (repeat (first | rw [if_pos (by omega)] | rw [if_neg (by omega)])
                     try rw [hvr]
                     exact hR.le (by omega))
                · skip
                  obtain ⟨bE, zE, hpo, hV, hEz, hEt⟩ := hR.var (e := s.find ev (nd G n).S) (by omega) hfl
                  rw [hpo]
                  have hvr : s.var (s.find ev (nd G n).S) = zE.v := by unfold IS.var; rw [hEz]; rfl
                  refine c_reg ?_ -- region 19 compm.go:382
                  refine wl (ro_move rfl) ?_
                  refine wl (ro_eqPtrNil rfl pt_120 rfl) ?_
                  refine wl_nil (x_then (hK16 _ _ ?_))
                  clear hK16 K16
                  refine wc_condT rfl ?_
                  refine c_seq (fun K18 hK18 => ?_)
                  refine c_reg ?_ -- region 20 compm.go:383
                  refine wl (ro_move rfl) ?_
                  refine wl (ro_move rfl) ?_
                  refine wl (ro_nilCheck rfl) ?_
                  refine wl (ro_fieldAddr (k := 1) rfl fo_159_1) ?_
                  refine wl (ro_loadAggB rfl ag_119 (hV) (rfl) (rfl)) ?_
                  refine wl_call rfl en_67 (push67 (v := zE.v) hR.dr (by omega)) ?_
                  rintro _ u13 ⟨rfl, ow13, x13, f13, r13⟩
                  obtain ⟨hN, khN⟩ := cm_loc x13 f13 hN khN
                  obtain ⟨h9, kh9⟩ := cm_loc x13 f13 h9 kh9
                  have hs13 := hF.size
                  replace hF := cm_trans hX hF f13
                  replace hX := hX.trans hs13 x13
                  replace hR := r13
                  refine wl_nil (x_then (hK18 _ _ ?_))
                  clear hK18 K18
                  refine c_ret (x_thenR (x_blkR ?_))
                  refine bp_ret Tryz.results57 rfl ?_
                  refine ⟨rfl, _, hX, hF, ?_⟩
                  try dsimp only at *
                  first
                  | (exfalso; omega)
                  | (repeat (first | rw [if_pos (by omega)] | rw [if_neg (by omega)])
                     try rw [hvr]
                     exact hR.le (by omega))
              · try simp only [decide_eq_true_eq, decide_eq_false_iff_not, Bool.not_eq_true', Bool.not_eq_false', Bool.not_eq_eq_eq_not, Bool.not_true, Bool.not_false, beq_iff_eq, bne_iff_ne, ne_eq, beq_eq_false_iff_ne, bne_eq_false_iff_eq, gt_iff_lt, ge_iff_le, Int.not_lt, Int.not_le] at hc68
                refine c_seq (fun K19 hK19 => ?_)
                refine c_reg ?_ -- region 23 compm.go:388
                refine wl (ro_cmp rfl rfl rfl) ?_
                refine wl (ro_assign rfl) ?_
                refine wl_nil (x_then (hK19 _ _ ?_))
                clear hK19 K19
                refine wc_cond rfl (fun hc96 => ?_) (fun hc96 => ?_)
                · try simp only [decide_eq_true_eq, decide_eq_false_iff_not, Bool.not_eq_true', Bool.not_eq_false', Bool.not_eq_eq_eq_not, Bool.not_true, Bool.not_false, beq_iff_eq, bne_iff_ne, ne_eq, beq_eq_false_iff_ne, bne_eq_false_iff_eq, gt_iff_lt, ge_iff_le, Int.not_lt, Int.not_le] at hc96
                  refine c_seq (fun K20 hK20 => ?_)
                  refine c_reg ?_ -- region 24 compm.go:389
                  refine wl (ro_move rfl) ?_
                  refine wl_call rfl en_55 (do55 (k := 28) (n := 0) (x := 0) (e := 0) hR.dr (EP.nil _) (by omega)) ?_
                  rintro _ u14 ⟨rfl, ow14, x14, f14, r14⟩
                  obtain ⟨hN, khN⟩ := cm_loc x14 f14 hN khN
                  obtain ⟨h9, kh9⟩ := cm_loc x14 f14 h9 kh9
                  have hs14 := hF.size
                  replace hF := cm_trans hX hF f14
                  replace hX := hX.trans hs14 x14
                  replace hR := r14
                  refine wl_nil (x_then (hK20 _ _ ?_))
                  clear hK20 K20
                  refine forget [(0, _), (3, _), (9, _)] ⟨rfl, rfl, rfl, trivial⟩ (fun e => ?_)
                  refine c_seq (fun K21 hK21 => ?_)
                  refine c_reg ?_ -- region 25 compm.go:390
                  refine wl (ro_move rfl) ?_
                  refine wl (ro_fieldAddr (k := 2) rfl fo_148_2) ?_
                  refine wl (ro_loadB rfl sc_3 (by assumption) rfl) ?_
                  refine wl (ro_move rfl) ?_
                  refine wl_call rfl en_55 (do55 (k := 2) (n := (nd G n).B) (x := 0) hR.dr he (by omega)) ?_
                  rintro _ u15 ⟨rfl, ow15, x15, f15, r15⟩
                  obtain ⟨hN, khN⟩ := cm_loc x15 f15 hN khN
                  obtain ⟨h9, kh9⟩ := cm_loc x15 f15 h9 kh9
                  have hs15 := hF.size
                  replace hF := cm_trans hX hF f15
                  replace hX := hX.trans hs15 x15
                  replace hR := r15
                  refine wl_nil (x_then (hK21 _ _ ?_))
                  clear hK21 K21
                  refine c_reg ?_ -- region 26 compm.go:391
                  refine wl (ro_move rfl) ?_
                  refine wl (ro_fieldAddr (k := 1) rfl fo_148_1) ?_
                  refine wl (ro_loadB rfl sc_3 (by assumption) rfl) ?_
                  refine wl (ro_move rfl) ?_
                  refine wl_call rfl en_55 (do55 (k := 2) (n := (nd G n).A) (x := 0) hR.dr he (by omega)) ?_
                  rintro _ u16 ⟨rfl, ow16, x16, f16, r16⟩
                  obtain ⟨hN, khN⟩ := cm_loc x16 f16 hN khN
                  obtain ⟨h9, kh9⟩ := cm_loc x16 f16 h9 kh9
                  have hs16 := hF.size
                  replace hF := cm_trans hX hF f16
                  replace hX := hX.trans hs16 x16
                  replace hR := r16
                  refine wl_nil (x_blk ?_)
                  refine bp_end Tryz.results57 rfl ?_
                  refine ⟨rfl, _, hX, hF, ?_⟩
                  try dsimp only at *
                  first
                  | (exfalso; omega)
                  | (repeat (first | rw [if_pos (by omega)] | rw [if_neg (by omega)])
                     try rw [hvr]
                     exact hR.le (by omega))
                · try simp only [decide_eq_true_eq, decide_eq_false_iff_not, Bool.not_eq_true', Bool.not_eq_false', Bool.not_eq_eq_eq_not, Bool.not_true, Bool.not_false, beq_iff_eq, bne_iff_ne, ne_eq, beq_eq_false_iff_ne, bne_eq_false_iff_eq, gt_iff_lt, ge_iff_le, Int.not_lt, Int.not_le] at hc96
                  refine c_seq (fun K22 hK22 => ?_)
                  refine c_reg ?_ -- region 27 compm.go:392
                  refine wl (ro_cmp rfl rfl rfl) ?_
                  refine wl (ro_assign rfl) ?_
                  refine wl_nil (x_then (hK22 _ _ ?_))
                  clear hK22 K22
                  refine wc_cond rfl (fun hc110 => ?_) (fun hc110 => ?_)
                  · try simp only [decide_eq_true_eq, decide_eq_false_iff_not, Bool.not_eq_true', Bool.not_eq_false', Bool.not_eq_eq_eq_not, Bool.not_true, Bool.not_false, beq_iff_eq, bne_iff_ne, ne_eq, beq_eq_false_iff_ne, bne_eq_false_iff_eq, gt_iff_lt, ge_iff_le, Int.not_lt, Int.not_le] at hc110
                    obtain ⟨zs, hz⟩ := hE.z (by omega)
                    refine c_seq (fun K23 hK23 => ?_)
                    refine c_reg ?_ -- region 28 compm.go:393
                    refine wl (ro_move rfl) ?_
                    refine wl_call rfl en_55 (do55 (k := 5) (n := 0) (x := 0) (e := 0) hR.dr (EP.nil _) (by omega)) ?_
                    rintro _ u17 ⟨rfl, ow17, x17, f17, r17⟩
                    obtain ⟨hN, khN⟩ := cm_loc x17 f17 hN khN
                    obtain ⟨h9, kh9⟩ := cm_loc x17 f17 h9 kh9
                    have hs17 := hF.size
                    replace hF := cm_trans hX hF f17
                    replace hX := hX.trans hs17 x17
                    replace hR := r17
                    refine wl_nil (x_then (hK23 _ _ ?_))
                    clear hK23 K23
                    refine c_reg ?_ -- region 29 compm.go:394
                    refine wl (ro_move rfl) ?_
                    refine wl (ro_move rfl) ?_
                    refine wl (ro_move rfl) ?_
                    refine wl_call rfl en_107 (call107 hR.dr hG he hE.l hz (by omega)) ?_
                    rintro _ u18 ⟨rfl, ow18, x18, f18, r18⟩
                    obtain ⟨hN, khN⟩ := cm_loc x18 f18 hN khN
                    obtain ⟨h9, kh9⟩ := cm_loc x18 f18 h9 kh9
                    have hs18 := hF.size
                    replace hF := cm_trans hX hF f18
                    replace hX := hX.trans hs18 x18
                    replace hR := r18
                    refine wl_nil (x_blk ?_)
                    refine bp_end Tryz.results57 rfl ?_
                    refine ⟨rfl, _, hX, hF, ?_⟩
                    try dsimp only at *
                    first
                    | (exfalso; omega)
                    | (repeat (first | rw [if_pos (by omega)] | rw [if_neg (by omega)])
                       try rw [hvr]
                       exact hR.le (by omega))
                  · try simp only [decide_eq_true_eq, decide_eq_false_iff_not, Bool.not_eq_true', Bool.not_eq_false', Bool.not_eq_eq_eq_not, Bool.not_true, Bool.not_false, beq_iff_eq, bne_iff_ne, ne_eq, beq_eq_false_iff_ne, bne_eq_false_iff_eq, gt_iff_lt, ge_iff_le, Int.not_lt, Int.not_le] at hc110
                    refine c_seq (fun K24 hK24 => ?_)
                    refine c_reg ?_ -- region 30 compm.go:395
                    refine wl (ro_cmp rfl rfl rfl) ?_
                    refine wl (ro_assign rfl) ?_
                    refine wl_nil (x_then (hK24 _ _ ?_))
                    clear hK24 K24
                    refine wc_cond rfl (fun hc118 => ?_) (fun hc118 => ?_)
                    · try simp only [decide_eq_true_eq, decide_eq_false_iff_not, Bool.not_eq_true', Bool.not_eq_false', Bool.not_eq_eq_eq_not, Bool.not_true, Bool.not_false, beq_iff_eq, bne_iff_ne, ne_eq, beq_eq_false_iff_ne, bne_eq_false_iff_eq, gt_iff_lt, ge_iff_le, Int.not_lt, Int.not_le] at hc118
                      refine c_seq (fun K25 hK25 => ?_)
                      refine c_seq (fun K26 hK26 => ?_)
                      obtain ⟨cv, hv_, a0, a1, a2, a3, a4, hXr, hq2, hq3, hq4⟩ := hR.r
                      unfold rnc at hXr
                      have hk70 := hR.t70
                      obtain ⟨ca, cc, rfl⟩ := hq2.form
                      have hXr0 := hXr
                      refine c_reg ?_ -- region 31 compm.go:396
                      refine wl (ro_move rfl) ?_
                      refine wl (ro_nilCheck rfl) ?_
                      refine wl (ro_fieldAddr (k := 4) rfl fo_112_4) ?_
                      refine wl (ro_loadB rfl sc_108 (by assumption) rfl) ?_
                      refine wl (ro_lenL rfl se_108) ?_
                      refine wl (ro_cmp rfl rfl rfl) ?_
                      refine wl_nil (x_then (hK26 _ _ ?_))
                      clear hK26 K26
                      refine wc_cond rfl (fun hc125 => ?_) (fun hc125 => ?_)
                      · try simp only [decide_eq_true_eq, decide_eq_false_iff_not, Bool.not_eq_true', Bool.not_eq_false', Bool.not_eq_eq_eq_not, Bool.not_true, Bool.not_false, beq_iff_eq, bne_iff_ne, ne_eq, beq_eq_false_iff_ne, bne_eq_false_iff_eq, gt_iff_lt, ge_iff_le, Int.not_lt, Int.not_le] at hc125
                        refine c_seq (fun K27 hK27 => ?_)
                        refine c_reg ?_ -- region 32 compm.go:397
                        refine wl (ro_move rfl) ?_
                        refine wl_call rfl en_109 (finish109 hR.dr) ?_
                        rintro _ u19 ⟨rfl, ow19, x19, f19, r19⟩
                        obtain ⟨hN, khN⟩ := cm_loc x19 f19 hN khN
                        obtain ⟨h9, kh9⟩ := cm_loc x19 f19 h9 kh9
                        have hs19 := hF.size
                        replace hF := cm_trans hX hF f19
                        replace hX := hX.trans hs19 x19
                        replace hR := r19
                        refine wl_nil (x_then (hK27 _ _ ?_))
                        clear hK27 K27
                        refine c_ret (x_thenR (x_blkR ?_))
                        refine bp_ret Tryz.results57 rfl ?_
                        refine ⟨rfl, _, hX, hF, ?_⟩
                        try dsimp only at *
                        first
                        | (exfalso; omega)
                        | (repeat (first | rw [if_pos (by omega)] | rw [if_neg (by omega)])
                           try rw [hvr]
                           exact hR.le (by omega))
                      · try simp only [decide_eq_true_eq, decide_eq_false_iff_not, Bool.not_eq_true', Bool.not_eq_false', Bool.not_eq_eq_eq_not, Bool.not_true, Bool.not_false, beq_iff_eq, bne_iff_ne, ne_eq, beq_eq_false_iff_ne, bne_eq_false_iff_eq, gt_iff_lt, ge_iff_le, Int.not_lt, Int.not_le] at hc125
                        refine c_skip (x_then (hK25 _ _ ?_))
                        clear hK25 K25
                        refine forget [(0, _), (1, _), (3, _)] ⟨rfl, rfl, rfl, trivial⟩ (fun e => ?_)
                        refine c_seq (fun K28 hK28 => ?_)
                        refine c_reg ?_ -- region 33 compm.go:400
                        refine wl (ro_move rfl) ?_
                        refine wl (ro_move rfl) ?_
                        refine wl (ro_nilCheck rfl) ?_
                        refine wl (ro_fieldAddr (k := 4) rfl fo_112_4) ?_
                        refine wl (ro_loadB rfl sc_108 (by assumption) rfl) ?_
                        refine wl (ro_move rfl) ?_
                        refine wl (ro_move rfl) ?_
                        refine wl (ro_build rfl bld_122_0_1) ?_
                        refine wl_bsapp (t := 108) (et := 122) (k := 2) (m := s.clos.length) (cs := clc β (n, ev)) rfl rfl rfl rfl se_108 zx_122 by_122 rfl rfl rfl (clc_one _ _) hq2.o (by omega) (by omega) ?_
                        intro v' u1 hon G1 hnb
                        replace hXr := G1.blkF hXr (fun q => by have := hq2.t _ q; omega)
                        obtain ⟨va, vc, rfl⟩ := hon.form
                        skip
                        refine wl (ro_nilCheck rfl) ?_
                        refine wl (ro_fieldAddr (k := 4) rfl fo_112_4) ?_
                        refine wl_put rfl rfl rfl sz_108 hXr ((by simp)) (rfl) (fun w20 hXr F20 => ?_)
                        obtain ⟨ow77, x77, f77, r77⟩ := hR.cls (c := (n, ev)) hXr0 (Fram.refl none' _) hon G1 hnb (F20) hXr (by rw [← hR.el]; exact hel)
                        obtain ⟨hN, khN⟩ := cm_loc x77 f77 hN khN
                        obtain ⟨h9, kh9⟩ := cm_loc x77 f77 h9 kh9
                        have hs77 := hF.size
                        replace hF := cm_trans hX hF f77
                        replace hX := hX.trans hs77 x77
                        replace hR := r77
                        refine wl_nil (x_then (hK28 _ _ ?_))
                        clear hK28 K28
                        obtain ⟨cv, hv_, a0, a1, a2, a3, a4, hXr, hq2, hq3, hq4⟩ := hR.r
                        unfold rnc at hXr
                        have hk70 := hR.t70
                        obtain ⟨ca2, cc2, rfl⟩ := hq2.form
                        refine c_reg ?_ -- region 34 compm.go:401
                        refine wl (ro_move rfl) ?_
                        refine wl (ro_move rfl) ?_
                        refine wl (ro_nilCheck rfl) ?_
                        refine wl (ro_fieldAddr (k := 4) rfl fo_112_4) ?_
                        refine wl (ro_loadB rfl sc_108 (by assumption) rfl) ?_
                        refine wl (ro_lenL rfl se_108) ?_
                        refine wl (ro_arith (r := (s.clos.length : Int)) rfl rfl (congrArg some (by simp)) (Go.IntWalk.i64_in _ (by omega))) ?_
                        refine wl (ro_conv rfl sc_3 in_117 (Go.IntWalk.u64_in _ (by omega))) ?_
                        refine wl (ro_build rfl bld_119_0_1) ?_
                        refine wl_call rfl en_67 (push67 (v := vFun s.clos.length) hR.dr (by omega)) ?_
                        rintro _ u21 ⟨rfl, ow21, x21, f21, r21⟩
                        obtain ⟨hN, khN⟩ := cm_loc x21 f21 hN khN
                        obtain ⟨h9, kh9⟩ := cm_loc x21 f21 h9 kh9
                        have hs21 := hF.size
                        replace hF := cm_trans hX hF f21
                        replace hX := hX.trans hs21 x21
                        replace hR := r21
                        refine wl_nil (x_blk ?_)
                        refine bp_end Tryz.results57 rfl ?_
                        refine ⟨rfl, _, hX, hF, ?_⟩
                        try dsimp only at *
                        first
                        | (exfalso; omega)
                        | (repeat (first | rw [if_pos (by omega)] | rw [if_neg (by omega)])
                           try rw [hvr]
                           exact hR.le (by omega))
                    · try simp only [decide_eq_true_eq, decide_eq_false_iff_not, Bool.not_eq_true', Bool.not_eq_false', Bool.not_eq_eq_eq_not, Bool.not_true, Bool.not_false, beq_iff_eq, bne_iff_ne, ne_eq, beq_eq_false_iff_ne, bne_eq_false_iff_eq, gt_iff_lt, ge_iff_le, Int.not_lt, Int.not_le] at hc118
                      refine c_seq (fun K29 hK29 => ?_)
                      refine c_reg ?_ -- region 35 compm.go:402
                      refine wl (ro_cmp rfl rfl rfl) ?_
                      refine wl (ro_assign rfl) ?_
                      refine wl_nil (x_then (hK29 _ _ ?_))
                      clear hK29 K29
                      refine wc_cond rfl (fun hc150 => ?_) (fun hc150 => ?_)
                      · try simp only [decide_eq_true_eq, decide_eq_false_iff_not, Bool.not_eq_true', Bool.not_eq_false', Bool.not_eq_eq_eq_not, Bool.not_true, Bool.not_false, beq_iff_eq, bne_iff_ne, ne_eq, beq_eq_false_iff_ne, bne_eq_false_iff_eq, gt_iff_lt, ge_iff_le, Int.not_lt, Int.not_le] at hc150
                        refine c_seq (fun K30 hK30 => ?_)
                        by_cases hT : 12 ≤ s.tabs.length
                        · skip
                          obtain ⟨cv, hv_, a0, a1, a2, a3, a4, hXr, hq2, hq3, hq4⟩ := hR.r
                          unfold rnc at hXr
                          have hk70 := hR.t70
                          refine c_reg ?_ -- region 36 compm.go:403
                          refine wl (ro_move rfl) ?_
                          refine wl (ro_nilCheck rfl) ?_
                          refine wl (ro_fieldAddr (k := 1) rfl fo_112_1) ?_
                          refine wl (ro_loadB rfl sc_48 (by assumption) rfl) ?_
                          refine wl_call rfl en_29 (hR.make29N hT) ?_
                          rintro _ w22 ⟨rfl, F22⟩
                          replace hF := hF.thenDrew.thenN F22
                          replace hR := hR.thruN ((Fram.refl none' _).thenDrew.thenN F22)
                          replace hN := F22.blkN hN
                          replace hXr := F22.blkN hXr
                          replace h9 := F22.blkN h9
                          refine wl (ro_move rfl) ?_
                          refine wl (ro_extract rfl rfl) ?_
                          refine wl (ro_extract rfl rfl) ?_
                          refine wl (ro_assign rfl) ?_
                          refine wl (ro_assign rfl) ?_
                          refine wl_nil (x_then (hK30 _ _ ?_))
                          clear hK30 K30
                          refine c_seq (fun K31 hK31 => ?_)
                          refine c_seq (fun K32 hK32 => ?_)
                          refine c_reg ?_ -- region 37 compm.go:404
                          refine wl (ro_move rfl) ?_
                          refine wl (ro_cmp rfl rfl rfl) ?_
                          refine wl_nil (x_then (hK32 _ _ ?_))
                          clear hK32 K32
                          refine wc_condT rfl ?_
                          refine c_seq (fun K33 hK33 => ?_)
                          refine c_reg ?_ -- region 38 compm.go:405
                          refine wl (ro_move rfl) ?_
                          refine wl_call rfl en_109 (finish109 hR.dr) ?_
                          rintro _ u23 ⟨rfl, ow23, x23, f23, r23⟩
                          obtain ⟨hN, khN⟩ := cm_loc x23 f23 hN khN
                          obtain ⟨h9, kh9⟩ := cm_loc x23 f23 h9 kh9
                          have hs23 := hF.size
                          replace hF := cm_trans hX hF f23
                          replace hX := hX.trans hs23 x23
                          replace hR := r23
                          refine wl_nil (x_then (hK33 _ _ ?_))
                          clear hK33 K33
                          refine c_ret (x_thenR (x_blkR ?_))
                          refine bp_ret Tryz.results57 rfl ?_
                          refine ⟨rfl, _, hX, hF, ?_⟩
                          try dsimp only at *
                          first
                          | (exfalso; omega)
                          | (repeat (first | rw [if_pos (by omega)] | rw [if_neg (by omega)])
                             try rw [hvr]
                             exact hR.le (by omega))
                        · skip
                          obtain ⟨cv, hv_, a0, a1, a2, a3, a4, hXr, hq2, hq3, hq4⟩ := hR.r
                          unfold rnc at hXr
                          have hk70 := hR.t70
                          refine c_reg ?_ -- region 36 compm.go:403
                          refine wl (ro_move rfl) ?_
                          refine wl (ro_nilCheck rfl) ?_
                          refine wl (ro_fieldAddr (k := 1) rfl fo_112_1) ?_
                          refine wl (ro_loadB rfl sc_48 (by assumption) rfl) ?_
                          refine wl_call rfl en_29 (hR.dr.make29 (by omega)) ?_
                          rintro _ u24 ⟨rfl, ow24, x24, f24, r24⟩
                          obtain ⟨hN, khN⟩ := cm_loc x24 f24 hN khN
                          obtain ⟨h9, kh9⟩ := cm_loc x24 f24 h9 kh9
                          have hs24 := hF.size
                          replace hF := cm_trans hX hF f24
                          replace hX := hX.trans hs24 x24
                          replace hR := r24
                          refine wl (ro_move rfl) ?_
                          refine wl (ro_extract rfl rfl) ?_
                          refine wl (ro_extract rfl rfl) ?_
                          refine wl (ro_assign rfl) ?_
                          refine wl (ro_assign rfl) ?_
                          refine wl_nil (x_then (hK30 _ _ ?_))
                          clear hK30 K30
                          refine c_seq (fun K34 hK34 => ?_)
                          refine c_seq (fun K35 hK35 => ?_)
                          refine c_reg ?_ -- region 37 compm.go:404
                          refine wl (ro_move rfl) ?_
                          refine wl (ro_cmp rfl rfl rfl) ?_
                          refine wl_nil (x_then (hK35 _ _ ?_))
                          clear hK35 K35
                          refine wc_condF rfl ?_
                          refine c_skip (x_then (hK34 _ _ ?_))
                          clear hK34 K34
                          refine forget [(0, _), (3, _), (9, _), (13, _)] ⟨rfl, rfl, rfl, rfl, trivial⟩ (fun e => ?_)
                          refine c_seq (fun K36 hK36 => ?_)
                          refine c_reg ?_ -- region 39 compm.go:408
                          refine wl (ro_move rfl) ?_
                          refine wl (ro_move rfl) ?_
                          refine wl (ro_conv rfl sc_3 in_117 (Go.IntWalk.u64_in _ (by omega))) ?_
                          refine wl (ro_build rfl bld_119_0_1) ?_
                          refine wl_call rfl en_67 (push67 (v := vTab s.tabs.length) hR.dr (by omega)) ?_
                          rintro _ u25 ⟨rfl, ow25, x25, f25, r25⟩
                          obtain ⟨hN, khN⟩ := cm_loc x25 f25 hN khN
                          obtain ⟨h9, kh9⟩ := cm_loc x25 f25 h9 kh9
                          have hs25 := hF.size
                          replace hF := cm_trans hX hF f25
                          replace hX := hX.trans hs25 x25
                          replace hR := r25
                          refine wl_nil (x_then (hK36 _ _ ?_))
                          clear hK36 K36
                          refine c_reg ?_ -- region 40 compm.go:409
                          refine wl (ro_move rfl) ?_
                          refine wl (ro_fieldAddr (k := 1) rfl fo_148_1) ?_
                          refine wl (ro_loadB rfl sc_3 (by assumption) rfl) ?_
                          refine wl (ro_move rfl) ?_
                          refine wl_call rfl en_71 (items71 (n := (nd G n).A) (i := 1) hR.dr he (by omega)) ?_
                          rintro _ u26 ⟨rfl, ow26, x26, f26, r26⟩
                          obtain ⟨hN, khN⟩ := cm_loc x26 f26 hN khN
                          obtain ⟨h9, kh9⟩ := cm_loc x26 f26 h9 kh9
                          have hs26 := hF.size
                          replace hF := cm_trans hX hF f26
                          replace hX := hX.trans hs26 x26
                          replace hR := r26
                          refine wl_nil (x_blk ?_)
                          refine bp_end Tryz.results57 rfl ?_
                          refine ⟨rfl, _, hX, hF, ?_⟩
                          try dsimp only at *
                          first
                          | (exfalso; omega)
                          | (repeat (first | rw [if_pos (by omega)] | rw [if_neg (by omega)])
                             try rw [hvr]
                             exact hR.le (by omega))
                      · try simp only [decide_eq_true_eq, decide_eq_false_iff_not, Bool.not_eq_true', Bool.not_eq_false', Bool.not_eq_eq_eq_not, Bool.not_true, Bool.not_false, beq_iff_eq, bne_iff_ne, ne_eq, beq_eq_false_iff_ne, bne_eq_false_iff_eq, gt_iff_lt, ge_iff_le, Int.not_lt, Int.not_le] at hc150
                        refine c_seq (fun K37 hK37 => ?_)
                        refine c_reg ?_ -- region 41 compm.go:410
                        refine wl (ro_cmp rfl rfl rfl) ?_
                        refine wl (ro_assign rfl) ?_
                        refine wl_nil (x_then (hK37 _ _ ?_))
                        clear hK37 K37
                        refine wc_cond rfl (fun hc174 => ?_) (fun hc174 => ?_)
                        · try simp only [decide_eq_true_eq, decide_eq_false_iff_not, Bool.not_eq_true', Bool.not_eq_false', Bool.not_eq_eq_eq_not, Bool.not_true, Bool.not_false, beq_iff_eq, bne_iff_ne, ne_eq, beq_eq_false_iff_ne, bne_eq_false_iff_eq, gt_iff_lt, ge_iff_le, Int.not_lt, Int.not_le] at hc174
                          refine c_seq (fun K38 hK38 => ?_)
                          refine c_reg ?_ -- region 42 compm.go:411
                          refine wl (ro_move rfl) ?_
                          refine wl (ro_move rfl) ?_
                          refine wl_call rfl en_55 (do55 (k := 24) (n := n) (x := 0) (e := 0) hR.dr (EP.nil _) (by omega)) ?_
                          rintro _ u27 ⟨rfl, ow27, x27, f27, r27⟩
                          obtain ⟨hN, khN⟩ := cm_loc x27 f27 hN khN
                          obtain ⟨h9, kh9⟩ := cm_loc x27 f27 h9 kh9
                          have hs27 := hF.size
                          replace hF := cm_trans hX hF f27
                          replace hX := hX.trans hs27 x27
                          replace hR := r27
                          refine wl_nil (x_then (hK38 _ _ ?_))
                          clear hK38 K38
                          refine forget [(0, _), (3, _), (9, _)] ⟨rfl, rfl, rfl, trivial⟩ (fun e => ?_)
                          refine c_seq (fun K39 hK39 => ?_)
                          refine c_reg ?_ -- region 43 compm.go:412
                          refine wl (ro_move rfl) ?_
                          refine wl (ro_fieldAddr (k := 2) rfl fo_148_2) ?_
                          refine wl (ro_loadB rfl sc_3 (by assumption) rfl) ?_
                          refine wl (ro_move rfl) ?_
                          refine wl_call rfl en_55 (do55 (k := 2) (n := (nd G n).B) (x := 0) hR.dr he (by omega)) ?_
                          rintro _ u28 ⟨rfl, ow28, x28, f28, r28⟩
                          obtain ⟨hN, khN⟩ := cm_loc x28 f28 hN khN
                          obtain ⟨h9, kh9⟩ := cm_loc x28 f28 h9 kh9
                          have hs28 := hF.size
                          replace hF := cm_trans hX hF f28
                          replace hX := hX.trans hs28 x28
                          replace hR := r28
                          refine wl_nil (x_then (hK39 _ _ ?_))
                          clear hK39 K39
                          refine c_reg ?_ -- region 44 compm.go:413
                          refine wl (ro_move rfl) ?_
                          refine wl (ro_fieldAddr (k := 1) rfl fo_148_1) ?_
                          refine wl (ro_loadB rfl sc_3 (by assumption) rfl) ?_
                          refine wl (ro_move rfl) ?_
                          refine wl_call rfl en_55 (do55 (k := 2) (n := (nd G n).A) (x := 0) hR.dr he (by omega)) ?_
                          rintro _ u29 ⟨rfl, ow29, x29, f29, r29⟩
                          obtain ⟨hN, khN⟩ := cm_loc x29 f29 hN khN
                          obtain ⟨h9, kh9⟩ := cm_loc x29 f29 h9 kh9
                          have hs29 := hF.size
                          replace hF := cm_trans hX hF f29
                          replace hX := hX.trans hs29 x29
                          replace hR := r29
                          refine wl_nil (x_blk ?_)
                          refine bp_end Tryz.results57 rfl ?_
                          refine ⟨rfl, _, hX, hF, ?_⟩
                          try dsimp only at *
                          first
                          | (exfalso; omega)
                          | (repeat (first | rw [if_pos (by omega)] | rw [if_neg (by omega)])
                             try rw [hvr]
                             exact hR.le (by omega))
                        · try simp only [decide_eq_true_eq, decide_eq_false_iff_not, Bool.not_eq_true', Bool.not_eq_false', Bool.not_eq_eq_eq_not, Bool.not_true, Bool.not_false, beq_iff_eq, bne_iff_ne, ne_eq, beq_eq_false_iff_ne, bne_eq_false_iff_eq, gt_iff_lt, ge_iff_le, Int.not_lt, Int.not_le] at hc174
                          refine c_seq (fun K40 hK40 => ?_)
                          refine c_reg ?_ -- region 45 compm.go:414
                          refine wl (ro_cmp rfl rfl rfl) ?_
                          refine wl (ro_assign rfl) ?_
                          refine wl_nil (x_then (hK40 _ _ ?_))
                          clear hK40 K40
                          refine wc_cond rfl (fun hc189 => ?_) (fun hc189 => ?_)
                          · try simp only [decide_eq_true_eq, decide_eq_false_iff_not, Bool.not_eq_true', Bool.not_eq_false', Bool.not_eq_eq_eq_not, Bool.not_true, Bool.not_false, beq_iff_eq, bne_iff_ne, ne_eq, beq_eq_false_iff_ne, bne_eq_false_iff_eq, gt_iff_lt, ge_iff_le, Int.not_lt, Int.not_le] at hc189
                            refine c_seq (fun K41 hK41 => ?_)
                            refine c_reg ?_ -- region 46 compm.go:415
                            refine wl (ro_move rfl) ?_
                            refine wl (ro_move rfl) ?_
                            refine wl_call rfl en_55 (do55 (k := 25) (n := n) (x := 0) (e := 0) hR.dr (EP.nil _) (by omega)) ?_
                            rintro _ u30 ⟨rfl, ow30, x30, f30, r30⟩
                            obtain ⟨hN, khN⟩ := cm_loc x30 f30 hN khN
                            obtain ⟨h9, kh9⟩ := cm_loc x30 f30 h9 kh9
                            have hs30 := hF.size
                            replace hF := cm_trans hX hF f30
                            replace hX := hX.trans hs30 x30
                            replace hR := r30
                            refine wl_nil (x_then (hK41 _ _ ?_))
                            clear hK41 K41
                            refine c_reg ?_ -- region 47 compm.go:416
                            refine wl (ro_move rfl) ?_
                            refine wl (ro_fieldAddr (k := 1) rfl fo_148_1) ?_
                            refine wl (ro_loadB rfl sc_3 (by assumption) rfl) ?_
                            refine wl (ro_move rfl) ?_
                            refine wl_call rfl en_55 (do55 (k := 2) (n := (nd G n).A) (x := 0) hR.dr he (by omega)) ?_
                            rintro _ u31 ⟨rfl, ow31, x31, f31, r31⟩
                            obtain ⟨hN, khN⟩ := cm_loc x31 f31 hN khN
                            obtain ⟨h9, kh9⟩ := cm_loc x31 f31 h9 kh9
                            have hs31 := hF.size
                            replace hF := cm_trans hX hF f31
                            replace hX := hX.trans hs31 x31
                            replace hR := r31
                            refine wl_nil (x_blk ?_)
                            refine bp_end Tryz.results57 rfl ?_
                            refine ⟨rfl, _, hX, hF, ?_⟩
                            try dsimp only at *
                            first
                            | (exfalso; omega)
                            | (repeat (first | rw [if_pos (by omega)] | rw [if_neg (by omega)])
                               try rw [hvr]
                               exact hR.le (by omega))
                          · try simp only [decide_eq_true_eq, decide_eq_false_iff_not, Bool.not_eq_true', Bool.not_eq_false', Bool.not_eq_eq_eq_not, Bool.not_true, Bool.not_false, beq_iff_eq, bne_iff_ne, ne_eq, beq_eq_false_iff_ne, bne_eq_false_iff_eq, gt_iff_lt, ge_iff_le, Int.not_lt, Int.not_le] at hc189
                            refine c_seq (fun K42 hK42 => ?_)
                            refine c_reg ?_ -- region 48 compm.go:417
                            refine wl (ro_cmp rfl rfl rfl) ?_
                            refine wl (ro_assign rfl) ?_
                            refine wl_nil (x_then (hK42 _ _ ?_))
                            clear hK42 K42
                            refine wc_cond rfl (fun hc199 => ?_) (fun hc199 => ?_)
                            · try simp only [decide_eq_true_eq, decide_eq_false_iff_not, Bool.not_eq_true', Bool.not_eq_false', Bool.not_eq_eq_eq_not, Bool.not_true, Bool.not_false, beq_iff_eq, bne_iff_ne, ne_eq, beq_eq_false_iff_ne, bne_eq_false_iff_eq, gt_iff_lt, ge_iff_le, Int.not_lt, Int.not_le] at hc199
                              refine c_seq (fun K43 hK43 => ?_)
                              refine c_reg ?_ -- region 49 compm.go:418
                              refine wl (ro_move rfl) ?_
                              refine wl (ro_move rfl) ?_
                              refine wl (ro_move rfl) ?_
                              refine wl_call rfl en_55 (do55 (k := 26) (n := n) (x := 0) hR.dr he (by omega)) ?_
                              rintro _ u32 ⟨rfl, ow32, x32, f32, r32⟩
                              obtain ⟨hN, khN⟩ := cm_loc x32 f32 hN khN
                              obtain ⟨h9, kh9⟩ := cm_loc x32 f32 h9 kh9
                              have hs32 := hF.size
                              replace hF := cm_trans hX hF f32
                              replace hX := hX.trans hs32 x32
                              replace hR := r32
                              refine wl_nil (x_then (hK43 _ _ ?_))
                              clear hK43 K43
                              refine c_reg ?_ -- region 50 compm.go:419
                              refine wl (ro_move rfl) ?_
                              refine wl (ro_fieldAddr (k := 1) rfl fo_148_1) ?_
                              refine wl (ro_loadB rfl sc_3 (by assumption) rfl) ?_
                              refine wl (ro_move rfl) ?_
                              refine wl_call rfl en_55 (do55 (k := 2) (n := (nd G n).A) (x := 0) hR.dr he (by omega)) ?_
                              rintro _ u33 ⟨rfl, ow33, x33, f33, r33⟩
                              obtain ⟨hN, khN⟩ := cm_loc x33 f33 hN khN
                              obtain ⟨h9, kh9⟩ := cm_loc x33 f33 h9 kh9
                              have hs33 := hF.size
                              replace hF := cm_trans hX hF f33
                              replace hX := hX.trans hs33 x33
                              replace hR := r33
                              refine wl_nil (x_blk ?_)
                              refine bp_end Tryz.results57 rfl ?_
                              refine ⟨rfl, _, hX, hF, ?_⟩
                              try dsimp only at *
                              first
                              | (exfalso; omega)
                              | (repeat (first | rw [if_pos (by omega)] | rw [if_neg (by omega)])
                                 try rw [hvr]
                                 exact hR.le (by omega))
                            · try simp only [decide_eq_true_eq, decide_eq_false_iff_not, Bool.not_eq_true', Bool.not_eq_false', Bool.not_eq_eq_eq_not, Bool.not_true, Bool.not_false, beq_iff_eq, bne_iff_ne, ne_eq, beq_eq_false_iff_ne, bne_eq_false_iff_eq, gt_iff_lt, ge_iff_le, Int.not_lt, Int.not_le] at hc199
                              refine c_seq (fun K44 hK44 => ?_)
                              refine c_reg ?_ -- region 51 compm.go:420
                              refine wl (ro_cmp rfl rfl rfl) ?_
                              refine wl (ro_assign rfl) ?_
                              refine wl_nil (x_then (hK44 _ _ ?_))
                              clear hK44 K44
                              refine wc_cond rfl (fun hc210 => ?_) (fun hc210 => ?_)
                              · try simp only [decide_eq_true_eq, decide_eq_false_iff_not, Bool.not_eq_true', Bool.not_eq_false', Bool.not_eq_eq_eq_not, Bool.not_true, Bool.not_false, beq_iff_eq, bne_iff_ne, ne_eq, beq_eq_false_iff_ne, bne_eq_false_iff_eq, gt_iff_lt, ge_iff_le, Int.not_lt, Int.not_le] at hc210
                                refine c_seq (fun K45 hK45 => ?_)
                                refine c_reg ?_ -- region 52 compm.go:421
                                refine wl (ro_move rfl) ?_
                                refine wl (ro_move rfl) ?_
                                refine wl (ro_move rfl) ?_
                                refine wl_call rfl en_55 (do55 (k := 27) (n := n) (x := 0) hR.dr he (by omega)) ?_
                                rintro _ u34 ⟨rfl, ow34, x34, f34, r34⟩
                                obtain ⟨hN, khN⟩ := cm_loc x34 f34 hN khN
                                obtain ⟨h9, kh9⟩ := cm_loc x34 f34 h9 kh9
                                have hs34 := hF.size
                                replace hF := cm_trans hX hF f34
                                replace hX := hX.trans hs34 x34
                                replace hR := r34
                                refine wl_nil (x_then (hK45 _ _ ?_))
                                clear hK45 K45
                                refine c_reg ?_ -- region 53 compm.go:422
                                refine wl (ro_move rfl) ?_
                                refine wl (ro_fieldAddr (k := 1) rfl fo_148_1) ?_
                                refine wl (ro_loadB rfl sc_3 (by assumption) rfl) ?_
                                refine wl (ro_move rfl) ?_
                                refine wl_call rfl en_55 (do55 (k := 2) (n := (nd G n).A) (x := 0) hR.dr he (by omega)) ?_
                                rintro _ u35 ⟨rfl, ow35, x35, f35, r35⟩
                                obtain ⟨hN, khN⟩ := cm_loc x35 f35 hN khN
                                obtain ⟨h9, kh9⟩ := cm_loc x35 f35 h9 kh9
                                have hs35 := hF.size
                                replace hF := cm_trans hX hF f35
                                replace hX := hX.trans hs35 x35
                                replace hR := r35
                                refine wl_nil (x_blk ?_)
                                refine bp_end Tryz.results57 rfl ?_
                                refine ⟨rfl, _, hX, hF, ?_⟩
                                try dsimp only at *
                                first
                                | (exfalso; omega)
                                | (repeat (first | rw [if_pos (by omega)] | rw [if_neg (by omega)])
                                   try rw [hvr]
                                   exact hR.le (by omega))
                              · try simp only [decide_eq_true_eq, decide_eq_false_iff_not, Bool.not_eq_true', Bool.not_eq_false', Bool.not_eq_eq_eq_not, Bool.not_true, Bool.not_false, beq_iff_eq, bne_iff_ne, ne_eq, beq_eq_false_iff_ne, bne_eq_false_iff_eq, gt_iff_lt, ge_iff_le, Int.not_lt, Int.not_le] at hc210
                                refine c_skip (x_blk ?_)
                                refine bp_end Tryz.results57 rfl ?_
                                refine ⟨rfl, _, hX, hF, ?_⟩
                                try dsimp only at *
                                first
                                | (exfalso; omega)
                                | (repeat (first | rw [if_pos (by omega)] | rw [if_neg (by omega)])
                                   try rw [hvr]
                                   exact hR.le (by omega))

end Go.Proofs.Qxb6500568aGreatDoor
