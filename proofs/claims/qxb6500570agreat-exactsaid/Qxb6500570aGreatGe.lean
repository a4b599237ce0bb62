import Derived.Test.Qxb6500570aGreatGd
/- The model's sheet: the whole of it; Set; New. -/
namespace Go.Proofs.Qxb6500570aGreat
set_option linter.unusedVariables false
set_option linter.unusedSimpArgs false

theorem and_bitn (s c : Nat) : (s &&& 2 ^ c ≠ 0) ↔ s.testBit c = true := by
  constructor
  · intro h
    cases hq : s.testBit c with
    | true => rfl
    | false =>
      refine absurd (Nat.eq_of_testBit_eq (fun j => ?_)) h
      rw [Nat.testBit_and, bit_pow, Nat.zero_testBit]
      by_cases e : j = c
      · subst e; rw [hq]; rfl
      · simp [e]
  · intro h e
    have := congrArg (fun n => n.testBit c) e
    simp only [Nat.testBit_and, h, bit_pow, Nat.zero_testBit] at this
    simp at this
theorem mw_end {T : Nat → List UInt8} {L : Nat → Int} {S1 S : Nat → Vl} {turned : Nat} {l : List Nat} (hlv : LvOK (rdT' T) L) (h1 : ∀ x, x < 24 → L x = -1 → S1 x = vE 6) (ho : OrdOK L 4294967295 l) (i : SwI T L 4294967295 S1 S turned l []) : ShOK T L S := by
  refine ⟨hlv, fun x hx => ⟨fun hl => ?_, fun hl => ?_⟩⟩
  · rw [i.tn x hx (i.nd x hx (fun q => by have := ((ho.1 x).1 q).2.2; omega)), h1 x hx hl]
  · refine i.ok x ((ho.1 x).2 ⟨hx, ?_, hl⟩)
    rw [show (4294967295 : Nat) = 2 ^ 32 - 1 from rfl, Nat.testBit_two_pow_sub_one]
    simp; omega

set_option maxHeartbeats 16000000 in
theorem sheet96 {w : World} {lo hi sb : Nat} {n : Int} {M : MB} {T : List (List UInt8)} (hb : MaB lo hi M) (hhi : hi ≤ w.heap.size) (hK : Blk w.heap M.k (mst M sb n) 129) (hR : Blk w.heap M.r (rws stc T) 9) (htl : T.length = 24) (h40 : ∀ t ∈ T, t.length ≤ 40) (hev : MEv w M.v M.f) :
    Ret Tryz.prog 96 [ptr M.k] w (fun _ w' => (∃ sb' SL', w.heap.size ≤ sb' ∧ MaV w' M sb' T SL') ∧ Fram (rng lo hi) w w') := by
  have hF : Fram (rng lo hi) w w := Fram.refl _ _
  have hbb := hb
  obtain ⟨b1, b2, b3, b4, b5⟩ := hb
  have hbe : lo ≤ M.f ∧ M.v < M.r := ⟨by omega, by omega⟩
  have hm1 : rng lo hi M.k := ⟨by omega, by omega⟩
  refine ret_of Tryz.func96 rfl Tryz.ntmps96 rfl ?_
  refine c_seq (fun K1 hK1 => ?_)
  refine c_reg ?_ -- region 0 calcm.go:34
  refine wl (ro_move rfl) ?_
  refine wl_call rfl en_121 (wires121 hbb hhi hK hR htl h40 hev) ?_
  rintro _ u1 ⟨⟨gm, rb, rfl, hrb, hgm, hg⟩, hev, G1⟩
  have hsz1 := G1.size
  have hrg := hg.1
  replace hF := hF.transG G1 (by intro k hk h; simp only [one, none', rng] at h ⊢ <;> omega)
  replace hK := G1.blkF hK (by intro h; simp only [one, none', rng] at h <;> omega)
  replace hR := G1.blkF hR (by intro h; simp only [one, none', rng] at h <;> omega)
  refine wl (ro_assign rfl) ?_
  refine wl_nil (x_then (hK1 _ _ ?_))
  clear hK1 K1
  refine forget [(0, _), (2, _)] ⟨rfl, rfl, trivial⟩ (fun e => ?_)
  refine c_seq (fun K2 hK2 => ?_)
  refine c_reg ?_ -- region 1 calcm.go:35
  refine wl (ro_move rfl) ?_
  refine wl_call rfl en_122 (CyclicM122 (lo := rb) (hi := gm + 1) hg ⟨by omega, by omega⟩) ?_
  rintro _ u2 ⟨⟨cy, rfl, hcy, L, hlv, hcb⟩, hg, G2⟩
  have hsz2 := G2.size
  replace hev := hev.far hbe G2 (fun b q1 q2 hh => absurd hh.1 (by omega))
  replace hF := hF.transG G2 (by intro k hk h; simp only [one, none', rng] at h ⊢ <;> omega)
  replace hK := G2.blkF hK (by intro h; simp only [one, none', rng] at h <;> omega)
  replace hR := G2.blkF hR (by intro h; simp only [one, none', rng] at h <;> omega)
  refine wl (ro_assign rfl) ?_
  refine wl_nil (x_then (hK2 _ _ ?_))
  clear hK2 K2
  refine forget [(0, _), (2, _), (3, _)] ⟨rfl, rfl, rfl, trivial⟩ (fun e => ?_)
  refine c_seq (fun K3 hK3 => ?_)
  refine c_reg ?_ -- region 2 calcm.go:36
  refine wl_make (len := 24) (cap := 24) rfl rfl se_86 ze_104 (by simp) (by omega) (by omega) rfl bb_104 (fun vb w1 hbvb hV F1 => ?_)
  have hbsvb := Nat.le_trans hF.size hbvb
  have hneMkvb : M.k < vb := Nat.lt_of_lt_of_le hK.lt hbvb
  have hneMrvb : M.r < vb := Nat.lt_of_lt_of_le hR.lt hbvb
  replace hF := hF.thenDrew.thenN F1
  replace hK := F1.blkN hK
  replace hR := F1.blkN hR
  replace hV : Blk _ vb (rws vlc (List.replicate 24 vZ)) 104 := (by rw [← zc_rws (enc := vlc) (x0 := vZ) rfl vlc_len 24]; exact hV)
  replace hev := hev.far hbe F1 (fun _ _ _ h ↦ h)
  replace hg := hg.far (lo := rb) (hi := gm + 1) ⟨by omega, by omega⟩ F1 (fun _ _ _ h ↦ h)
  have hgv : gm < vb := by omega
  have hwv : w.heap.size ≤ vb := by omega
  refine wl (ro_assign rfl) ?_
  refine wl_nil (x_then (hK3 _ _ ?_))
  clear hK3 K3
  refine c_seq (fun K4 hK4 => ?_)
  refine c_seq (fun K5 hK5 => ?_)
  refine c_reg ?_ -- region 3 calcm.go:37
  refine wl (ro_assign rfl) ?_
  refine wl_nil (x_then (hK5 _ _ ?_))
  clear hK5 K5
  refine c_block ?_
  -- loop@r4: live slots [0, 2, 3, 4, 5]
  refine c_loopG (fun m a' w' => ∃ i SL', m = 24 - i ∧ i ≤ 24 ∧ SL'.length = 24 ∧ (∀ v ∈ SL', Lw v) ∧ (∀ x, x < 24 → x < i → cy.testBit x = true → envF SL' x = vE 6) ∧ MEv w' M.v M.f ∧ MGr w' gm rb (rdT' (tF T)) ∧ Blk w'.heap M.k (mst M sb n) 129 ∧ Blk w'.heap M.r (rws stc T) 9 ∧ Blk w'.heap vb (rws vlc SL') 104 ∧ Fram (rng lo hi) w w' ∧ ∃ e, a' = Fr 66 (upds e [(0, ptr M.k), (2, ptr gm), (3, u32c cy), (4, sl vb 24), (5, i64c i)]) []) 24 ⟨0, List.replicate 24 vZ, rfl, by omega, List.length_replicate, fun v hv => by (rw [List.eq_of_mem_replicate hv]; exact Lw.z), fun x _ hx => by omega, hev, hg, hK, hR, hV, hF, kp _ ⟨rfl, rfl, rfl, rfl, rfl, trivial⟩⟩ ?_
  clear hF hK hR hev hg hV
  rintro m a' u3 ⟨i, SL', rfl, hi24, hsl', hlw', i1, hev, hg, hK, hR, hV, hF, e, rfl⟩
  have hsz3 := hF.size
  refine c_seq (fun K6 hK6 => ?_)
  refine c_seq (fun K7 hK7 => ?_)
  refine c_reg ?_ -- region 4 calcm.go:37
  refine wl (ro_move rfl) ?_
  refine wl (ro_cmp (r := decide (i < 24)) rfl rfl (congrArg some (decide_eq_decide.2 (by omega)))) ?_
  refine wl_nil (x_then (hK7 _ _ ?_))
  clear hK7 K7
  refine wc_cond rfl (fun hc16 => ?_) (fun hc16 => ?_)
  · try simp only [decide_eq_true_eq, decide_eq_false_iff_not, Bool.not_eq_true', Bool.not_eq_false', Bool.not_eq_eq_eq_not, Bool.not_true, Bool.not_false, beq_iff_eq, bne_iff_ne, ne_eq, beq_eq_false_iff_ne, bne_eq_false_iff_eq, gt_iff_lt, ge_iff_le, Int.not_lt, Int.not_le] at hc16
    refine c_skip (x_then (hK6 _ _ ?_))
    clear hK6 K6
    refine forget [(0, _), (2, _), (3, _), (4, _), (5, _)] ⟨rfl, rfl, rfl, rfl, rfl, trivial⟩ (fun e => ?_)
    refine c_seq (fun K8 hK8 => ?_)
    refine c_block ?_
    refine c_seq (fun K9 hK9 => ?_)
    refine c_reg ?_ -- region 6 calcm.go:38
    refine wl (ro_move rfl) ?_
    refine wl (ro_move rfl) ?_
    refine wl_call rfl en_66 (Bit66 (by omega)) ?_
    rintro _ _ ⟨rfl, rfl⟩
    have hbi := bit_lt (c := i) (by omega)
    refine wl (ro_and32 rfl rfl (by omega) (by omega)) ?_
    refine wl (ro_cmp (r := cy.testBit i) rfl rfl (congrArg some ((bnec (cy &&& 2 ^ i) 0).trans (by rw [Bool.eq_iff_iff, decide_eq_true_eq]; exact and_bitn cy i)))) ?_
    refine wl_nil (x_then (hK9 _ _ ?_))
    clear hK9 K9
    refine wc_cond rfl (fun hc23 => ?_) (fun hc23 => ?_)
    · try simp only [decide_eq_true_eq, decide_eq_false_iff_not, Bool.not_eq_true', Bool.not_eq_false', Bool.not_eq_eq_eq_not, Bool.not_true, Bool.not_false, beq_iff_eq, bne_iff_ne, ne_eq, beq_eq_false_iff_ne, bne_eq_false_iff_eq, gt_iff_lt, ge_iff_le, Int.not_lt, Int.not_le] at hc23
      refine c_reg ?_ -- region 7 calcm.go:39
      refine wl (ro_move rfl) ?_
      refine wl (ro_move rfl) ?_
      refine wl_call rfl en_116 (Err116) ?_
      rintro _ u4 ⟨rfl, G4⟩
      replace hev := hev.far hbe G4 (fun _ _ _ h => h)
      replace hg := hg.far (lo := rb) (hi := gm + 1) ⟨by omega, by omega⟩ G4 (fun _ _ _ h => h)
      replace hF := hF.transG G4 (by intro k hk h; simp only [one, none', rng] at h ⊢ <;> omega)
      replace hK := G4.blkF hK (by intro h; simp only [one, none', rng] at h <;> omega)
      replace hR := G4.blkF hR (by intro h; simp only [one, none', rng] at h <;> omega)
      replace hV := G4.blkF hV (by intro h; simp only [one, none', rng] at h <;> omega)
      refine wl (ro_indexAddr (et := 104) (k := 3) rfl rfl se_86 rfl (by omega)) ?_
      refine wl_puta rfl rfl ((vlc_cells _)) sz_104 (rfl) hV ((rw_fit vlc_len (i := i) (j := 0) (m := 3) (by omega) (by omega) (by omega))) ((rw_puta vlc_len (i := i) (x' := vE 6) (by omega) (by omega))) (fun w2 hV F2 => ?_)
      replace hF := hF.thenDrew.thenO F2 (by first | exact .inr (by omega) | exact .inl rfl | exact .inl (by assumption))
      replace hK := F2.blkO hK (by omega)
      replace hR := F2.blkO hR (by omega)
      replace hev := hev.far hbe F2 (fun b q1 q2 hh ↦ absurd (show b = vb from hh) (by omega))
      replace hg := hg.far (lo := rb) (hi := gm + 1) ⟨by omega, by omega⟩ F2 (fun b q1 q2 hh ↦ absurd (show b = vb from hh) (by omega))
      refine wl_nil (x_blk (x_then (hK8 _ _ ?_)))
      clear hK8 K8
      refine c_reg ?_ -- region 5 calcm.go:37
      refine wl (ro_move rfl) ?_
      refine wl (ro_arith (r := ((i + 1 : Nat) : Int)) rfl rfl rfl (Go.IntWalk.i64_in _ (by omega))) ?_
      refine wl (ro_assign rfl) ?_
      refine wl_nil (x_then ?_)
      refine ⟨24 - (i + 1), by omega, i + 1, SL'.set i (vE 6), rfl, by omega, by rw [List.length_set]; exact hsl', set_all hlw' (Lw.e (by omega) (by omega)), fun x hx hxi hq => ?_, hev, hg, hK, hR, hV, hF, kp _ ⟨rfl, rfl, rfl, rfl, rfl, trivial⟩⟩
      rw [env_set (by omega)]
      by_cases q : x = i
      · rw [if_pos q]
      · rw [if_neg q]; exact i1 x hx (by omega) hq
    · try simp only [decide_eq_true_eq, decide_eq_false_iff_not, Bool.not_eq_true', Bool.not_eq_false', Bool.not_eq_eq_eq_not, Bool.not_true, Bool.not_false, beq_iff_eq, bne_iff_ne, ne_eq, beq_eq_false_iff_ne, bne_eq_false_iff_eq, gt_iff_lt, ge_iff_le, Int.not_lt, Int.not_le] at hc23
      refine c_skip (x_blk (x_then (hK8 _ _ ?_)))
      clear hK8 K8
      refine c_reg ?_ -- region 5 calcm.go:37
      refine wl (ro_move rfl) ?_
      refine wl (ro_arith (r := ((i + 1 : Nat) : Int)) rfl rfl rfl (Go.IntWalk.i64_in _ (by omega))) ?_
      refine wl (ro_assign rfl) ?_
      refine wl_nil (x_then ?_)
      refine ⟨24 - (i + 1), by omega, i + 1, SL', rfl, by omega, hsl', hlw', fun x hx hxi hq => ?_, hev, hg, hK, hR, hV, hF, kp _ ⟨rfl, rfl, rfl, rfl, rfl, trivial⟩⟩
      by_cases q : x = i
      · subst q; rw [hq] at hc23; cases hc23
      · exact i1 x hx (by omega) hq
  · try simp only [decide_eq_true_eq, decide_eq_false_iff_not, Bool.not_eq_true', Bool.not_eq_false', Bool.not_eq_eq_eq_not, Bool.not_true, Bool.not_false, beq_iff_eq, bne_iff_ne, ne_eq, beq_eq_false_iff_ne, bne_eq_false_iff_eq, gt_iff_lt, ge_iff_le, Int.not_lt, Int.not_le] at hc16
    have hi24' : i = 24 := by omega
    subst hi24'
    have hS1 : ∀ x, x < 24 → L x = -1 → envF SL' x = vE 6 := fun x hx hq => i1 x hx hx ((hcb x hx).2 hq)
    clear i1
    refine c_exit (x_thenX (x_thenX (x_blkX (x_then (hK4 _ _ ?_)))))
    clear hK6 K6 hK4 K4
    refine forget [(0, _), (2, _), (4, _)] ⟨rfl, rfl, rfl, trivial⟩ (fun e => ?_)
    refine c_seq (fun K10 hK10 => ?_)
    refine c_reg ?_ -- region 8 calcm.go:42
    refine wl (ro_move rfl) ?_
    refine wl_call rfl en_123 (OrderM123 (lo := rb) (hi := gm + 1) hg ⟨by omega, by omega⟩ (by decide)) ?_
    rintro V5 u5 ⟨⟨l, L', hlv', ho, hO, hOb⟩, hg, G5⟩
    have hsz5 := G5.size
    replace hev := hev.far hbe G5 (fun b q1 q2 hh => absurd hh.1 (by omega))
    have hvl := hV.lt
    replace hF := hF.transG G5 (by intro k hk h; simp only [one, none', rng] at h ⊢ <;> omega)
    replace hK := G5.blkF hK (by intro h; simp only [one, none', rng] at h <;> omega)
    replace hR := G5.blkF hR (by intro h; simp only [one, none', rng] at h <;> omega)
    replace hV := G5.blkF hV (by intro h; simp only [one, none', rng] at h <;> omega)
    replace ho := ho.congr (M := L) (fun x hx => lv_uniq hlv' hlv x hx)
    obtain ⟨a, cap, rfl⟩ := hO.form
    replace hOb : ∀ b, (Value.slice a l.length cap).ownBlock = some b → vb < b ∧ hi ≤ b := fun b q => by have := hOb b q; omega
    have hst : SwI (tF T) L 4294967295 (envF SL') (envF SL') 0 [] l := ⟨by decide, fun x hx => (by cases hx), fun x _ _ => rfl, fun x _ _ => (by simp)⟩
    refine wl (ro_assign rfl) ?_
    refine wl_nil (x_then (hK10 _ _ ?_))
    clear hK10 K10
    refine c_seq (fun K11 hK11 => ?_)
    refine c_seq (fun K12 hK12 => ?_)
    refine c_reg ?_ -- region 9 calcm.go:43
    refine wl (ro_assign rfl) ?_
    refine wl_nil (x_then (hK12 _ _ ?_))
    clear hK12 K12
    refine c_block ?_
    -- loop@r10: live slots [0, 4, 6, 7]
    refine c_loopG (fun m a' w' => ∃ i SL2 turned, m = l.length - i ∧ i ≤ l.length ∧ SwI (tF T) L 4294967295 (envF SL') (envF SL2) turned (l.take i) (l.drop i) ∧ SL2.length = 24 ∧ (∀ v ∈ SL2, Lw v) ∧ MEv w' M.v M.f ∧ Own w'.heap (.slice a l.length cap) 3 1 l.length (rws onc l) ∧ Blk w'.heap M.k (mst M sb n) 129 ∧ Blk w'.heap M.r (rws stc T) 9 ∧ Blk w'.heap vb (rws vlc SL2) 104 ∧ Fram (rng lo hi) w w' ∧ ∃ e, a' = Fr 66 (upds e [(0, ptr M.k), (4, sl vb 24), (6, .slice a l.length cap), (7, i64c i)]) []) l.length ⟨0, SL', 0, rfl, by omega, by rw [List.take_zero, List.drop_zero]; exact hst, hsl', hlw', hev, hO, hK, hR, hV, hF, kp _ ⟨rfl, rfl, rfl, rfl, trivial⟩⟩ ?_
    clear hF hK hR hev hg hV hO hvl
    rintro m a' u6 ⟨i, SL2, turned, rfl, hil0, hsw, hsl2, hlw2, hev, hO, hK, hR, hV, hF, e, rfl⟩
    have hsz6 := hF.size
    refine c_seq (fun K13 hK13 => ?_)
    refine c_seq (fun K14 hK14 => ?_)
    refine c_reg ?_ -- region 10 calcm.go:43
    refine wl (ro_move rfl) ?_
    refine wl (ro_move rfl) ?_
    refine wl (ro_lenL rfl se_79) ?_
    refine wl (ro_cmp (r := decide (i < l.length)) rfl rfl (congrArg some (decide_eq_decide.2 (by omega)))) ?_
    refine wl_nil (x_then (hK14 _ _ ?_))
    clear hK14 K14
    refine wc_cond rfl (fun hc33 => ?_) (fun hc33 => ?_)
    · try simp only [decide_eq_true_eq, decide_eq_false_iff_not, Bool.not_eq_true', Bool.not_eq_false', Bool.not_eq_eq_eq_not, Bool.not_true, Bool.not_false, beq_iff_eq, bne_iff_ne, ne_eq, beq_eq_false_iff_ne, bne_eq_false_iff_eq, gt_iff_lt, ge_iff_le, Int.not_lt, Int.not_le] at hc33
      obtain ⟨x, hx⟩ : ∃ x, l[i]? = some x := ⟨_, List.getElem?_eq_getElem hc33⟩
      obtain ⟨g, cap', lc, hea, hLs, hg3, hg4, hg5, hg6⟩ := hO.pos (by omega)
      injection hea with hea1 hea2 hea3
      subst hea1
      subst hea3
      obtain ⟨hgv2, hgh⟩ := hOb g rfl
      have hlx : lc[i]? = some (i64c x) := by
        have e1 : (rws onc l)[i]? = some (i64c x) := rw_get onc_len hx (j := 0) (by omega) rfl
        rw [← hg6, List.getElem?_take_of_lt (by omega)] at e1
        exact e1
      have hlx' : lc[0 + i * 1]? = some (i64c x) := by rw [Nat.mul_one, Nat.zero_add]; exact hlx
      have hdx := drop_cons' hx
      have hspl : l.take i ++ x :: l.drop (i + 1) = l := by rw [← hdx, List.take_append_drop]
      rw [hdx] at hsw
      have ho' : OrdOK L 4294967295 (l.take i ++ x :: l.drop (i + 1)) := by rw [hspl]; exact ho
      have hx24 : x < 24 := ((ho.1 x).1 (List.mem_of_getElem? hx)).1
      have htx : l.take (i + 1) = l.take i ++ [x] := by rw [List.take_add_one, hx]; rfl
      have hraw : (tF T x).length ≤ 40 := h40 _ (tF_mem (by omega))
      have l1 := hK.lt
      have l2 := hR.lt
      have l3 := hV.lt
      have l4 := hLs.lt
      clear hO
      refine c_skip (x_then (hK13 _ _ ?_))
      clear hK13 K13
      refine forget [(0, _), (4, _), (6, _), (7, _)] ⟨rfl, rfl, rfl, rfl, trivial⟩ (fun e => ?_)
      refine c_seq (fun K15 hK15 => ?_)
      refine c_block ?_
      refine c_seq (fun K16 hK16 => ?_)
      refine c_piF 21 15 19 [0, 1, 2, 3, 4, 5, 6, 7, 8, 9, 10, 11, 12, 13, 14] [(16, false), (17, false), (18, false), (19, true), (20, true)] [(15, true), (16, false), (17, false), (18, false), (20, true)] (fun w' => Blk w'.heap M.k (mst M sb n) 129 ∧ Blk w'.heap M.r (rws stc T) 9 ∧ Blk w'.heap g lc 3) mixed (by kernel_rfl) rfl rfl (by kernel_rfl) (po_then (po_blk (po_then (po_then (po_blk (po_then (po_bp))))))) (⟨hK, hR, hLs⟩) ?_ -- region 12 calcm.go:44
      refine wf_ro rfl (fun w hS => ro_move rfl) ?_
      refine wf_ro rfl (fun w hS => ro_nilCheck rfl) ?_
      refine wf_ro rfl (fun w hS => ro_fieldAddr (k := 0) rfl fo_129_0) ?_
      refine wf_ro rfl (fun w hS => ro_loadB rfl sc_126 (hS.1) (rfl)) ?_
      refine wf_ro rfl (fun w hS => ro_move rfl) ?_
      refine wf_ro rfl (fun w hS => ro_nilCheck rfl) ?_
      refine wf_ro rfl (fun w hS => ro_fieldAddr (k := 1) rfl fo_129_1) ?_
      refine wf_ro rfl (fun w hS => ro_loadB rfl sc_56 (hS.1) (rfl)) ?_
      refine wf_ro rfl (fun w hS => ro_move rfl) ?_
      refine wf_ro rfl (fun w hS => ro_move rfl) ?_
      refine wf_ro rfl (fun w hS => ro_indexAddr (et := 3) (k := 1) rfl rfl se_79 rfl (by omega)) ?_
      refine wf_ro rfl (fun w hS => ro_loadB rfl sc_3 (hS.2.2) (hlx')) ?_
      refine wf_ro rfl (fun w hS => ro_indexAddr (et := 9) (k := 1) rfl rfl se_56 rfl (by omega)) ?_
      refine wf_ro rfl (fun w hS => ro_loadB rfl sc_9 (hS.2.1) ((rw_get stc_len (tF_get (T := T) (c := x) (by omega)) (j := 0) (by omega) rfl))) ?_
      refine wf_ro rfl (fun w hS => ro_move rfl) ?_
      refine wf_cx (R := (fun v u => v = .tuple #[vlA (cellV (tF T x) (envF SL2)), icv 0] ∧ MEv u M.v M.f ∧ Fram (rng lo M.r) u6 u)) (G := rng lo M.r) rfl rfl rfl rfl rfl rfl rfl (by decide) (by decide) rfl (fun _ => rfl) en_124 ze_104 sz_104 rfl ((fun wA F1 => (CellM124 (hev.far hbe ((Fram.drew none' u6 _).trans F1) (fun _ _ _ h => h)) hbe hraw (.inr (by omega)) (((Fram.drew none' u6 _).trans F1).blkN hV) hsl2 hlw2).mono (fun v u hh => ⟨⟨hh.1, hh.2.1, (((Fram.drew none' u6 _).trans F1).mono (fun _ _ h => h.elim)).trans hh.2.2⟩, hh.2.2⟩))) ((fun v u u' hh F => ⟨hh.1, hh.2.1.far hbe F (fun _ _ _ h => h), hh.2.2.thenN F⟩)) ((fun b hg => by have h1 := hg.2; show b < u6.heap.size; omega)) ((fun v u hh => ⟨vlc (cellV (tF T x) (envF SL2)), hh.1, rfl, vlc_cells _⟩)) ((fun u F => ⟨F.blkN (w := { u6 with drawn := u6.drawn + 1 }) hK, F.blkN (w := { u6 with drawn := u6.drawn + 1 }) hR, F.blkN (w := { u6 with drawn := u6.drawn + 1 }) hLs⟩)) ((fun v u hh => ⟨hh.2.2.blkF hK (fun hg => absurd hg.2 (by omega)), hh.2.2.blkF hR (fun hg => absurd hg.2 (by omega)), hh.2.2.blkF hLs (fun hg => absurd hg.2 (by omega))⟩)) ((fun v u b u' hh hbw F => ⟨F.blkO (hh.2.2.blkF hK (fun hg => absurd hg.2 (by omega))) (by have h1 : u6.heap.size ≤ b := hbw; omega), F.blkO (hh.2.2.blkF hR (fun hg => absurd hg.2 (by omega))) (by have h1 : u6.heap.size ≤ b := hbw; omega), F.blkO (hh.2.2.blkF hLs (fun hg => absurd hg.2 (by omega))) (by have h1 : u6.heap.size ≤ b := hbw; omega)⟩)) ((fun v u hh => hh.2.2.size)) ?_
      intro cs uA b8 uB hR9 hcl hbw h50 h8 F5
      have hcs := pair_inj hR9.1
      subst hcs
      replace hbw : u6.heap.size ≤ b8 := hbw
      replace hev := hR9.2.1.far hbe F5 (fun b q1 q2 hh => absurd (show b = b8 from hh) (by omega))
      have G9 := hR9.2.2
      replace hF := hF.transG G9 (by intro k hk h; simp only [one, none', rng] at h ⊢ <;> omega)
      replace hK := G9.blkF hK (by intro h; simp only [one, none', rng] at h <;> omega)
      replace hR := G9.blkF hR (by intro h; simp only [one, none', rng] at h <;> omega)
      replace hV := G9.blkF hV (by intro h; simp only [one, none', rng] at h <;> omega)
      replace hLs := G9.blkF hLs (by intro h; simp only [one, none', rng] at h <;> omega)
      replace hF := hF.transG F5 (by intro k hk h; simp only [one, none', rng] at h ⊢ <;> omega)
      replace hK := F5.blkF hK (by intro h; simp only [one, none', rng] at h <;> omega)
      replace hR := F5.blkF hR (by intro h; simp only [one, none', rng] at h <;> omega)
      replace hV := F5.blkF hV (by intro h; simp only [one, none', rng] at h <;> omega)
      replace hLs := F5.blkF hLs (by intro h; simp only [one, none', rng] at h <;> omega)
      have hb8 := h8.lt
      have hclw : Lw (cellV (tF T x) (envF SL2)) := cellV_lw hraw (env_lw hlw2)
      have hset : ∀ y, envF (SL2.set x (cellV (tF T x) (envF SL2))) y = if y = x then cellV (tF T x) (envF SL2) else envF SL2 y := fun y => env_set (by omega)
      have hbx := bit_lt hx24
      refine x_then (hK16 _ _ ?_)
      clear hK16 K16
      refine c_piL 7 [(0, false), (1, false), (2, false), (3, false), (4, false), (5, false), (6, false)] (SameH _) mixed (by kernel_rfl) rfl (by kernel_rfl) (po_blk (po_then (po_then (po_blk (po_then (po_bp)))))) (sameH_now _ _) ?_ -- region 13 calcm.go:45
      refine ql_ro rfl (fun w hS => ro_move rfl) ?_
      refine ql_ro rfl (fun w hS => ro_move rfl) ?_
      refine ql_ro rfl (fun w hS => ro_move rfl) ?_
      refine ql_ro rfl (fun w hS => ro_indexAddr (et := 3) (k := 1) rfl rfl se_79 rfl (by omega)) ?_
      refine ql_ro rfl (fun w hS => ro_loadB rfl sc_3 (Blk.of_heap hLs hS) (hlx')) ?_
      refine ql_ro rfl (fun w hS => ro_loadAggB rfl ag_104 (Blk.of_heap h8 hS) ((vlc_len _)) (rfl)) ?_
      refine ql_ro rfl (fun w hS => ro_indexAddr (et := 104) (k := 3) rfl rfl se_86 rfl (by omega)) ?_
      refine ql_puta rfl rfl rfl ((vlc_cells _)) sz_104 (rfl) hV ((rw_fit vlc_len (i := x) (j := 0) (m := 3) (by omega) (by omega) (by omega))) ((rw_puta vlc_len (i := x) (x' := cellV (tF T x) (envF SL2)) (by omega) (by omega))) (fun w3 hV F3 => ?_)
      replace hF := hF.thenDrew.thenO F3 (by first | exact .inr (by omega) | exact .inl rfl | exact .inl (by assumption))
      replace hK := F3.blkO hK (by omega)
      replace hR := F3.blkO hR (by omega)
      replace hLs := F3.blkO hLs (by omega)
      replace h8 := F3.blkO h8 (by omega)
      replace hev := (hev.far hbe (Fram.drew none' uB _) (fun _ _ _ h ↦ h)).far hbe F3 (fun b q1 q2 hh ↦ absurd (show b = vb from hh) (by omega))
      refine x_blk (x_then (hK15 _ _ ?_))
      clear hK15 K15
      refine c_reg ?_ -- region 11 calcm.go:43
      refine wl (ro_move rfl) ?_
      refine wl (ro_arith (r := ((i + 1 : Nat) : Int)) rfl rfl rfl (Go.IntWalk.i64_in _ (by omega))) ?_
      refine wl (ro_assign rfl) ?_
      refine wl_nil (x_then ?_)
      refine ⟨l.length - (i + 1), by omega, i + 1, SL2.set x (cellV (tF T x) (envF SL2)), turned ||| 2 ^ x, rfl, by omega, ?_, by rw [List.length_set]; exact hsl2, set_all hlw2 hclw, hev, ⟨by rw [rws_len onc_len], .inr ⟨g, cap, lc, rfl, hLs, hg3, hg4, hg5, hg6⟩⟩, hK, hR, hV, hF, kp _ ⟨rfl, rfl, rfl, rfl, trivial⟩⟩
      rw [htx]
      refine hsw.turn hlv ho' ?_ (fun y hy hne => ?_) (or_lt hsw.tl hbx) (fun y hy hne => ?_) (fun q => ?_)
      · rw [hset, if_pos rfl]
      · rw [hset, if_neg hne]
      · rw [Nat.testBit_or, bit_pow]; simp [hne]
      · rw [Nat.testBit_or, bit_pow] at q; simp at q
    · try simp only [decide_eq_true_eq, decide_eq_false_iff_not, Bool.not_eq_true', Bool.not_eq_false', Bool.not_eq_eq_eq_not, Bool.not_true, Bool.not_false, beq_iff_eq, bne_iff_ne, ne_eq, beq_eq_false_iff_ne, bne_eq_false_iff_eq, gt_iff_lt, ge_iff_le, Int.not_lt, Int.not_le] at hc33
      refine c_exit (x_thenX (x_thenX (x_blkX (x_then (hK11 _ _ ?_)))))
      clear hK13 K13 hK11 K11
      refine c_reg ?_ -- region 14 calcm.go:47
      refine wl (ro_move rfl) ?_
      refine wl (ro_move rfl) ?_
      refine wl (ro_nilCheck rfl) ?_
      refine wl (ro_fieldAddr (k := 2) rfl fo_129_2) ?_
      refine wl_put rfl rfl rfl sz_86 hK ((by simp)) ((show _ = mst M vb n from rfl)) (fun w4 hK F4 => ?_)
      replace hF := hF.thenDrew.thenO F4 (by first | exact .inr (by omega) | exact .inl rfl | exact .inl (by assumption))
      replace hR := F4.blkO hR (by omega)
      replace hV := F4.blkO hV (by omega)
      replace hev := hev.far hbe F4 (fun b q1 q2 hh ↦ absurd (show b = M.k from hh) (by omega))
      refine wl_nil ?_
      refine bp_end Tryz.results96 rfl ?_
      have hil : i = l.length := by omega
      subst hil
      rw [List.take_length, List.drop_length] at hsw
      exact ⟨⟨vb, SL2, hwv, ⟨n, hK⟩, hR, hV, htl, hsl2, h40, hlw2, hev, L, mw_end hlv hS1 ho hsw⟩, hF⟩

theorem Set68L {w : World} {lo hi sb : Nat} {M : MB} {c : Int} {T : List (List UInt8)} {SL : List Vl} {raw : List UInt8} (hb : MaB lo hi M) (hsb : hi ≤ sb ∨ sb < lo ∨ (M.v < sb ∧ sb < M.k)) (h : MaV w M sb T SL) (hr : 40 < raw.length) : Ret Tryz.prog 68 [ptr M.k, icv c, S raw] w (fun v w' => v = icv 1 ∧ MaV w' M sb T SL ∧ Fram (rng lo hi) w w') := by
  have hF : Fram (rng lo hi) w w := Fram.refl _ _
  have hbb := hb
  obtain ⟨b1, b2, b3, b4, b5⟩ := hb
  obtain ⟨⟨n, hK⟩, hR, hV, htl, hsl, h40, hlw, hev, hsh⟩ := h
  have hm1 : rng lo hi M.k := ⟨by omega, by omega⟩
  refine ret_of Tryz.func68 rfl Tryz.ntmps68 rfl ?_
  refine c_seq (fun K1 hK1 => ?_)
  refine c_reg ?_ -- region 0 calcm.go:50
  refine wl (ro_assign rfl) ?_
  refine wl_nil (x_then (hK1 _ _ ?_))
  clear hK1 K1
  refine forget [(0, _), (1, _), (2, _)] ⟨rfl, rfl, rfl, trivial⟩ (fun e => ?_)
  refine c_seq (fun K2 hK2 => ?_)
  refine c_reg ?_ -- region 1 calcm.go:51
  refine wl (ro_move rfl) ?_
  refine wl (ro_nilCheck rfl) ?_
  refine wl (ro_fieldAddr (k := 3) rfl fo_129_3) ?_
  refine wl (ro_loadB rfl sc_3 (by assumption) rfl) ?_
  refine wl (ro_arithW rfl rfl rfl) ?_
  refine wl (ro_nilCheck rfl) ?_
  refine wl (ro_fieldAddr (k := 3) rfl fo_129_3) ?_
  refine wl_put rfl rfl rfl sz_3 hK ((by simp)) ((show _ = mst M sb (IntKind.i64.wrap (n + 1)) from rfl)) (fun w1 hK F1 => ?_)
  replace hF := hF.thenDrew.thenO F1 (by first | exact .inr (by omega) | exact .inl rfl | exact .inl (by assumption))
  replace hR := F1.blkO hR (by omega)
  replace hV := F1.blkO hV (by omega)
  replace hev := hev.far (lo := lo) (hi := M.k) ⟨by omega, by omega⟩ F1 (fun b q1 q2 hh ↦ absurd (show b = M.k from hh) (by omega))
  refine wl_nil (x_then (hK2 _ _ ?_))
  clear hK2 K2
  refine c_seq (fun K3 hK3 => ?_)
  refine c_seq (fun K4 hK4 => ?_)
  refine c_reg ?_ -- region 2 calcm.go:52
  refine wl (ro_move rfl) ?_
  refine wl (ro_lenS rfl st_9) ?_
  refine wl (ro_cmp (r := true) rfl rfl (congrArg some (decide_eq_true (by show ((raw.length : Nat) : Int) > 40; omega)))) ?_
  refine wl_nil (x_then (hK4 _ _ ?_))
  clear hK4 K4
  refine wc_condT rfl ?_
  refine c_seq (fun K5 hK5 => ?_)
  refine c_reg ?_ -- region 3 calcm.go:53
  refine wl (ro_assign rfl) ?_
  refine wl_nil (x_then (hK5 _ _ ?_))
  clear hK5 K5
  refine c_ret (x_thenR ?_)
  refine bp_ret Tryz.results68 rfl ?_
  exact ⟨rfl, ⟨⟨_, hK⟩, hR, hV, htl, hsl, h40, hlw, hev, hsh⟩, hF⟩
theorem Set68C {w : World} {lo hi sb : Nat} {M : MB} {c : Int} {T : List (List UInt8)} {SL : List Vl} {raw : List UInt8} (hb : MaB lo hi M) (hsb : hi ≤ sb ∨ sb < lo ∨ (M.v < sb ∧ sb < M.k)) (h : MaV w M sb T SL) (hr : raw.length ≤ 40) (hc : c < 0 ∨ 24 ≤ c) : Ret Tryz.prog 68 [ptr M.k, icv c, S raw] w (fun v w' => v = icv 9 ∧ MaV w' M sb T SL ∧ Fram (rng lo hi) w w') := by
  have hF : Fram (rng lo hi) w w := Fram.refl _ _
  have hbb := hb
  obtain ⟨b1, b2, b3, b4, b5⟩ := hb
  obtain ⟨⟨n, hK⟩, hR, hV, htl, hsl, h40, hlw, hev, hsh⟩ := h
  have hm1 : rng lo hi M.k := ⟨by omega, by omega⟩
  refine ret_of Tryz.func68 rfl Tryz.ntmps68 rfl ?_
  refine c_seq (fun K1 hK1 => ?_)
  refine c_reg ?_ -- region 0 calcm.go:50
  refine wl (ro_assign rfl) ?_
  refine wl_nil (x_then (hK1 _ _ ?_))
  clear hK1 K1
  refine forget [(0, _), (1, _), (2, _)] ⟨rfl, rfl, rfl, trivial⟩ (fun e => ?_)
  refine c_seq (fun K2 hK2 => ?_)
  refine c_reg ?_ -- region 1 calcm.go:51
  refine wl (ro_move rfl) ?_
  refine wl (ro_nilCheck rfl) ?_
  refine wl (ro_fieldAddr (k := 3) rfl fo_129_3) ?_
  refine wl (ro_loadB rfl sc_3 (by assumption) rfl) ?_
  refine wl (ro_arithW rfl rfl rfl) ?_
  refine wl (ro_nilCheck rfl) ?_
  refine wl (ro_fieldAddr (k := 3) rfl fo_129_3) ?_
  refine wl_put rfl rfl rfl sz_3 hK ((by simp)) ((show _ = mst M sb (IntKind.i64.wrap (n + 1)) from rfl)) (fun w1 hK F1 => ?_)
  replace hF := hF.thenDrew.thenO F1 (by first | exact .inr (by omega) | exact .inl rfl | exact .inl (by assumption))
  replace hR := F1.blkO hR (by omega)
  replace hV := F1.blkO hV (by omega)
  replace hev := hev.far (lo := lo) (hi := M.k) ⟨by omega, by omega⟩ F1 (fun b q1 q2 hh ↦ absurd (show b = M.k from hh) (by omega))
  refine wl_nil (x_then (hK2 _ _ ?_))
  clear hK2 K2
  refine c_seq (fun K3 hK3 => ?_)
  refine c_seq (fun K4 hK4 => ?_)
  refine c_reg ?_ -- region 2 calcm.go:52
  refine wl (ro_move rfl) ?_
  refine wl (ro_lenS rfl st_9) ?_
  refine wl (ro_cmp (r := false) rfl rfl (congrArg some (decide_eq_false (by show ¬ ((raw.length : Nat) : Int) > 40; omega)))) ?_
  refine wl_nil (x_then (hK4 _ _ ?_))
  clear hK4 K4
  refine wc_condF rfl ?_
  refine c_skip (x_then (hK3 _ _ ?_))
  clear hK3 K3
  refine c_seq (fun K5 hK5 => ?_)
  refine c_seq (fun K6 hK6 => ?_)
  refine c_reg ?_ -- region 4 calcm.go:55
  refine wl (ro_move rfl) ?_
  refine wl (ro_cmp (r := decide (c < 0)) rfl rfl rfl) ?_
  refine wl_fork rfl (fun hg19 => ?_) (fun hg19 => ?_)
  · try simp only [decide_eq_true_eq, decide_eq_false_iff_not, Bool.not_eq_true', Bool.not_eq_false', Bool.not_eq_eq_eq_not, Bool.not_true, Bool.not_false, beq_iff_eq, bne_iff_ne, ne_eq, beq_eq_false_iff_ne, bne_eq_false_iff_eq, gt_iff_lt, ge_iff_le, Int.not_lt, Int.not_le] at hg19
    refine wlg_no rfl ?_
    refine wlg_no rfl ?_
    refine wl (ro_pick rfl rfl rfl) ?_
    refine wl_nil (x_then (hK6 _ _ ?_))
    clear hK6 K6
    refine wc_condT rfl ?_
    refine c_seq (fun K7 hK7 => ?_)
    refine c_reg ?_ -- region 5 calcm.go:56
    refine wl (ro_assign rfl) ?_
    refine wl_nil (x_then (hK7 _ _ ?_))
    clear hK7 K7
    refine c_ret (x_thenR ?_)
    refine bp_ret Tryz.results68 rfl ?_
    exact ⟨rfl, ⟨⟨_, hK⟩, hR, hV, htl, hsl, h40, hlw, hev, hsh⟩, hF⟩
  · try simp only [decide_eq_true_eq, decide_eq_false_iff_not, Bool.not_eq_true', Bool.not_eq_false', Bool.not_eq_eq_eq_not, Bool.not_true, Bool.not_false, beq_iff_eq, bne_iff_ne, ne_eq, beq_eq_false_iff_ne, bne_eq_false_iff_eq, gt_iff_lt, ge_iff_le, Int.not_lt, Int.not_le] at hg19
    refine wlg_yes rfl (ro_move rfl) ?_
    refine wlg_yes rfl (ro_cmp (r := true) rfl rfl (congrArg some (decide_eq_true (by omega)))) ?_
    refine wl (ro_pick rfl rfl rfl) ?_
    refine wl_nil (x_then (hK6 _ _ ?_))
    clear hK6 K6
    refine wc_condT rfl ?_
    refine c_seq (fun K8 hK8 => ?_)
    refine c_reg ?_ -- region 5 calcm.go:56
    refine wl (ro_assign rfl) ?_
    refine wl_nil (x_then (hK8 _ _ ?_))
    clear hK8 K8
    refine c_ret (x_thenR ?_)
    refine bp_ret Tryz.results68 rfl ?_
    exact ⟨rfl, ⟨⟨_, hK⟩, hR, hV, htl, hsl, h40, hlw, hev, hsh⟩, hF⟩
set_option maxHeartbeats 4000000 in
theorem Set68 {w : World} {lo hi sb c : Nat} {M : MB} {T : List (List UInt8)} {SL : List Vl} {raw : List UInt8} (hb : MaB lo hi M) (hhi : hi ≤ w.heap.size) (h : MaV w M sb T SL) (hc : c < 24) (hr : raw.length ≤ 40) :
    Ret Tryz.prog 68 [ptr M.k, i64c c, S raw] w (fun v w' => v = icv 0 ∧ (∃ sb' SL', w.heap.size ≤ sb' ∧ MaV w' M sb' (T.set c raw) SL') ∧ Fram (rng lo hi) w w') := by
  have hF : Fram (rng lo hi) w w := Fram.refl _ _
  have hbb := hb
  obtain ⟨b1, b2, b3, b4, b5⟩ := hb
  obtain ⟨⟨n, hK⟩, hR, hV, htl, hsl, h40, hlw, hev, hsh⟩ := h
  have hm1 : rng lo hi M.k := ⟨by omega, by omega⟩
  have hm2 : rng lo hi M.r := ⟨by omega, by omega⟩
  refine ret_of Tryz.func68 rfl Tryz.ntmps68 rfl ?_
  refine c_seq (fun K1 hK1 => ?_)
  refine c_reg ?_ -- region 0 calcm.go:50
  refine wl (ro_assign rfl) ?_
  refine wl_nil (x_then (hK1 _ _ ?_))
  clear hK1 K1
  refine forget [(0, _), (1, _), (2, _)] ⟨rfl, rfl, rfl, trivial⟩ (fun e => ?_)
  refine c_seq (fun K2 hK2 => ?_)
  refine c_reg ?_ -- region 1 calcm.go:51
  refine wl (ro_move rfl) ?_
  refine wl (ro_nilCheck rfl) ?_
  refine wl (ro_fieldAddr (k := 3) rfl fo_129_3) ?_
  refine wl (ro_loadB rfl sc_3 (by assumption) rfl) ?_
  refine wl (ro_arithW rfl rfl rfl) ?_
  refine wl (ro_nilCheck rfl) ?_
  refine wl (ro_fieldAddr (k := 3) rfl fo_129_3) ?_
  refine wl_put rfl rfl rfl sz_3 hK ((by simp)) ((show _ = mst M sb (IntKind.i64.wrap (n + 1)) from rfl)) (fun w1 hK F1 => ?_)
  replace hF := hF.thenDrew.thenO F1 (by first | exact .inr (by omega) | exact .inl rfl | exact .inl (by assumption))
  replace hR := F1.blkO hR (by omega)
  replace hev := hev.far (lo := lo) (hi := M.r) ⟨by omega, by omega⟩ F1 (fun b q1 q2 hh ↦ absurd (show b = M.k from hh) (by omega))
  have hsz1 := (F1).size
  refine wl_nil (x_then (hK2 _ _ ?_))
  clear hK2 K2
  refine c_seq (fun K3 hK3 => ?_)
  refine c_seq (fun K4 hK4 => ?_)
  refine c_reg ?_ -- region 2 calcm.go:52
  refine wl (ro_move rfl) ?_
  refine wl (ro_lenS rfl st_9) ?_
  refine wl (ro_cmp (r := false) rfl rfl (congrArg some (decide_eq_false (by show ¬ ((raw.length : Nat) : Int) > 40; omega)))) ?_
  refine wl_nil (x_then (hK4 _ _ ?_))
  clear hK4 K4
  refine wc_condF rfl ?_
  refine c_skip (x_then (hK3 _ _ ?_))
  clear hK3 K3
  refine c_seq (fun K5 hK5 => ?_)
  refine c_seq (fun K6 hK6 => ?_)
  refine c_reg ?_ -- region 4 calcm.go:55
  refine wl (ro_move rfl) ?_
  refine wl (ro_cmp (r := false) rfl rfl (congrArg some (decide_eq_false (by omega)))) ?_
  refine wl (ro_move rfl) ?_
  refine wlg_yes rfl (ro_move rfl) ?_
  refine wlg_yes rfl (ro_cmp (r := false) rfl rfl (congrArg some (decide_eq_false (by omega)))) ?_
  refine wl (ro_pick rfl rfl rfl) ?_
  refine wl_nil (x_then (hK6 _ _ ?_))
  clear hK6 K6
  refine wc_condF rfl ?_
  refine c_skip (x_then (hK5 _ _ ?_))
  clear hK5 K5
  refine forget [(0, _), (1, _), (2, _)] ⟨rfl, rfl, rfl, trivial⟩ (fun e => ?_)
  refine c_seq (fun K7 hK7 => ?_)
  refine c_reg ?_ -- region 6 calcm.go:58
  refine wl (ro_move rfl) ?_
  refine wl (ro_nilCheck rfl) ?_
  refine wl (ro_fieldAddr (k := 1) rfl fo_129_1) ?_
  refine wl (ro_loadB rfl sc_56 (by assumption) rfl) ?_
  refine wl (ro_move rfl) ?_
  refine wl (ro_move rfl) ?_
  refine wl (ro_indexAddr (et := 9) (k := 1) rfl rfl se_56 rfl (by omega)) ?_
  refine wl_put rfl rfl rfl sz_9 hR ((rw_fit stc_len (i := c) (j := 0) (m := 1) (by omega) (by omega) (by omega))) ((rw_put stc_len (i := c) (j := 0) (x := tF T c) (x' := raw) (tF_get (by omega)) (by omega) (by omega) rfl)) (fun w2 hR F2 => ?_)
  replace hF := hF.thenDrew.thenO F2 (by first | exact .inr (by omega) | exact .inl rfl | exact .inl (by assumption))
  replace hK := F2.blkO hK (by omega)
  replace hev := hev.far (lo := lo) (hi := M.r) ⟨by omega, by omega⟩ F2 (fun b q1 q2 hh ↦ absurd (show b = M.r from hh) (by omega))
  have hsz2 := (F2).size
  refine wl_nil (x_then (hK7 _ _ ?_))
  clear hK7 K7
  refine forget [(0, _)] ⟨rfl, trivial⟩ (fun e => ?_)
  refine c_seq (fun K8 hK8 => ?_)
  refine c_reg ?_ -- region 7 calcm.go:59
  refine wl (ro_move rfl) ?_
  refine wl_call rfl en_96 (sheet96 hbb (by omega) hK hR (by rw [List.length_set]; exact htl) (set_all h40 hr) hev) ?_
  rintro _ u3 ⟨⟨sb', SL', hs1, hma⟩, G3⟩
  replace hF := hF.trans G3
  refine wl_nil (x_then (hK8 _ _ ?_))
  clear hK8 K8
  refine forget [] trivial (fun e => ?_)
  refine c_seq (fun K9 hK9 => ?_)
  refine c_reg ?_ -- region 8 calcm.go:60
  refine wl (ro_assign rfl) ?_
  refine wl_nil (x_then (hK9 _ _ ?_))
  clear hK9 K9
  refine c_ret ?_
  refine bp_ret Tryz.results68 rfl ?_
  exact ⟨rfl, ⟨sb', SL', by omega, hma⟩, hF⟩
theorem New57 {w : World} : Ret Tryz.prog 57 [] w (fun v w' => (∃ (M : MB) (sb : Nat), v = ptr M.k ∧ MaB w.heap.size w'.heap.size M ∧ M.v < sb ∧ sb < M.k ∧ MaV w' M sb (List.replicate 24 []) (List.replicate 24 vZ)) ∧ Fram none' w w') := by
  refine ret_of Tryz.func57 rfl Tryz.ntmps57 rfl ?_
  refine c_seq (fun K1 hK1 => ?_)
  refine c_reg ?_ -- region 0 calcm.go:17
  refine wl (ro_assign rfl) ?_
  refine wl_nil (x_then (hK1 _ _ ?_))
  clear hK1 K1
  refine forget [] trivial (fun e => ?_)
  refine c_seq (fun K2 hK2 => ?_)
  refine c_reg ?_ -- region 1 calcm.go:18
  refine wl_call rfl en_86 (New86) ?_
  rintro _ u0 ⟨ve, fb, rfl, hfb, hev, hve, G0⟩
  refine wl (ro_assign rfl) ?_
  refine wl_nil (x_then (hK2 _ _ ?_))
  clear hK2 K2
  refine forget [(1, _)] ⟨rfl, trivial⟩ (fun e => ?_)
  refine c_seq (fun K3 hK3 => ?_)
  refine c_piF 5 1 2 [0] [(2, true), (3, false), (4, true)] [(1, true), (3, false), (4, true)] (fun _ => True) mixed (by kernel_rfl) rfl rfl (by kernel_rfl) (po_then (po_bp)) trivial ?_ -- region 2 calcm.go:19
  refine wf_ro rfl (fun w hS => ro_move rfl) ?_
  refine wf_mm (m1 := 24) (m2 := 24) rfl rfl (by decide) se_56 se_86 ze_9 ze_104 (by simp) (by simp) (by omega) (by omega) rfl rfl bb_9 bb_104 (fun _ _ => trivial) ?_
  intro rb sb u1 hb1' hb2' hne hR hV F1
  refine ql_ro rfl (fun w hS => ro_build rfl bld_129_0_1_2) ?_
  refine ql_box rfl rfl rfl (fun _ _ => trivial) ?_
  intro kb u2 hbk hK F2
  refine ql_lastE rfl (ro_assign rfl) ?_
  refine x_then (hK3 _ _ ?_)
  clear hK3 K3
  refine c_ret ?_
  refine bp_ret Tryz.results57 rfl ?_
  have hz1 : u1.heap.size ≤ kb := hbk
  have hr1 := Blk.lt hR
  have hs1 := Blk.lt hV
  have F : Fram none' u0 u2 := ((Fram.drew none' u0 _).trans F1).trans F2
  replace hR := F2.blkN hR
  replace hV := F2.blkN hV
  have hq1 : u0.heap.size ≤ rb := hb1'
  have hq2 : u0.heap.size ≤ sb := hb2'
  have hvf := hev.1
  rw [zc_rws (enc := stc) (x0 := []) rfl stc_len 24] at hR
  rw [zc_rws (enc := vlc) (x0 := vZ) rfl vlc_len 24] at hV
  refine ⟨⟨⟨kb, rb, ve, fb⟩, sb, rfl, ⟨hfb, hvf, by show ve < rb; omega, by show rb < kb; omega, hK.lt⟩, by show ve < sb; omega, by show sb < kb; omega, ⟨⟨0, hK⟩, hR, hV, List.length_replicate, List.length_replicate, ?_, ?_, hev.far (lo := fb) (hi := ve + 1) ⟨Nat.le_refl _, Nat.lt_succ_self _⟩ F (fun _ _ _ h => h), _, sh_empty⟩⟩, G0.trans F⟩
  · intro t ht; rw [List.eq_of_mem_replicate ht]; decide
  · intro t ht; rw [List.eq_of_mem_replicate ht]; exact Lw.z

end Go.Proofs.Qxb6500570aGreat
