import Derived.Test.Qxb6500570aGreatCn
import Derived.Test.Qxb6500570aGreatFv
import Derived.Test.Qxb6500570aGreatBm
/- The model's former: the whole parse. -/
namespace Go.Proofs.Qxb6500570aGreat
set_option linter.unusedVariables false
set_option linter.unusedSimpArgs false

theorem all_C : ∀ n, UnC n ∧ ExC n
  | 0 => by
    have hA : AtC 0 := at_step (fun m h => by omega)
    have hU : UnC 0 := un_step hA (fun m h => by omega)
    exact ⟨hU, ex_step' (c2_step' (c3_step' hU))⟩
  | n + 1 => by
    obtain ⟨ihU, ihE⟩ := all_C n
    have hA : AtC (n + 1) := at_step (fun m h => by
      have : m = n := by omega
      subst this
      exact @ihE)
    have hU : UnC (n + 1) := un_step hA (fun m h => by
      have : m = n := by omega
      subst this
      exact @ihU)
    exact ⟨hU, ex_step' (c2_step' (c3_step' hU))⟩
theorem expr131 {w : World} {pb n0 : Nat} {s : List UInt8} {p : Nat} {ar : List Nd} {bad rg : Bool} (h : MR w pb n0 s p ar bad) :
    Ret Tryz.prog 131 [ptr pb, .bool rg] w (fun v w' => GO (ExF rg) (ExO rg) w' pb n0 s p ar bad v ∧ Fram (fre n0) w w') := (all_C _).2 h (Nat.le_refl _)

theorem ndV_take {l : List Value} {ar : List Nd} (h : l.take (ar.length * 13) = rws ndc ar) : NdV (fun j => l.getD j undef) ar := by
  intro k x hx j v hj
  have hj13 := (List.getElem?_eq_some_iff.1 hj).1
  rw [ndc_len] at hj13
  have hk := (List.getElem?_eq_some_iff.1 hx).1
  have h1 := rws_get (enc := ndc) ndc_len hx hj13
  rw [← h, List.getElem?_take, if_pos (by omega), hj] at h1
  show l.getD _ _ = _
  rw [List.getD, h1]
  rfl

theorem sgn_k0 (c d : UInt8) : (sgnT c d).1.k ≠ 0 := by
  unfold sgnT
  split
  · rename_i h
    rcases h with rfl | rfl | rfl | rfl <;> decide
  · repeat' split
    all_goals decide
theorem tok_k0 {s : List UInt8} {q : Nat} {c : UInt8} (h : s[q]? = some c) : (tkw (s.drop q)).1.k ≠ 0 := by
  cases hd : dg c with
  | true => rw [tkw_dg h hd]; rcases numT_k ((s.drop q).takeWhile dg) with h | h <;> (show (numT _).k ≠ 0; omega)
  | false =>
    cases hw : wy c with
    | true => rw [tkw_wy h hd hw]; rcases wordT_k ((s.drop q).takeWhile wy) with h | h | h | h <;> (show (wordT _).k ≠ 0; omega)
    | false => rw [tkw_sgn h hd hw]; exact sgn_k0 _ _
/-- The model's former. -/
def MFm (w : World) (fb : Nat) : Prop := ∃ (a b : Int) (l : List UInt8), Blk w.heap fb [icv a, icv b, S l] 125

set_option maxHeartbeats 4000000 in
theorem Parse102 {w : World} {fb : Nat} {s : List UInt8} (h : MFm w fb) (hsm : s.length ≤ 9223372036854775807) :
    Ret Tryz.prog 102 [ptr fb, S s] w (fun v w' => TrV w w' v (prs s) ∧ MFm w' fb ∧ Fram (one fb) w w') := by
  have hF : Fram (one fb) w w := Fram.refl _ _
  obtain ⟨ca, cb, l, hB⟩ := h
  have hfl : fb < w.heap.size := hB.lt
  refine ret_of Tryz.func102 rfl Tryz.ntmps102 rfl ?_
  refine c_seq (fun K1 hK1 => ?_)
  refine c_reg ?_ -- region 0 formm.go:315
  refine wl_new (ze_113) (fun mb w1 hbmb hM F1 => ?_)
  have hbsmb := Nat.le_trans hF.size hbmb
  have hnefbmb : fb < mb := Nat.lt_of_lt_of_le hB.lt hbmb
  replace hF := hF.thenDrew.thenN F1
  replace hB := F1.blkN hB
  refine wl_nil (x_then (hK1 _ _ ?_))
  clear hK1 K1
  refine forget [(0, _), (1, _), (4, _)] ⟨rfl, rfl, rfl, trivial⟩ (fun e => ?_)
  refine c_seq (fun K2 hK2 => ?_)
  refine c_reg ?_ -- region 1 formm.go:316
  refine wl (ro_move rfl) ?_
  refine wl (ro_nilCheck rfl) ?_
  refine wl (ro_fieldAddr (k := 0) rfl fo_125_0) ?_
  refine wl (ro_loadB rfl sc_3 (hB) (rfl)) ?_
  refine wl (ro_arithW rfl rfl rfl) ?_
  refine wl (ro_nilCheck rfl) ?_
  refine wl (ro_fieldAddr (k := 0) rfl fo_125_0) ?_
  refine wl_put rfl rfl rfl sz_3 hB ((by simp)) (rfl) (fun w2 hB F2 => ?_)
  replace hF := hF.thenDrew.thenO F2 (by first | exact .inr (by omega) | exact .inl rfl | exact .inl (by assumption))
  replace hM := F2.blkO hM (by omega)
  refine wl_nil (x_then (hK2 _ _ ?_))
  clear hK2 K2
  refine forget [(0, _), (1, _), (4, _)] ⟨rfl, rfl, rfl, trivial⟩ (fun e => ?_)
  refine c_seq (fun K3 hK3 => ?_)
  refine c_reg ?_ -- region 2 formm.go:317
  refine wl (ro_move rfl) ?_
  refine wl (ro_move rfl) ?_
  refine wl (ro_nilCheck rfl) ?_
  refine wl (ro_fieldAddr (k := 2) rfl fo_125_2) ?_
  refine wl_put rfl rfl rfl sz_9 hB ((by simp)) (rfl) (fun w3 hB F3 => ?_)
  replace hF := hF.thenDrew.thenO F3 (by first | exact .inr (by omega) | exact .inl rfl | exact .inl (by assumption))
  replace hM := F3.blkO hM (by omega)
  refine wl_nil (x_then (hK3 _ _ ?_))
  clear hK3 K3
  refine c_seq (fun K4 hK4 => ?_)
  refine c_seq (fun K5 hK5 => ?_)
  refine c_reg ?_ -- region 3 formm.go:318
  refine wl (ro_move rfl) ?_
  refine wl (ro_lenS rfl st_9) ?_
  refine wl (ro_cmp (r := decide (s.length > 40)) rfl rfl (congrArg some (decide_eq_decide.2 (by omega)))) ?_
  refine wl_nil (x_then (hK5 _ _ ?_))
  clear hK5 K5
  refine wc_cond rfl (fun hc20 => ?_) (fun hc20 => ?_)
  · try simp only [decide_eq_true_eq, decide_eq_false_iff_not, Bool.not_eq_true', Bool.not_eq_false', Bool.not_eq_eq_eq_not, Bool.not_true, Bool.not_false, beq_iff_eq, bne_iff_ne, ne_eq, beq_eq_false_iff_ne, bne_eq_false_iff_eq, gt_iff_lt, ge_iff_le, Int.not_lt, Int.not_le] at hc20
    refine c_seq (fun K6 hK6 => ?_)
    refine c_reg ?_ -- region 4 formm.go:319
    refine wl (ro_build rfl bld_113_1_2) ?_
    refine wl_puta rfl rfl (by simp [Value.oneCell', i64c, u64c, u8c, ptr]) sz_113 (rfl) hM ((by simp)) (rfl) (fun w4 hM F4 => ?_)
    replace hF := hF.thenDrew.thenO F4 (by first | exact .inr (by omega) | exact .inl rfl | exact .inl (by assumption))
    replace hB := F4.blkO hB (by omega)
    refine wl_nil (x_then (hK6 _ _ ?_))
    clear hK6 K6
    refine c_ret (x_thenR ?_)
    refine bq_ret (res1 Tryz.results102 (rv_c rfl ag_113 (hM) rfl)) ?_
    exact ⟨by unfold prs; rw [if_neg (by omega)]; exact ⟨1, 0, by decide, rfl⟩, ⟨_, _, _, hB⟩, hF⟩
  · try simp only [decide_eq_true_eq, decide_eq_false_iff_not, Bool.not_eq_true', Bool.not_eq_false', Bool.not_eq_eq_eq_not, Bool.not_true, Bool.not_false, beq_iff_eq, bne_iff_ne, ne_eq, beq_eq_false_iff_ne, bne_eq_false_iff_eq, gt_iff_lt, ge_iff_le, Int.not_lt, Int.not_le] at hc20
    have hl : s.length ≤ 40 := by omega
    have hpe : prs s = parseP s := by unfold prs; rw [if_pos hl]
    refine c_skip (x_then (hK4 _ _ ?_))
    clear hK4 K4
    refine forget [(1, _), (4, _)] ⟨rfl, rfl, trivial⟩ (fun e => ?_)
    refine c_seq (fun K7 hK7 => ?_)
    refine c_reg ?_ -- region 5 formm.go:321
    refine wl (ro_move rfl) ?_
    refine wl (ro_build rfl bld_168_0) ?_
    refine wl_box rfl rfl (fun pb w5 hbpb hP F5 => ?_)
    have hbspb := Nat.le_trans hF.size hbpb
    have hnefbpb : fb < pb := Nat.lt_of_lt_of_le hB.lt hbpb
    have hnembpb : mb < pb := Nat.lt_of_lt_of_le hM.lt hbpb
    replace hF := hF.thenDrew.thenN F5
    replace hB := F5.blkN hB
    replace hM := F5.blkN hM
    have M0 : MR _ pb pb s 0 [] false := ⟨_, 0, 0, ⟨hP, Own.nil _ _ _, Nat.le_refl _, fun b hb ↦ by simp [Value.ownBlock] at hb, Nat.zero_le _, Nat.zero_le _, hl⟩, rfl⟩
    have hpm : mb < pb := by have := hM.lt; omega
    have hpf : fb < pb := by have := hB.lt; omega
    refine wl (ro_assign rfl) ?_
    refine wl_nil (x_then (hK7 _ _ ?_))
    clear hK7 K7
    refine forget [(4, _), (5, _)] ⟨rfl, rfl, trivial⟩ (fun e => ?_)
    refine c_seq (fun K8 hK8 => ?_)
    refine c_reg ?_ -- region 6 formm.go:322
    refine wl (ro_move rfl) ?_
    refine wl_call rfl en_131 (expr131 (rg := false) M0) ?_
    rintro _ u3 ⟨hG, G3⟩
    replace hF := hF.transG G3 (by intro k hk h; simp only [one, none', fre] at h ⊢ <;> omega)
    replace hB := G3.blkF hB (by intro h; simp only [one, none', fre] at h <;> omega)
    replace hM := G3.blkF hM (by intro h; simp only [one, none', fre] at h <;> omega)
    obtain ⟨p2, ar2, b2, z2, rfl, M3, hcs⟩ := hG.uni
    refine wl (ro_assign rfl) ?_
    refine wl_nil (x_then (hK8 _ _ ?_))
    clear hK8 K8
    refine c_mid (fun a' w' => (∃ p' b3, MR w' pb pb s p' ar2 b3 ∧ (b3 = true → parseP s = none) ∧ (b3 = false → parseP s = some ar2 ∧ z2 = (rt ar2 : Int) ∧ 1 ≤ ar2.length)) ∧ Blk w'.heap fb [icv (IntKind.i64.wrap (ca + 1)), icv cb, S s] 125 ∧ Blk w'.heap mb [.slice none 0 0, icv 0, icv 0, icv 0] 113 ∧ Fram (one fb) w w' ∧ ∃ e, a' = Fr 57 (upds e [(4, ptr mb), (5, ptr pb), (6, icv z2)]) []) ?_ ?_
    · skip
      refine c_seq (fun K9 hK9 => ?_)
      refine c_reg ?_ -- region 7 formm.go:323
      refine wl (ro_move rfl) ?_
      refine wl_call rfl en_132 (lookM M3) ?_
      rintro _ u4 ⟨rfl, M4, G4⟩
      replace hF := hF.transG G4 (by intro k hk h; simp only [one, none', fre] at h ⊢ <;> omega)
      replace hB := G4.blkF hB (by intro h; simp only [one, none', fre] at h <;> omega)
      replace hM := G4.blkF hM (by intro h; simp only [one, none', fre] at h <;> omega)
      generalize hcc : (lkc s p2 b2).1 = c
      refine wl (ro_cmp (r := decide (c.toNat ≠ 0)) rfl rfl (congrArg some (bnec c.toNat 0))) ?_
      refine wl_nil (x_then (hK9 _ _ ?_))
      clear hK9 K9
      refine wc_cond rfl (fun hc29 => ?_) (fun hc29 => ?_)
      · try simp only [decide_eq_true_eq, decide_eq_false_iff_not, Bool.not_eq_true', Bool.not_eq_false', Bool.not_eq_eq_eq_not, Bool.not_true, Bool.not_false, beq_iff_eq, bne_iff_ne, ne_eq, beq_eq_false_iff_ne, bne_eq_false_iff_eq, gt_iff_lt, ge_iff_le, Int.not_lt, Int.not_le] at hc29
        have hc0 : c ≠ 0 := fun e => hc29 (by rw [e]; rfl)
        obtain ⟨rfl, hb6, hs6, -, hts⟩ := lk_sees hcc hc0
        have hno : parseP s = none := by
          rcases hcs with ⟨h, -⟩ | ⟨-, -, -, -, -, ho⟩
          · cases h
          · rw [pa_O (s := s) ho, hts]; exact if_neg (tok_k0 hs6)
        obtain ⟨V, er, at', M, hbb⟩ := M4
        have hP := M.blk
        refine c_reg ?_ -- region 8 formm.go:324
        refine wl (ro_move rfl) ?_
        refine wl (ro_move rfl) ?_
        refine wl (ro_nilCheck rfl) ?_
        refine wl (ro_fieldAddr (k := 1) rfl fo_168_1) ?_
        refine wl (ro_loadB rfl sc_3 (hP) (rfl)) ?_
        refine wl_call rfl en_133 (failM (x := 3) (by decide) ⟨V, er, at', M, hbb⟩) ?_
        rintro _ u5 ⟨rfl, M5, G5⟩
        replace hF := hF.transG G5 (by intro k hk h; simp only [one, none', fre] at h ⊢ <;> omega)
        replace hB := G5.blkF hB (by intro h; simp only [one, none', fre] at h <;> omega)
        replace hM := G5.blkF hM (by intro h; simp only [one, none', fre] at h <;> omega)
        refine wl_nil (x_then ?_)
        first
          | exact ⟨⟨_, _, M5, fun _ => hno, fun h => (by cases h)⟩, hB, hM, hF, kp _ ⟨rfl, rfl, rfl, trivial⟩⟩
          | (refine ⟨⟨_, _, M4, ?_, ?_⟩, hB, hM, hF, kp _ ⟨rfl, rfl, rfl, trivial⟩⟩
             · intro hb
               rcases hcs with ⟨rfl, h | h⟩ | ⟨rfl, -, -, -, -, ho⟩
               · cases h
               · exact pa_F (s := s) h
               · rw [pa_O (s := s) ho, if_neg (by rw [lk1 hb]; decide)]
             · intro hb
               rcases hcs with ⟨rfl, h⟩ | ⟨rfl, -, hz, -, hl2, ho⟩
               · cases hb
               · refine ⟨?_, hz, hl2⟩
                 rcases lk_cs s p2 with ⟨h1, h2⟩ | ⟨h1, h2, h3⟩ | ⟨c', h1, h2, h3, h4, h5⟩
                 · rw [h1] at hb; cases hb
                 · rw [pa_O (s := s) ho, h2]; rfl
                 · rw [h1] at hcc
                   have : c' = 0 := hcc.trans hc0
                   subst this
                   exact absurd h4 (by decide))
      · try simp only [decide_eq_true_eq, decide_eq_false_iff_not, Bool.not_eq_true', Bool.not_eq_false', Bool.not_eq_eq_eq_not, Bool.not_true, Bool.not_false, beq_iff_eq, bne_iff_ne, ne_eq, beq_eq_false_iff_ne, bne_eq_false_iff_eq, gt_iff_lt, ge_iff_le, Int.not_lt, Int.not_le] at hc29
        have hc0 : c = 0 := (u8_eq (n := 0) (by omega)).2 (Decidable.not_not.1 hc29)
        refine c_skip (x_then ?_)
        first
          | exact ⟨⟨_, _, M5, fun _ => hno, fun h => (by cases h)⟩, hB, hM, hF, kp _ ⟨rfl, rfl, rfl, trivial⟩⟩
          | (refine ⟨⟨_, _, M4, ?_, ?_⟩, hB, hM, hF, kp _ ⟨rfl, rfl, rfl, trivial⟩⟩
             · intro hb
               rcases hcs with ⟨rfl, h | h⟩ | ⟨rfl, -, -, -, -, ho⟩
               · cases h
               · exact pa_F (s := s) h
               · rw [pa_O (s := s) ho, if_neg (by rw [lk1 hb]; decide)]
             · intro hb
               rcases hcs with ⟨rfl, h⟩ | ⟨rfl, -, hz, -, hl2, ho⟩
               · cases hb
               · refine ⟨?_, hz, hl2⟩
                 rcases lk_cs s p2 with ⟨h1, h2⟩ | ⟨h1, h2, h3⟩ | ⟨c', h1, h2, h3, h4, h5⟩
                 · rw [h1] at hb; cases hb
                 · rw [pa_O (s := s) ho, h2]; rfl
                 · rw [h1] at hcc
                   have : c' = 0 := hcc.trans hc0
                   subst this
                   exact absurd h4 (by decide))
    clear hF hB hM
    rintro a' u6 ⟨⟨p3, b3, M6, hb1, hb0⟩, hB, hM, hF, e, rfl⟩
    obtain ⟨V, er, at', M, hbb⟩ := M6
    have hP := M.blk
    refine c_seq (fun K10 hK10 => ?_)
    refine c_seq (fun K11 hK11 => ?_)
    refine c_reg ?_ -- region 9 formm.go:326
    refine wl (ro_move rfl) ?_
    refine wl (ro_nilCheck rfl) ?_
    refine wl (ro_fieldAddr (k := 3) rfl fo_168_3) ?_
    refine wl (ro_loadB rfl sc_26 (hP) (rfl)) ?_
    refine wl (ro_cmp (r := decide (er ≠ 0)) rfl rfl (congrArg some (by by_cases h : er = 0 <;> simp [h]))) ?_
    refine wl_nil (x_then (hK11 _ _ ?_))
    clear hK11 K11
    refine wc_cond rfl (fun hc40 => ?_) (fun hc40 => ?_)
    · try simp only [decide_eq_true_eq, decide_eq_false_iff_not, Bool.not_eq_true', Bool.not_eq_false', Bool.not_eq_eq_eq_not, Bool.not_true, Bool.not_false, beq_iff_eq, bne_iff_ne, ne_eq, beq_eq_false_iff_ne, bne_eq_false_iff_eq, gt_iff_lt, ge_iff_le, Int.not_lt, Int.not_le] at hc40
      refine c_seq (fun K12 hK12 => ?_)
      refine c_piL 9 [(0, false), (1, false), (2, false), (3, false), (4, false), (5, false), (6, false), (7, false), (8, false)] (fun w' => Blk w'.heap pb (rdl s p3 V er at') 168) mixed (by kernel_rfl) rfl (by kernel_rfl) (po_then (po_then (po_bp))) (hP) ?_ -- region 10 formm.go:327
      refine ql_ro rfl (fun w hS => ro_move rfl) ?_
      refine ql_ro rfl (fun w hS => ro_nilCheck rfl) ?_
      refine ql_ro rfl (fun w hS => ro_fieldAddr (k := 3) rfl fo_168_3) ?_
      refine ql_ro rfl (fun w hS => ro_loadB rfl sc_26 (hS) (rfl)) ?_
      refine ql_ro rfl (fun w hS => ro_move rfl) ?_
      refine ql_ro rfl (fun w hS => ro_nilCheck rfl) ?_
      refine ql_ro rfl (fun w hS => ro_fieldAddr (k := 4) rfl fo_168_4) ?_
      refine ql_ro rfl (fun w hS => ro_loadB rfl sc_3 (hS) (rfl)) ?_
      refine ql_ro rfl (fun w hS => ro_build rfl bld_113_1_2_3) ?_
      refine ql_puta rfl rfl rfl (by simp [Value.oneCell', i64c, u64c, u8c, ptr]) sz_113 (rfl) hM ((by simp)) (rfl) (fun w6 hM F6 => ?_)
      replace hF := hF.thenDrew.thenO F6 (by first | exact .inr (by omega) | exact .inl rfl | exact .inl (by assumption))
      replace hB := F6.blkO hB (by omega)
      replace hP := F6.blkO hP (by omega)
      refine x_then (hK12 _ _ ?_)
      clear hK12 K12
      refine c_ret (x_thenR ?_)
      refine bq_ret (res1 Tryz.results102 (rv_c rfl ag_113 (hM) rfl)) ?_
      refine ⟨?_, ⟨_, _, _, hB⟩, hF⟩
      rw [hpe, hb1 (by rw [← hbb]; simpa using hc40)]
      exact ⟨er, at', hc40, rfl⟩
    · try simp only [decide_eq_true_eq, decide_eq_false_iff_not, Bool.not_eq_true', Bool.not_eq_false', Bool.not_eq_eq_eq_not, Bool.not_true, Bool.not_false, beq_iff_eq, bne_iff_ne, ne_eq, beq_eq_false_iff_ne, bne_eq_false_iff_eq, gt_iff_lt, ge_iff_le, Int.not_lt, Int.not_le] at hc40
      refine c_skip (x_then (hK10 _ _ ?_))
      clear hK10 K10
      refine forget [(4, _), (5, _), (6, _)] ⟨rfl, rfl, rfl, trivial⟩ (fun e => ?_)
      refine c_seq (fun K13 hK13 => ?_)
      have hb3 : b3 = false := by rw [← hbb]; simpa using hc40
      obtain ⟨hpar, hz, hl2⟩ := hb0 hb3
      obtain ⟨g, cap, l', rfl, hG', hcp, hcp2, hll, htk⟩ := M.own.pos hl2
      have hG2 := hG'
      rw [cel_of l'] at hG2
      have hvl := M.vlo g rfl
      have hl24 := M.l24
      have hpl6 := M.blk.lt
      have hsz6 := hF.size
      refine c_reg ?_ -- region 11 formm.go:329
      refine wl (ro_move rfl) ?_
      refine wl (ro_nilCheck rfl) ?_
      refine wl (ro_fieldAddr (k := 2) rfl fo_168_2) ?_
      refine wl (ro_loadB rfl sc_78 (hP) (rfl)) ?_
      refine wl_call rfl en_103 (CopyNodes103 hG2 (ndV_take htk) hl2 (by omega) (by rw [hll]; exact Nat.mul_le_mul_right 13 hcp)) ?_
      rintro _ u7 ⟨qb, rfl, hqb, hQ, G7⟩
      replace hF := hF.transG G7 (by intro k hk h; simp only [one, none', fre] at h ⊢ <;> omega)
      replace hB := G7.blkF hB (by intro h; simp only [one, none', fre] at h <;> omega)
      replace hM := G7.blkF hM (by intro h; simp only [one, none', fre] at h <;> omega)
      replace hP := G7.blkF hP (by intro h; simp only [one, none', fre] at h <;> omega)
      refine wl (ro_move rfl) ?_
      refine wl (ro_build rfl bld_113_0_1) ?_
      refine wl_puta rfl rfl (by simp [Value.oneCell', i64c, u64c, u8c, ptr]) sz_113 (rfl) hM ((by simp)) (rfl) (fun w7 hM F7 => ?_)
      replace hF := hF.thenDrew.thenO F7 (by first | exact .inr (by omega) | exact .inl rfl | exact .inl (by assumption))
      replace hB := F7.blkO hB (by omega)
      replace hP := F7.blkO hP (by omega)
      refine wl_nil (x_then (hK13 _ _ ?_))
      clear hK13 K13
      refine c_ret ?_
      refine bq_ret (res1 Tryz.results102 (rv_c rfl ag_113 (hM) rfl)) ?_
      refine ⟨?_, ⟨_, _, _, hB⟩, hF⟩
      rw [hpe, hpar]
      have hzz : z2 = (ar2.length : Int) - 1 := by rw [hz]; unfold rt; omega
      subst hzz
      exact ⟨qb, rfl, by omega, F7.blkO hQ (by omega)⟩


theorem New56 {w : World} : Ret Tryz.prog 56 [] w (fun v w' => ∃ fb, v = ptr fb ∧ w.heap.size ≤ fb ∧ MFm w' fb ∧ Fram none' w w') := by
  have hF : Fram none' w w := Fram.refl _ _
  refine ret_of Tryz.func56 rfl Tryz.ntmps56 rfl ?_
  refine c_seq (fun K1 hK1 => ?_)
  refine c_reg ?_ -- region 0 formm.go:12
  refine wl (ro_assign rfl) ?_
  refine wl_nil (x_then (hK1 _ _ ?_))
  clear hK1 K1
  refine forget [] trivial (fun e => ?_)
  refine c_seq (fun K2 hK2 => ?_)
  refine c_reg ?_ -- region 1 formm.go:12
  refine wl (ro_build rfl bld_125) ?_
  refine wl_box rfl rfl (fun fb w1 hbfb hB F1 => ?_)
  have hbsfb := Nat.le_trans hF.size hbfb
  replace hF := hF.thenDrew.thenN F1
  refine wl (ro_assign rfl) ?_
  refine wl_nil (x_then (hK2 _ _ ?_))
  clear hK2 K2
  refine c_ret ?_
  refine bp_ret Tryz.results56 rfl ?_
  exact ⟨fb, rfl, by omega, ⟨_, _, _, hB⟩, hF⟩

end Go.Proofs.Qxb6500570aGreat
