import Derived.Test.Qxb6500568aGreatDoorXo
/- The model's parser: for loops. -/
namespace Go.Proofs.Qxb6500568aGreatDoor
open Ieee
set_option linter.unusedVariables false
set_option linter.unusedSimpArgs false

theorem lk_nx {G : List (Nd × Nat)} {A r : List Nd} {t : Tr} {c n : Nat} (hm : G.map Prod.fst = A ++ lay t c ++ r) (hA : A.length = c) (hL : LyE 0 t) : (lkG G (rt t c) n).map Prod.fst = A ++ nxL (lay t c) n ++ r := by
  have hp := hL.pos
  have hlen := hL.len c
  have := lkG_map (n := n) hm (fun q => by rw [q] at hlen; simp at hlen; omega)
  rw [hA, hlen] at this
  rw [hL.rt]
  exact this
section
variable {a b x y z v : Tr} {c k : Nat} {s t : Str}
theorem lay_for2 : lay (St.for2 s x y z) c = nxL (lay x c) (rt y (c + ndT x)) ++ lay y (c + ndT x) ++ lay z (c + ndT x + ndT y) ++ [⟨8, rt x c, rt z (c + ndT x + ndT y), 0, 0, 0, s⟩] := rfl
theorem lay_for3 : lay (St.for3 s x y z v) c = nxL (lay x c) (rt y (c + ndT x)) ++ nxL (lay y (c + ndT x)) (rt z (c + ndT x + ndT y)) ++ lay z (c + ndT x + ndT y) ++ lay v (c + ndT x + ndT y + ndT z) ++ [⟨8, rt x c, rt v (c + ndT x + ndT y + ndT z), 0, 0, 0, s⟩] := rfl
theorem lay_forIn : lay (St.forIn s t x y) c = [⟨17, 0, 0, 0, c + 1, 0, s⟩, ⟨17, 0, 0, 0, 0, 0, t⟩] ++ (lay x (c + 2) ++ lay y (c + 2 + ndT x) ++ [⟨9, c, rt x (c + 2), rt y (c + 2 + ndT x), 0, 0, []⟩]) := rfl
end
set_option maxHeartbeats 8000000 in
theorem for159 {n f : Nat} {w : World} {mp : Nat} {np : Value} {src : Str} {U : Value} {G : List (Nd × Nat)} {s : PS} {lv : Nat} {R : PO} (ih : MAll n) (hG : MG w mp np src U G s lv) (hlv : lv ≤ 12) (hk11 : s.k = 11) (hn : 20 * s.len + 12 ≤ n + 1) (hR : pFor (parP f) lv s.adv = some R) : Ret Tryz.prog 159 [ptr mp, i64c lv] w (MR w mp np src lv U G R) := by
  have hS0 := hG.ms
  have hg1 := hG.g1
  have hbd := hG.bd
  unfold pFor expP at hR
  have ha0 := adv_len' (s := s) (by omega)
  have ea0 : s.adv.adv.al = s.al := rfl
  have ea1 : s.adv.al = s.al := rfl
  refine ret_of Tryz.func159 rfl Tryz.ntmps159 rfl ?_
  refine c_seq (fun K1 hK1 => ?_)
  refine c_reg ?_ -- region 0 syntaxm.go:360
  refine wl (ro_assign rfl) ?_
  refine wl_nil (x_then (hK1 _ _ ?_))
  clear hK1 K1
  refine forget [(0, _), (1, _)] ⟨rfl, rfl, trivial⟩ (fun e => ?_)
  refine c_seq (fun K2 hK2 => ?_)
  refine c_reg ?_ -- region 1 syntaxm.go:361
  refine wl (ro_move rfl) ?_
  refine wl_call rfl en_48 (hS0.next (by omega)) ?_
  rintro _ u1 ⟨rfl, hS1⟩
  refine wl_nil (x_then (hK2 _ _ ?_))
  clear hK2 K2
  refine forget [(0, _), (1, _)] ⟨rfl, rfl, trivial⟩ (fun e => ?_)
  refine c_seq (fun K3 hK3 => ?_)
  rcases nameP_or hR with ⟨ee, pp, rfl, hNF⟩ | ⟨hNK, hR⟩
  · skip
    refine c_reg ?_ -- region 2 syntaxm.go:362
    refine wl (ro_move rfl) ?_
    refine wl_call rfl en_209 (hS1.nameN (x := 4) hNF (by decide) (by omega)) ?_
    rintro _ u3 ⟨⟨na, nb, rfl⟩, hE3⟩
    obtain ⟨np', src', pos', t', U', al', lo', fu', hXe, h3⟩ := hE3.blk
    unfold mpc at hXe
    refine wl (ro_move rfl) ?_
    refine wl (ro_extract rfl rfl) ?_
    refine wl (ro_extract rfl rfl) ?_
    refine wl (ro_assign rfl) ?_
    refine wl (ro_assign rfl) ?_
    refine wl_nil (x_then (hK3 _ _ ?_))
    clear hK3 K3
    refine c_seq (fun K4 hK4 => ?_)
    refine c_seq (fun K5 hK5 => ?_)
    refine c_reg ?_ -- region 3 syntaxm.go:363
    refine wl (ro_move rfl) ?_
    refine wl (ro_nilCheck rfl) ?_
    refine wl (ro_fieldAddr (k := 9) rfl fo_146_5) ?_
    refine wl (ro_loadB rfl sc_54 (by assumption) rfl) ?_
    refine wl (ro_cmp rfl rfl rfl) ?_
    refine wl_nil (x_then (hK5 _ _ ?_))
    clear hK5 K5
    refine wc_cond rfl (fun hc28 => ?_) (fun hc28 => ?_)
    · try simp only [decide_eq_true_eq, decide_eq_false_iff_not, Bool.not_eq_true', Bool.not_eq_false', Bool.not_eq_eq_eq_not, Bool.not_true, Bool.not_false, beq_iff_eq, bne_iff_ne, ne_eq, beq_eq_false_iff_ne, bne_eq_false_iff_eq, gt_iff_lt, ge_iff_le, Int.not_lt, Int.not_le] at hc28
      refine c_seq (fun K6 hK6 => ?_)
      refine c_reg ?_ -- region 4 syntaxm.go:364
      refine wl (ro_assign rfl) ?_
      refine wl_nil (x_then (hK6 _ _ ?_))
      clear hK6 K6
      refine c_ret (x_thenR ?_)
      refine bp_ret Tryz.results159 rfl ?_
      exact hE3.mr
    · try simp only [decide_eq_true_eq, decide_eq_false_iff_not, Bool.not_eq_true', Bool.not_eq_false', Bool.not_eq_eq_eq_not, Bool.not_true, Bool.not_false, beq_iff_eq, bne_iff_ne, ne_eq, beq_eq_false_iff_ne, bne_eq_false_iff_eq, gt_iff_lt, ge_iff_le, Int.not_lt, Int.not_le] at hc28
      omega
  · skip
    refine c_reg ?_ -- region 2 syntaxm.go:362
    refine wl (ro_move rfl) ?_
    refine wl_call rfl en_209 (hS1.name (x := 4) hNK (by decide)) ?_
    rintro _ u2 ⟨rfl, hS2⟩
    have hk2 := hNK.1
    have ha1 := adv_len' (s := s.adv) (by omega)
    have hal2 : s.al + 4 ≤ 12 := by have := hNK.2; omega
    generalize e2 : s.adv.adv = s2 at hR hS2 ha1 ea0
    obtain ⟨pos2, hX2, hpos2⟩ := hS2.a.v.ex
    unfold mpc at hX2
    refine wl (ro_move rfl) ?_
    refine wl (ro_extract rfl rfl) ?_
    refine wl (ro_extract rfl rfl) ?_
    refine wl (ro_assign rfl) ?_
    refine wl (ro_assign rfl) ?_
    refine wl_nil (x_then (hK3 _ _ ?_))
    clear hK3 K3
    refine c_seq (fun K7 hK7 => ?_)
    refine c_seq (fun K8 hK8 => ?_)
    refine c_reg ?_ -- region 3 syntaxm.go:363
    refine wl (ro_move rfl) ?_
    refine wl (ro_nilCheck rfl) ?_
    refine wl (ro_fieldAddr (k := 9) rfl fo_146_5) ?_
    refine wl (ro_loadB rfl sc_54 (by assumption) rfl) ?_
    refine wl (ro_cmp rfl rfl rfl) ?_
    refine wl_nil (x_then (hK8 _ _ ?_))
    clear hK8 K8
    refine wc_cond rfl (fun hc28 => ?_) (fun hc28 => ?_)
    · try simp only [decide_eq_true_eq, decide_eq_false_iff_not, Bool.not_eq_true', Bool.not_eq_false', Bool.not_eq_eq_eq_not, Bool.not_true, Bool.not_false, beq_iff_eq, bne_iff_ne, ne_eq, beq_eq_false_iff_ne, bne_eq_false_iff_eq, gt_iff_lt, ge_iff_le, Int.not_lt, Int.not_le] at hc28
      exact absurd rfl hc28
    · try simp only [decide_eq_true_eq, decide_eq_false_iff_not, Bool.not_eq_true', Bool.not_eq_false', Bool.not_eq_eq_eq_not, Bool.not_true, Bool.not_false, beq_iff_eq, bne_iff_ne, ne_eq, beq_eq_false_iff_ne, bne_eq_false_iff_eq, gt_iff_lt, ge_iff_le, Int.not_lt, Int.not_le] at hc28
      refine c_skip (x_then (hK7 _ _ ?_))
      clear hK7 K7
      refine c_seq (fun K9 hK9 => ?_)
      refine c_seq (fun K10 hK10 => ?_)
      refine c_reg ?_ -- region 5 syntaxm.go:366
      refine wl (ro_move rfl) ?_
      refine wl_call rfl en_156 (hS2.is (k := 45) (by decide) (by decide)) ?_
      rintro _ w9 ⟨rfl, e9⟩
      replace e9 := e9.symm
      subst e9
      refine wl_nil (x_then (hK10 _ _ ?_))
      clear hK10 K10
      refine wc_cond rfl (fun hc30 => ?_) (fun hc30 => ?_)
      · try simp only [decide_eq_true_eq, decide_eq_false_iff_not, Bool.not_eq_true', Bool.not_eq_false', Bool.not_eq_eq_eq_not, Bool.not_true, Bool.not_false, beq_iff_eq, bne_iff_ne, ne_eq, beq_eq_false_iff_ne, bne_eq_false_iff_eq, gt_iff_lt, ge_iff_le, Int.not_lt, Int.not_le] at hc30
        rw [if_pos (by omega)] at hR
        have ha2 := adv_len' (s := s2) (by omega)
        refine c_seq (fun K11 hK11 => ?_)
        refine c_reg ?_ -- region 6 syntaxm.go:367
        refine wl (ro_move rfl) ?_
        refine wl_call rfl en_48 (hS2.next (by omega)) ?_
        rintro _ u3 ⟨rfl, hS3⟩
        refine wl_nil (x_then (hK11 _ _ ?_))
        clear hK11 K11
        refine forget [(0, _), (1, _), (5, _), (6, _)] ⟨rfl, rfl, rfl, rfl, trivial⟩ (fun e => ?_)
        refine c_seq (fun K12 hK12 => ?_)
        rcases nameP_or hR with ⟨ee, pp, rfl, hNF⟩ | ⟨hNK2, hR⟩
        · skip
          refine c_reg ?_ -- region 7 syntaxm.go:368
          refine wl (ro_move rfl) ?_
          refine wl_call rfl en_209 (hS3.nameN (x := 0) hNF (by decide) (by omega)) ?_
          rintro _ u4 ⟨⟨na, nb, rfl⟩, hE4⟩
          refine wl (ro_move rfl) ?_
          refine wl (ro_extract rfl rfl) ?_
          refine wl (ro_extract rfl rfl) ?_
          refine wl (ro_assign rfl) ?_
          refine wl (ro_assign rfl) ?_
          refine wl_nil (x_then (hK12 _ _ ?_))
          clear hK12 K12
          refine forget [(0, _), (1, _), (5, _), (6, _), (7, _), (8, _)] ⟨rfl, rfl, rfl, rfl, rfl, rfl, trivial⟩ (fun e => ?_)
          refine c_seq (fun K13 hK13 => ?_)
          refine c_reg ?_ -- region 8 syntaxm.go:369
          refine wl (ro_move rfl) ?_
          refine wl_call rfl en_211 (hE4.want) ?_
          rintro _ u5 ⟨rfl, hE5⟩
          obtain ⟨np', src', pos', t', U', al', lo', fu', hXe, h3⟩ := hE5.blk
          unfold mpc at hXe
          refine wl_nil (x_then (hK13 _ _ ?_))
          clear hK13 K13
          refine c_seq (fun K14 hK14 => ?_)
          refine c_seq (fun K15 hK15 => ?_)
          refine c_reg ?_ -- region 9 syntaxm.go:370
          refine wl (ro_move rfl) ?_
          refine wl (ro_nilCheck rfl) ?_
          refine wl (ro_fieldAddr (k := 9) rfl fo_146_5) ?_
          refine wl (ro_loadB rfl sc_54 (by assumption) rfl) ?_
          refine wl (ro_cmp rfl rfl rfl) ?_
          refine wl_nil (x_then (hK15 _ _ ?_))
          clear hK15 K15
          refine wc_cond rfl (fun hc44 => ?_) (fun hc44 => ?_)
          · try simp only [decide_eq_true_eq, decide_eq_false_iff_not, Bool.not_eq_true', Bool.not_eq_false', Bool.not_eq_eq_eq_not, Bool.not_true, Bool.not_false, beq_iff_eq, bne_iff_ne, ne_eq, beq_eq_false_iff_ne, bne_eq_false_iff_eq, gt_iff_lt, ge_iff_le, Int.not_lt, Int.not_le] at hc44
            refine c_seq (fun K16 hK16 => ?_)
            refine c_reg ?_ -- region 10 syntaxm.go:371
            refine wl (ro_assign rfl) ?_
            refine wl_nil (x_then (hK16 _ _ ?_))
            clear hK16 K16
            refine c_ret (x_thenR (x_thenR ?_))
            refine bp_ret Tryz.results159 rfl ?_
            exact hE5.mr
          · try simp only [decide_eq_true_eq, decide_eq_false_iff_not, Bool.not_eq_true', Bool.not_eq_false', Bool.not_eq_eq_eq_not, Bool.not_true, Bool.not_false, beq_iff_eq, bne_iff_ne, ne_eq, beq_eq_false_iff_ne, bne_eq_false_iff_eq, gt_iff_lt, ge_iff_le, Int.not_lt, Int.not_le] at hc44
            omega
        · skip
          refine c_reg ?_ -- region 7 syntaxm.go:368
          refine wl (ro_move rfl) ?_
          refine wl_call rfl en_209 (hS3.name (x := 0) hNK2 (by decide)) ?_
          rintro _ u4 ⟨rfl, hS4⟩
          have hk3 := hNK2.1
          have ha3 := adv_len' (s := s2.adv) (by omega)
          refine wl (ro_move rfl) ?_
          refine wl (ro_extract rfl rfl) ?_
          refine wl (ro_extract rfl rfl) ?_
          refine wl (ro_assign rfl) ?_
          refine wl (ro_assign rfl) ?_
          refine wl_nil (x_then (hK12 _ _ ?_))
          clear hK12 K12
          refine forget [(0, _), (1, _), (5, _), (6, _), (7, _), (8, _)] ⟨rfl, rfl, rfl, rfl, rfl, rfl, trivial⟩ (fun e => ?_)
          refine c_seq (fun K17 hK17 => ?_)
          by_cases hk14 : s2.adv.adv.k = 14
          · skip
            rw [if_pos hk14] at hR
            refine c_reg ?_ -- region 8 syntaxm.go:369
            refine wl (ro_move rfl) ?_
            refine wl_call rfl en_211 (hS4.want (k := 14) (by decide) (by decide) (by omega) hk14) ?_
            rintro _ u5 ⟨rfl, hS5⟩
            have ha4 := adv_len' (s := s2.adv.adv) (by omega)
            have e51 : s2.adv.adv.adv.al = s2.al := rfl
            generalize e5 : s2.adv.adv.adv = s5 at hR hS5 ha4 e51
            obtain ⟨pos5, hX5, hpos5⟩ := hS5.a.v.ex
            unfold mpc at hX5
            refine wl_nil (x_then (hK17 _ _ ?_))
            clear hK17 K17
            refine c_seq (fun K18 hK18 => ?_)
            refine c_seq (fun K19 hK19 => ?_)
            refine c_reg ?_ -- region 9 syntaxm.go:370
            refine wl (ro_move rfl) ?_
            refine wl (ro_nilCheck rfl) ?_
            refine wl (ro_fieldAddr (k := 9) rfl fo_146_5) ?_
            refine wl (ro_loadB rfl sc_54 (by assumption) rfl) ?_
            refine wl (ro_cmp rfl rfl rfl) ?_
            refine wl_nil (x_then (hK19 _ _ ?_))
            clear hK19 K19
            refine wc_cond rfl (fun hc44 => ?_) (fun hc44 => ?_)
            · try simp only [decide_eq_true_eq, decide_eq_false_iff_not, Bool.not_eq_true', Bool.not_eq_false', Bool.not_eq_eq_eq_not, Bool.not_true, Bool.not_false, beq_iff_eq, bne_iff_ne, ne_eq, beq_eq_false_iff_ne, bne_eq_false_iff_eq, gt_iff_lt, ge_iff_le, Int.not_lt, Int.not_le] at hc44
              exact absurd rfl hc44
            · try simp only [decide_eq_true_eq, decide_eq_false_iff_not, Bool.not_eq_true', Bool.not_eq_false', Bool.not_eq_eq_eq_not, Bool.not_true, Bool.not_false, beq_iff_eq, bne_iff_ne, ne_eq, beq_eq_false_iff_ne, bne_eq_false_iff_eq, gt_iff_lt, ge_iff_le, Int.not_lt, Int.not_le] at hc44
              refine c_skip (x_then (hK18 _ _ ?_))
              clear hK18 K18
              refine forget [(0, _), (1, _), (5, _), (6, _), (7, _), (8, _)] ⟨rfl, rfl, rfl, rfl, rfl, rfl, trivial⟩ (fun e => ?_)
              refine c_seq (fun K20 hK20 => ?_)
              refine c_reg ?_ -- region 11 syntaxm.go:373
              refine wl (ro_move rfl) ?_
              refine wl (ro_move rfl) ?_
              refine wl (ro_move rfl) ?_
              refine wl (ro_build rfl bld_148_0_6_7) ?_
              refine wl_call rfl en_162 (hS5.add (x := (⟨17, 0, 0, 0, 0, 0, s.adv.cur.s⟩, s.adv.cur.pl)) (by omega)) ?_
              rintro _ u6 ⟨rfl, U6, hS6⟩
              refine wl (ro_assign rfl) ?_
              refine wl_nil (x_then (hK20 _ _ ?_))
              clear hK20 K20
              refine forget [(0, _), (1, _), (6, _), (7, _), (8, _), (9, _)] ⟨rfl, rfl, rfl, rfl, rfl, rfl, trivial⟩ (fun e => ?_)
              refine c_seq (fun K21 hK21 => ?_)
              refine c_reg ?_ -- region 12 syntaxm.go:374
              refine wl (ro_move rfl) ?_
              refine wl (ro_move rfl) ?_
              refine wl (ro_move rfl) ?_
              refine wl (ro_build rfl bld_148_0_6_7) ?_
              refine wl_call rfl en_162 (hS6.add (x := (⟨17, 0, 0, 0, 0, 0, s2.adv.cur.s⟩, s2.adv.cur.pl)) (by rw [List.length_append]; simp only [List.length_cons, List.length_nil]; omega)) ?_
              rintro _ u7 ⟨e7, U7, hS7⟩
              have l7 : (G ++ [((⟨17, 0, 0, 0, 0, 0, s.adv.cur.s⟩ : Nd), s.adv.cur.pl)]).length = G.length + 1 := by simp
              rw [l7] at e7
              subst e7
              have m7 := lk2 (G := G) (a := s.adv.cur.s) (b := s2.adv.cur.s) (p := s.adv.cur.pl) (q := s2.adv.cur.pl)
              have l7 : (G ++ [((⟨17, 0, 0, 0, 0, 0, s.adv.cur.s⟩ : Nd), s.adv.cur.pl)] ++ [((⟨17, 0, 0, 0, 0, 0, s2.adv.cur.s⟩ : Nd), s2.adv.cur.pl)]).length = G.length + 2 := by simp
              generalize (G ++ [((⟨17, 0, 0, 0, 0, 0, s.adv.cur.s⟩ : Nd), s.adv.cur.pl)] ++ [((⟨17, 0, 0, 0, 0, 0, s2.adv.cur.s⟩ : Nd), s2.adv.cur.pl)]) = G7 at hS7 m7 l7
              obtain ⟨g7, cap7, c7, e7, hO7⟩ := hS7.a.open (by omega)
              subst e7
              obtain ⟨pos7, hX7, hpos7⟩ := hS7.a.v.ex
              unfold mpc at hX7
              have hB7 := hO7.b
              have hne7 := hO7.ne
              have hL7 : Fram (one g7) u7 u7 := Fram.refl _ _
              have hg7 : one g7 g7 := rfl
              refine wl (ro_assign rfl) ?_
              refine wl_nil (x_then (hK21 _ _ ?_))
              clear hK21 K21
              refine forget [(0, _), (1, _), (6, _), (9, _), (10, _)] ⟨rfl, rfl, rfl, rfl, rfl, trivial⟩ (fun e => ?_)
              refine c_seq (fun K22 hK22 => ?_)
              refine c_reg ?_ -- region 13 syntaxm.go:375
              refine wl (ro_move rfl) ?_
              refine wl (ro_nilCheck rfl) ?_
              refine wl (ro_fieldAddr (k := 8) rfl fo_146_4) ?_
              refine wl (ro_loadB rfl sc_77 (by assumption) rfl) ?_
              refine wl (ro_move rfl) ?_
              refine wl (ro_move rfl) ?_
              refine wl (ro_indexAddr (et := 148) (k := 8) rfl rfl se_77 (rfl) ((by omega))) ?_
              refine wl (ro_fieldAddr (k := 4) rfl fo_148_4) ?_
              refine wl_put rfl rfl rfl sz_3 hB7 ((by have := hO7.k3; have := hO7.k1; omega)) (rfl) (fun w1 hB7 F1 => ?_)
              replace hX7 := F1.blkO hX7 (by omega)
              replace hL7 := hL7.thenDrew.thenO F1 (by first | exact .inr (by omega) | exact .inl rfl | exact .inl (by assumption) | assumption)
              refine wl_nil (x_then (hK22 _ _ ?_))
              clear hK22 K22
              refine forget [(0, _), (1, _), (6, _), (9, _)] ⟨rfl, rfl, rfl, rfl, trivial⟩ (fun e => ?_)
              refine c_seq (fun K23 hK23 => ?_)
              rcases bdP_some hR with ⟨⟨ee, pp⟩, hq, rfl⟩ | ⟨t1, s1, hq, hR⟩
              · skip
                have hS8 := hS7.link hO7 (by omega) hB7 hL7
                have l8 : (lkG G7 G.length (G.length + 1)).length = G.length + 2 := by rw [lkG_len]; exact l7
                generalize lkG G7 G.length (G.length + 1) = G8 at hS8 m7 l8
                refine c_reg ?_ -- region 14 syntaxm.go:376
                refine wl (ro_move rfl) ?_
                refine wl (ro_move rfl) ?_
                refine wl (ro_arith rfl rfl rfl (Go.IntWalk.i64_in _ (by omega))) ?_
                refine wl_call rfl en_160 (hS8.xE ih hlv (by omega) hq) ?_
                rintro v u9 ⟨⟨z, rfl⟩, hE9⟩
                obtain ⟨np', src', pos', t', U', al', lo', fu', hXe, h3⟩ := hE9.blk
                unfold mpc at hXe
                refine wl (ro_assign rfl) ?_
                refine wl_nil (x_then (hK23 _ _ ?_))
                clear hK23 K23
                refine c_seq (fun K24 hK24 => ?_)
                refine c_seq (fun K25 hK25 => ?_)
                refine c_reg ?_ -- region 15 syntaxm.go:377
                refine wl (ro_move rfl) ?_
                refine wl (ro_nilCheck rfl) ?_
                refine wl (ro_fieldAddr (k := 9) rfl fo_146_5) ?_
                refine wl (ro_loadB rfl sc_54 (by assumption) rfl) ?_
                refine wl (ro_cmp rfl rfl rfl) ?_
                refine wl_nil (x_then (hK25 _ _ ?_))
                clear hK25 K25
                refine wc_cond rfl (fun hc71 => ?_) (fun hc71 => ?_)
                · try simp only [decide_eq_true_eq, decide_eq_false_iff_not, Bool.not_eq_true', Bool.not_eq_false', Bool.not_eq_eq_eq_not, Bool.not_true, Bool.not_false, beq_iff_eq, bne_iff_ne, ne_eq, beq_eq_false_iff_ne, bne_eq_false_iff_eq, gt_iff_lt, ge_iff_le, Int.not_lt, Int.not_le] at hc71
                  refine c_seq (fun K26 hK26 => ?_)
                  refine c_reg ?_ -- region 16 syntaxm.go:378
                  refine wl (ro_assign rfl) ?_
                  refine wl_nil (x_then (hK26 _ _ ?_))
                  clear hK26 K26
                  refine c_ret (x_thenR (x_thenR ?_))
                  refine bp_ret Tryz.results159 rfl ?_
                  exact hE9.mr
                · try simp only [decide_eq_true_eq, decide_eq_false_iff_not, Bool.not_eq_true', Bool.not_eq_false', Bool.not_eq_eq_eq_not, Bool.not_true, Bool.not_false, beq_iff_eq, bne_iff_ne, ne_eq, beq_eq_false_iff_ne, bne_eq_false_iff_eq, gt_iff_lt, ge_iff_le, Int.not_lt, Int.not_le] at hc71
                  omega
              · skip
                have hS8 := hS7.link hO7 (by omega) hB7 hL7
                have l8 : (lkG G7 G.length (G.length + 1)).length = G.length + 2 := by rw [lkG_len]; exact l7
                generalize lkG G7 G.length (G.length + 1) = G8 at hS8 m7 l8
                refine c_reg ?_ -- region 14 syntaxm.go:376
                refine wl (ro_move rfl) ?_
                refine wl (ro_move rfl) ?_
                refine wl (ro_arith rfl rfl rfl (Go.IntWalk.i64_in _ (by omega))) ?_
                refine wl_call rfl en_160 (hS8.xK ih hlv (by omega) hq) ?_
                rintro v u9 ⟨U9, G9, rfl, hS9, m9, l9, q9, al9, b9⟩
                obtain ⟨pos9, hX9, hpos9⟩ := hS9.a.v.ex
                unfold mpc at hX9
                refine wl (ro_assign rfl) ?_
                refine wl_nil (x_then (hK23 _ _ ?_))
                clear hK23 K23
                refine c_seq (fun K27 hK27 => ?_)
                refine c_seq (fun K28 hK28 => ?_)
                refine c_reg ?_ -- region 15 syntaxm.go:377
                refine wl (ro_move rfl) ?_
                refine wl (ro_nilCheck rfl) ?_
                refine wl (ro_fieldAddr (k := 9) rfl fo_146_5) ?_
                refine wl (ro_loadB rfl sc_54 (by assumption) rfl) ?_
                refine wl (ro_cmp rfl rfl rfl) ?_
                refine wl_nil (x_then (hK28 _ _ ?_))
                clear hK28 K28
                refine wc_cond rfl (fun hc71 => ?_) (fun hc71 => ?_)
                · try simp only [decide_eq_true_eq, decide_eq_false_iff_not, Bool.not_eq_true', Bool.not_eq_false', Bool.not_eq_eq_eq_not, Bool.not_true, Bool.not_false, beq_iff_eq, bne_iff_ne, ne_eq, beq_eq_false_iff_ne, bne_eq_false_iff_eq, gt_iff_lt, ge_iff_le, Int.not_lt, Int.not_le] at hc71
                  exact absurd rfl hc71
                · try simp only [decide_eq_true_eq, decide_eq_false_iff_not, Bool.not_eq_true', Bool.not_eq_false', Bool.not_eq_eq_eq_not, Bool.not_true, Bool.not_false, beq_iff_eq, bne_iff_ne, ne_eq, beq_eq_false_iff_ne, bne_eq_false_iff_eq, gt_iff_lt, ge_iff_le, Int.not_lt, Int.not_le] at hc71
                  refine c_skip (x_then (hK27 _ _ ?_))
                  clear hK27 K27
                  refine forget [(0, _), (1, _), (6, _), (9, _), (11, _)] ⟨rfl, rfl, rfl, rfl, rfl, trivial⟩ (fun e => ?_)
                  refine c_seq (fun K29 hK29 => ?_)
                  rcases bdP_some hR with ⟨⟨ee, pp⟩, hq, rfl⟩ | ⟨t3, s3, hq, hR⟩
                  · skip
                    refine c_reg ?_ -- region 17 syntaxm.go:380
                    refine wl (ro_move rfl) ?_
                    refine wl (ro_move rfl) ?_
                    refine wl_call rfl en_161 (hS9.dE (m := 4) ih hlv (by decide) (by omega) (by omega) hq) ?_
                    rintro v u10 ⟨⟨z, rfl⟩, hE10⟩
                    obtain ⟨np', src', pos', t', U', al', lo', fu', hXe, h3⟩ := hE10.blk
                    unfold mpc at hXe
                    refine wl (ro_assign rfl) ?_
                    refine wl_nil (x_then (hK29 _ _ ?_))
                    clear hK29 K29
                    refine c_seq (fun K30 hK30 => ?_)
                    refine c_seq (fun K31 hK31 => ?_)
                    refine c_reg ?_ -- region 18 syntaxm.go:381
                    refine wl (ro_move rfl) ?_
                    refine wl (ro_nilCheck rfl) ?_
                    refine wl (ro_fieldAddr (k := 9) rfl fo_146_5) ?_
                    refine wl (ro_loadB rfl sc_54 (by assumption) rfl) ?_
                    refine wl (ro_cmp rfl rfl rfl) ?_
                    refine wl_nil (x_then (hK31 _ _ ?_))
                    clear hK31 K31
                    refine wc_cond rfl (fun hc79 => ?_) (fun hc79 => ?_)
                    · try simp only [decide_eq_true_eq, decide_eq_false_iff_not, Bool.not_eq_true', Bool.not_eq_false', Bool.not_eq_eq_eq_not, Bool.not_true, Bool.not_false, beq_iff_eq, bne_iff_ne, ne_eq, beq_eq_false_iff_ne, bne_eq_false_iff_eq, gt_iff_lt, ge_iff_le, Int.not_lt, Int.not_le] at hc79
                      refine c_seq (fun K32 hK32 => ?_)
                      refine c_reg ?_ -- region 19 syntaxm.go:382
                      refine wl (ro_assign rfl) ?_
                      refine wl_nil (x_then (hK32 _ _ ?_))
                      clear hK32 K32
                      refine c_ret (x_thenR (x_thenR ?_))
                      refine bp_ret Tryz.results159 rfl ?_
                      exact hE10.mr
                    · try simp only [decide_eq_true_eq, decide_eq_false_iff_not, Bool.not_eq_true', Bool.not_eq_false', Bool.not_eq_eq_eq_not, Bool.not_true, Bool.not_false, beq_iff_eq, bne_iff_ne, ne_eq, beq_eq_false_iff_ne, bne_eq_false_iff_eq, gt_iff_lt, ge_iff_le, Int.not_lt, Int.not_le] at hc79
                      omega
                  · skip
                    refine c_reg ?_ -- region 17 syntaxm.go:380
                    refine wl (ro_move rfl) ?_
                    refine wl (ro_move rfl) ?_
                    refine wl_call rfl en_161 (hS9.dK (m := 4) ih hlv (by decide) (by omega) (by omega) hq) ?_
                    rintro v u10 ⟨U10, G10, rfl, hS10, m10, l10, q10, al10, b10⟩
                    obtain ⟨pos10, hX10, hpos10⟩ := hS10.a.v.ex
                    unfold mpc at hX10
                    refine wl (ro_assign rfl) ?_
                    refine wl_nil (x_then (hK29 _ _ ?_))
                    clear hK29 K29
                    refine c_seq (fun K33 hK33 => ?_)
                    refine c_seq (fun K34 hK34 => ?_)
                    refine c_reg ?_ -- region 18 syntaxm.go:381
                    refine wl (ro_move rfl) ?_
                    refine wl (ro_nilCheck rfl) ?_
                    refine wl (ro_fieldAddr (k := 9) rfl fo_146_5) ?_
                    refine wl (ro_loadB rfl sc_54 (by assumption) rfl) ?_
                    refine wl (ro_cmp rfl rfl rfl) ?_
                    refine wl_nil (x_then (hK34 _ _ ?_))
                    clear hK34 K34
                    refine wc_cond rfl (fun hc79 => ?_) (fun hc79 => ?_)
                    · try simp only [decide_eq_true_eq, decide_eq_false_iff_not, Bool.not_eq_true', Bool.not_eq_false', Bool.not_eq_eq_eq_not, Bool.not_true, Bool.not_false, beq_iff_eq, bne_iff_ne, ne_eq, beq_eq_false_iff_ne, bne_eq_false_iff_eq, gt_iff_lt, ge_iff_le, Int.not_lt, Int.not_le] at hc79
                      exact absurd rfl hc79
                    · try simp only [decide_eq_true_eq, decide_eq_false_iff_not, Bool.not_eq_true', Bool.not_eq_false', Bool.not_eq_eq_eq_not, Bool.not_true, Bool.not_false, beq_iff_eq, bne_iff_ne, ne_eq, beq_eq_false_iff_ne, bne_eq_false_iff_eq, gt_iff_lt, ge_iff_le, Int.not_lt, Int.not_le] at hc79
                      refine c_skip (x_then (hK33 _ _ ?_))
                      clear hK33 K33
                      refine forget [(0, _), (6, _), (9, _), (11, _), (12, _)] ⟨rfl, rfl, rfl, rfl, rfl, trivial⟩ (fun e => ?_)
                      refine c_seq (fun K35 hK35 => ?_)
                      refine c_reg ?_ -- region 20 syntaxm.go:384
                      refine wl (ro_move rfl) ?_
                      refine wl (ro_move rfl) ?_
                      refine wl (ro_move rfl) ?_
                      refine wl (ro_move rfl) ?_
                      refine wl (ro_move rfl) ?_
                      refine wl (ro_build rfl bld_148_0_1_2_3_7) ?_
                      refine wl_call rfl en_162 (hS10.add (x := (⟨9, G.length, rt t1 G8.length, rt t3 G9.length, 0, 0, []⟩, s.adv.cur.pl)) (by have := hS10.bd; omega)) ?_
                      rintro _ u11 ⟨rfl, U11, hS11⟩
                      refine wl (ro_assign rfl) ?_
                      refine wl_nil (x_then (hK35 _ _ ?_))
                      clear hK35 K35
                      refine c_ret (x_thenR ?_)
                      refine bp_ret Tryz.results159 rfl ?_
                      cases okP_inj hR
                      refine hS11.fin ?_ ?_ ?_
                      · rw [List.map_append, m10, m9, m7, lay_forIn, l9, l8]
                        simp only [List.append_assoc]
                        rfl
                      · rw [List.length_append]
                        show _ = G.length + (3 + ndT t1 + ndT t3)
                        simp only [List.length_cons, List.length_nil]
                        omega
                      · show _ = G.length + (3 + ndT t1 + ndT t3) - 1
                        omega
          · skip
            rw [if_neg hk14] at hR
            cases failP_inj hR
            refine c_reg ?_ -- region 8 syntaxm.go:369
            refine wl (ro_move rfl) ?_
            refine wl_call rfl en_211 (hS4.wantN (k := 14) (by decide) (by decide) (by omega) hk14) ?_
            rintro _ u5 ⟨rfl, hE5⟩
            obtain ⟨np', src', pos', t', U', al', lo', fu', hXe, h3⟩ := hE5.blk
            unfold mpc at hXe
            refine wl_nil (x_then (hK17 _ _ ?_))
            clear hK17 K17
            refine c_seq (fun K36 hK36 => ?_)
            refine c_seq (fun K37 hK37 => ?_)
            refine c_reg ?_ -- region 9 syntaxm.go:370
            refine wl (ro_move rfl) ?_
            refine wl (ro_nilCheck rfl) ?_
            refine wl (ro_fieldAddr (k := 9) rfl fo_146_5) ?_
            refine wl (ro_loadB rfl sc_54 (by assumption) rfl) ?_
            refine wl (ro_cmp rfl rfl rfl) ?_
            refine wl_nil (x_then (hK37 _ _ ?_))
            clear hK37 K37
            refine wc_cond rfl (fun hc44 => ?_) (fun hc44 => ?_)
            · try simp only [decide_eq_true_eq, decide_eq_false_iff_not, Bool.not_eq_true', Bool.not_eq_false', Bool.not_eq_eq_eq_not, Bool.not_true, Bool.not_false, beq_iff_eq, bne_iff_ne, ne_eq, beq_eq_false_iff_ne, bne_eq_false_iff_eq, gt_iff_lt, ge_iff_le, Int.not_lt, Int.not_le] at hc44
              refine c_seq (fun K38 hK38 => ?_)
              refine c_reg ?_ -- region 10 syntaxm.go:371
              refine wl (ro_assign rfl) ?_
              refine wl_nil (x_then (hK38 _ _ ?_))
              clear hK38 K38
              refine c_ret (x_thenR (x_thenR ?_))
              refine bp_ret Tryz.results159 rfl ?_
              exact hE5.mr
            · try simp only [decide_eq_true_eq, decide_eq_false_iff_not, Bool.not_eq_true', Bool.not_eq_false', Bool.not_eq_eq_eq_not, Bool.not_true, Bool.not_false, beq_iff_eq, bne_iff_ne, ne_eq, beq_eq_false_iff_ne, bne_eq_false_iff_eq, gt_iff_lt, ge_iff_le, Int.not_lt, Int.not_le] at hc44
              omega
      · try simp only [decide_eq_true_eq, decide_eq_false_iff_not, Bool.not_eq_true', Bool.not_eq_false', Bool.not_eq_eq_eq_not, Bool.not_true, Bool.not_false, beq_iff_eq, bne_iff_ne, ne_eq, beq_eq_false_iff_ne, bne_eq_false_iff_eq, gt_iff_lt, ge_iff_le, Int.not_lt, Int.not_le] at hc30
        rw [if_neg (by omega)] at hR
        refine c_skip (x_then (hK9 _ _ ?_))
        clear hK9 K9
        refine forget [(0, _), (1, _), (5, _), (6, _)] ⟨rfl, rfl, rfl, rfl, trivial⟩ (fun e => ?_)
        refine c_seq (fun K39 hK39 => ?_)
        by_cases hk38 : s2.k = 38
        · skip
          rw [if_pos hk38] at hR
          refine c_reg ?_ -- region 21 syntaxm.go:386
          refine wl (ro_move rfl) ?_
          refine wl_call rfl en_211 (hS2.want (k := 38) (by decide) (by decide) (by omega) hk38) ?_
          rintro _ u5 ⟨rfl, hS5⟩
          have ha2 := adv_len' (s := s2) (by omega)
          have e51 : s2.adv.al = s2.al := rfl
          generalize e5 : s2.adv = s5 at hR hS5 ha2 e51
          obtain ⟨pos5, hX5, hpos5⟩ := hS5.a.v.ex
          unfold mpc at hX5
          refine wl_nil (x_then (hK39 _ _ ?_))
          clear hK39 K39
          refine c_seq (fun K40 hK40 => ?_)
          refine c_seq (fun K41 hK41 => ?_)
          refine c_reg ?_ -- region 22 syntaxm.go:387
          refine wl (ro_move rfl) ?_
          refine wl (ro_nilCheck rfl) ?_
          refine wl (ro_fieldAddr (k := 9) rfl fo_146_5) ?_
          refine wl (ro_loadB rfl sc_54 (by assumption) rfl) ?_
          refine wl (ro_cmp rfl rfl rfl) ?_
          refine wl_nil (x_then (hK41 _ _ ?_))
          clear hK41 K41
          refine wc_cond rfl (fun hc93 => ?_) (fun hc93 => ?_)
          · try simp only [decide_eq_true_eq, decide_eq_false_iff_not, Bool.not_eq_true', Bool.not_eq_false', Bool.not_eq_eq_eq_not, Bool.not_true, Bool.not_false, beq_iff_eq, bne_iff_ne, ne_eq, beq_eq_false_iff_ne, bne_eq_false_iff_eq, gt_iff_lt, ge_iff_le, Int.not_lt, Int.not_le] at hc93
            exact absurd rfl hc93
          · try simp only [decide_eq_true_eq, decide_eq_false_iff_not, Bool.not_eq_true', Bool.not_eq_false', Bool.not_eq_eq_eq_not, Bool.not_true, Bool.not_false, beq_iff_eq, bne_iff_ne, ne_eq, beq_eq_false_iff_ne, bne_eq_false_iff_eq, gt_iff_lt, ge_iff_le, Int.not_lt, Int.not_le] at hc93
            refine c_skip (x_then (hK40 _ _ ?_))
            clear hK40 K40
            refine forget [(0, _), (1, _), (5, _), (6, _)] ⟨rfl, rfl, rfl, rfl, trivial⟩ (fun e => ?_)
            refine c_seq (fun K42 hK42 => ?_)
            rcases bdP_some hR with ⟨⟨ee, pp⟩, hq, rfl⟩ | ⟨t1, s1, hq, hR⟩
            · skip
              refine c_reg ?_ -- region 24 syntaxm.go:390
              refine wl (ro_move rfl) ?_
              refine wl (ro_move rfl) ?_
              refine wl (ro_arith rfl rfl rfl (Go.IntWalk.i64_in _ (by omega))) ?_
              refine wl_call rfl en_160 (hS5.xE ih hlv (by omega) hq) ?_
              rintro v u6 ⟨⟨z, rfl⟩, hE6⟩
              refine wl (ro_assign rfl) ?_
              refine wl_nil (x_then (hK42 _ _ ?_))
              clear hK42 K42
              refine forget [(0, _), (1, _), (5, _), (6, _), (13, _)] ⟨rfl, rfl, rfl, rfl, rfl, trivial⟩ (fun e => ?_)
              refine c_seq (fun K43 hK43 => ?_)
              refine c_reg ?_ -- region 25 syntaxm.go:391
              refine wl (ro_move rfl) ?_
              refine wl_call rfl en_211 (hE6.want) ?_
              rintro _ u7 ⟨rfl, hE7⟩
              obtain ⟨np', src', pos', t', U', al', lo', fu', hXe, h3⟩ := hE7.blk
              unfold mpc at hXe
              refine wl_nil (x_then (hK43 _ _ ?_))
              clear hK43 K43
              refine c_seq (fun K44 hK44 => ?_)
              refine c_seq (fun K45 hK45 => ?_)
              refine c_reg ?_ -- region 26 syntaxm.go:392
              refine wl (ro_move rfl) ?_
              refine wl (ro_nilCheck rfl) ?_
              refine wl (ro_fieldAddr (k := 9) rfl fo_146_5) ?_
              refine wl (ro_loadB rfl sc_54 (by assumption) rfl) ?_
              refine wl (ro_cmp rfl rfl rfl) ?_
              refine wl_nil (x_then (hK45 _ _ ?_))
              clear hK45 K45
              refine wc_cond rfl (fun hc104 => ?_) (fun hc104 => ?_)
              · try simp only [decide_eq_true_eq, decide_eq_false_iff_not, Bool.not_eq_true', Bool.not_eq_false', Bool.not_eq_eq_eq_not, Bool.not_true, Bool.not_false, beq_iff_eq, bne_iff_ne, ne_eq, beq_eq_false_iff_ne, bne_eq_false_iff_eq, gt_iff_lt, ge_iff_le, Int.not_lt, Int.not_le] at hc104
                refine c_seq (fun K46 hK46 => ?_)
                refine c_reg ?_ -- region 27 syntaxm.go:393
                refine wl (ro_assign rfl) ?_
                refine wl_nil (x_then (hK46 _ _ ?_))
                clear hK46 K46
                refine c_ret (x_thenR ?_)
                refine bp_ret Tryz.results159 rfl ?_
                exact hE7.mr
              · try simp only [decide_eq_true_eq, decide_eq_false_iff_not, Bool.not_eq_true', Bool.not_eq_false', Bool.not_eq_eq_eq_not, Bool.not_true, Bool.not_false, beq_iff_eq, bne_iff_ne, ne_eq, beq_eq_false_iff_ne, bne_eq_false_iff_eq, gt_iff_lt, ge_iff_le, Int.not_lt, Int.not_le] at hc104
                omega
            · skip
              refine c_reg ?_ -- region 24 syntaxm.go:390
              refine wl (ro_move rfl) ?_
              refine wl (ro_move rfl) ?_
              refine wl (ro_arith rfl rfl rfl (Go.IntWalk.i64_in _ (by omega))) ?_
              refine wl_call rfl en_160 (hS5.xK ih hlv (by omega) hq) ?_
              rintro v u6 ⟨U6, G6, rfl, hS6, m6, l6, q6, al6, b6⟩
              refine wl (ro_assign rfl) ?_
              refine wl_nil (x_then (hK42 _ _ ?_))
              clear hK42 K42
              refine forget [(0, _), (1, _), (5, _), (6, _), (13, _)] ⟨rfl, rfl, rfl, rfl, rfl, trivial⟩ (fun e => ?_)
              refine c_seq (fun K47 hK47 => ?_)
              by_cases hk45 : s1.k = 45
              · skip
                rw [if_pos hk45] at hR
                refine c_reg ?_ -- region 25 syntaxm.go:391
                refine wl (ro_move rfl) ?_
                refine wl_call rfl en_211 (hS6.want (k := 45) (by decide) (by decide) (by omega) hk45) ?_
                rintro _ u7 ⟨rfl, hS7⟩
                have ha6 := adv_len' (s := s1) (by omega)
                have e71 : s1.adv.al = s1.al := rfl
                generalize e7 : s1.adv = s7 at hR hS7 ha6 e71
                obtain ⟨pos7, hX7, hpos7⟩ := hS7.a.v.ex
                unfold mpc at hX7
                refine wl_nil (x_then (hK47 _ _ ?_))
                clear hK47 K47
                refine c_seq (fun K48 hK48 => ?_)
                refine c_seq (fun K49 hK49 => ?_)
                refine c_reg ?_ -- region 26 syntaxm.go:392
                refine wl (ro_move rfl) ?_
                refine wl (ro_nilCheck rfl) ?_
                refine wl (ro_fieldAddr (k := 9) rfl fo_146_5) ?_
                refine wl (ro_loadB rfl sc_54 (by assumption) rfl) ?_
                refine wl (ro_cmp rfl rfl rfl) ?_
                refine wl_nil (x_then (hK49 _ _ ?_))
                clear hK49 K49
                refine wc_cond rfl (fun hc104 => ?_) (fun hc104 => ?_)
                · try simp only [decide_eq_true_eq, decide_eq_false_iff_not, Bool.not_eq_true', Bool.not_eq_false', Bool.not_eq_eq_eq_not, Bool.not_true, Bool.not_false, beq_iff_eq, bne_iff_ne, ne_eq, beq_eq_false_iff_ne, bne_eq_false_iff_eq, gt_iff_lt, ge_iff_le, Int.not_lt, Int.not_le] at hc104
                  exact absurd rfl hc104
                · try simp only [decide_eq_true_eq, decide_eq_false_iff_not, Bool.not_eq_true', Bool.not_eq_false', Bool.not_eq_eq_eq_not, Bool.not_true, Bool.not_false, beq_iff_eq, bne_iff_ne, ne_eq, beq_eq_false_iff_ne, bne_eq_false_iff_eq, gt_iff_lt, ge_iff_le, Int.not_lt, Int.not_le] at hc104
                  refine c_skip (x_then (hK48 _ _ ?_))
                  clear hK48 K48
                  refine forget [(0, _), (1, _), (5, _), (6, _), (13, _)] ⟨rfl, rfl, rfl, rfl, rfl, trivial⟩ (fun e => ?_)
                  refine c_seq (fun K50 hK50 => ?_)
                  rcases bdP_some hR with ⟨⟨ee, pp⟩, hq, rfl⟩ | ⟨t2, s8, hq, hR⟩
                  · skip
                    refine c_reg ?_ -- region 28 syntaxm.go:395
                    refine wl (ro_move rfl) ?_
                    refine wl (ro_move rfl) ?_
                    refine wl (ro_arith rfl rfl rfl (Go.IntWalk.i64_in _ (by omega))) ?_
                    refine wl_call rfl en_160 (hS7.xE ih hlv (by omega) hq) ?_
                    rintro v u8 ⟨⟨z, rfl⟩, hE8⟩
                    obtain ⟨np', src', pos', t', U', al', lo', fu', hXe, h3⟩ := hE8.blk
                    unfold mpc at hXe
                    refine wl (ro_assign rfl) ?_
                    refine wl_nil (x_then (hK50 _ _ ?_))
                    clear hK50 K50
                    refine c_seq (fun K51 hK51 => ?_)
                    refine c_seq (fun K52 hK52 => ?_)
                    refine c_reg ?_ -- region 29 syntaxm.go:396
                    refine wl (ro_move rfl) ?_
                    refine wl (ro_nilCheck rfl) ?_
                    refine wl (ro_fieldAddr (k := 9) rfl fo_146_5) ?_
                    refine wl (ro_loadB rfl sc_54 (by assumption) rfl) ?_
                    refine wl (ro_cmp rfl rfl rfl) ?_
                    refine wl_nil (x_then (hK52 _ _ ?_))
                    clear hK52 K52
                    refine wc_cond rfl (fun hc113 => ?_) (fun hc113 => ?_)
                    · try simp only [decide_eq_true_eq, decide_eq_false_iff_not, Bool.not_eq_true', Bool.not_eq_false', Bool.not_eq_eq_eq_not, Bool.not_true, Bool.not_false, beq_iff_eq, bne_iff_ne, ne_eq, beq_eq_false_iff_ne, bne_eq_false_iff_eq, gt_iff_lt, ge_iff_le, Int.not_lt, Int.not_le] at hc113
                      refine c_seq (fun K53 hK53 => ?_)
                      refine c_reg ?_ -- region 30 syntaxm.go:397
                      refine wl (ro_assign rfl) ?_
                      refine wl_nil (x_then (hK53 _ _ ?_))
                      clear hK53 K53
                      refine c_ret (x_thenR ?_)
                      refine bp_ret Tryz.results159 rfl ?_
                      exact hE8.mr
                    · try simp only [decide_eq_true_eq, decide_eq_false_iff_not, Bool.not_eq_true', Bool.not_eq_false', Bool.not_eq_eq_eq_not, Bool.not_true, Bool.not_false, beq_iff_eq, bne_iff_ne, ne_eq, beq_eq_false_iff_ne, bne_eq_false_iff_eq, gt_iff_lt, ge_iff_le, Int.not_lt, Int.not_le] at hc113
                      omega
                  · skip
                    refine c_reg ?_ -- region 28 syntaxm.go:395
                    refine wl (ro_move rfl) ?_
                    refine wl (ro_move rfl) ?_
                    refine wl (ro_arith rfl rfl rfl (Go.IntWalk.i64_in _ (by omega))) ?_
                    refine wl_call rfl en_160 (hS7.xK ih hlv (by omega) hq) ?_
                    rintro v u8 ⟨U8, G8, rfl, hS8, m8, l8, q8, al8, b8⟩
                    have hr1 := q6.ly.rt G.length
                    have hr2 := q8.ly.rt G6.length
                    have hp1 := q6.ly.pos
                    have hp2 := q8.ly.pos
                    obtain ⟨g8, cap8, c8, e8, hO8⟩ := hS8.a.open (by omega)
                    subst e8
                    obtain ⟨pos8, hX8, hpos8⟩ := hS8.a.v.ex
                    unfold mpc at hX8
                    have hB8 := hO8.b
                    have hne8 := hO8.ne
                    have hL8 : Fram (one g8) u8 u8 := Fram.refl _ _
                    have hg8 : one g8 g8 := rfl
                    refine wl (ro_assign rfl) ?_
                    refine wl_nil (x_then (hK50 _ _ ?_))
                    clear hK50 K50
                    refine c_seq (fun K54 hK54 => ?_)
                    refine c_seq (fun K55 hK55 => ?_)
                    refine c_reg ?_ -- region 29 syntaxm.go:396
                    refine wl (ro_move rfl) ?_
                    refine wl (ro_nilCheck rfl) ?_
                    refine wl (ro_fieldAddr (k := 9) rfl fo_146_5) ?_
                    refine wl (ro_loadB rfl sc_54 (by assumption) rfl) ?_
                    refine wl (ro_cmp rfl rfl rfl) ?_
                    refine wl_nil (x_then (hK55 _ _ ?_))
                    clear hK55 K55
                    refine wc_cond rfl (fun hc113 => ?_) (fun hc113 => ?_)
                    · try simp only [decide_eq_true_eq, decide_eq_false_iff_not, Bool.not_eq_true', Bool.not_eq_false', Bool.not_eq_eq_eq_not, Bool.not_true, Bool.not_false, beq_iff_eq, bne_iff_ne, ne_eq, beq_eq_false_iff_ne, bne_eq_false_iff_eq, gt_iff_lt, ge_iff_le, Int.not_lt, Int.not_le] at hc113
                      exact absurd rfl hc113
                    · try simp only [decide_eq_true_eq, decide_eq_false_iff_not, Bool.not_eq_true', Bool.not_eq_false', Bool.not_eq_eq_eq_not, Bool.not_true, Bool.not_false, beq_iff_eq, bne_iff_ne, ne_eq, beq_eq_false_iff_ne, bne_eq_false_iff_eq, gt_iff_lt, ge_iff_le, Int.not_lt, Int.not_le] at hc113
                      refine c_skip (x_then (hK54 _ _ ?_))
                      clear hK54 K54
                      refine forget [(0, _), (1, _), (5, _), (6, _), (13, _), (14, _)] ⟨rfl, rfl, rfl, rfl, rfl, rfl, trivial⟩ (fun e => ?_)
                      refine c_seq (fun K56 hK56 => ?_)
                      refine c_reg ?_ -- region 31 syntaxm.go:399
                      refine wl (ro_move rfl) ?_
                      refine wl (ro_nilCheck rfl) ?_
                      refine wl (ro_fieldAddr (k := 8) rfl fo_146_4) ?_
                      refine wl (ro_loadB rfl sc_77 (by assumption) rfl) ?_
                      refine wl (ro_move rfl) ?_
                      refine wl (ro_move rfl) ?_
                      refine wl (ro_indexAddr (et := 148) (k := 8) rfl rfl se_77 (rfl) ((by omega))) ?_
                      refine wl (ro_fieldAddr (k := 4) rfl fo_148_4) ?_
                      refine wl_put rfl rfl rfl sz_3 hB8 ((by have := hO8.k3; have := hO8.k1; omega)) (rfl) (fun w2 hB8 F2 => ?_)
                      replace hX8 := F2.blkO hX8 (by omega)
                      replace hL8 := hL8.thenDrew.thenO F2 (by first | exact .inr (by omega) | exact .inl rfl | exact .inl (by assumption) | assumption)
                      refine wl_nil (x_then (hK56 _ _ ?_))
                      clear hK56 K56
                      refine c_mid (fun a' w' => (∃ (Uc : Value) (Gc : List (Nd × Nat)) (sc : PS) (A : List Nd) (mk : Tr → Tr), MS w mp np src U G lv w' Uc Gc sc ∧ Gc.map Prod.fst = G.map Prod.fst ++ A ∧ bdP (parP f 10 lv 4 0 dumT sc) (fun b s => okP (mk b) s) = some R ∧ (∀ b, lay (mk b) G.length = A ++ lay b Gc.length ++ [⟨8, rt t1 G.length, rt b Gc.length, 0, 0, 0, s.adv.cur.s⟩] ∧ G.length + ndT (mk b) = Gc.length + 1 + ndT b ∧ rt (mk b) G.length = G.length + ndT (mk b) - 1) ∧ sc.al + 4 ≤ 12 ∧ sc.len < s.len ∧ Gc.length + 1 + 3 * sc.len ≤ 10000) ∧ ∃ e, a' = Fr 158 (upds e [(0, ptr mp), (1, i64c lv), (5, S s.adv.cur.s), (6, i64c s.adv.cur.pl), (13, i64c (rt t1 G.length))]) []) ?_ ?_
                      · skip
                        refine c_seq (fun K57 hK57 => ?_)
                        have hS9 := hS8.link hO8 (by omega) hB8 hL8
                        have m9 := lk_nx (n := rt t2 G6.length) (G := G8) (A := G.map Prod.fst) (r := lay t2 G6.length) (by rw [m8, m6]) (List.length_map ..) q6.ly
                        have l9 : (lkG G8 (rt t1 G.length) (rt t2 G6.length)).length = G8.length := lkG_len ..
                        generalize lkG G8 (rt t1 G.length) (rt t2 G6.length) = G9 at hS9 m9 l9
                        generalize hU9 : Value.slice (some ⟨g8, 0, none⟩) G8.length cap8 = U9 at hS9
                        refine c_reg ?_ -- region 32 syntaxm.go:400
                        refine wl (ro_move rfl) ?_
                        refine wl_call rfl en_156 (hS9.is (k := 45) (by decide) (by decide)) ?_
                        rintro _ w9 ⟨rfl, e9⟩
                        replace e9 := e9.symm
                        subst e9
                        refine wl_nil (x_then (hK57 _ _ ?_))
                        clear hK57 K57
                        refine wc_cond rfl (fun hc123 => ?_) (fun hc123 => ?_)
                        · try simp only [decide_eq_true_eq, decide_eq_false_iff_not, Bool.not_eq_true', Bool.not_eq_false', Bool.not_eq_eq_eq_not, Bool.not_true, Bool.not_false, beq_iff_eq, bne_iff_ne, ne_eq, beq_eq_false_iff_ne, bne_eq_false_iff_eq, gt_iff_lt, ge_iff_le, Int.not_lt, Int.not_le] at hc123
                          rw [if_pos (by omega)] at hR
                          have ha8 := adv_len' (s := s8) (by omega)
                          refine c_seq (fun K58 hK58 => ?_)
                          refine c_reg ?_ -- region 33 syntaxm.go:401
                          refine wl (ro_move rfl) ?_
                          refine wl_call rfl en_48 (hS9.next (by omega)) ?_
                          rintro _ u10 ⟨rfl, hS10⟩
                          refine wl_nil (x_then (hK58 _ _ ?_))
                          clear hK58 K58
                          refine forget [(0, _), (1, _), (5, _), (6, _), (13, _), (14, _)] ⟨rfl, rfl, rfl, rfl, rfl, rfl, trivial⟩ (fun e => ?_)
                          refine c_seq (fun K59 hK59 => ?_)
                          rcases bdP_some hR with ⟨⟨ee, pp⟩, hq, rfl⟩ | ⟨t3, s11, hq, hR⟩
                          · skip
                            refine c_reg ?_ -- region 34 syntaxm.go:402
                            refine wl (ro_move rfl) ?_
                            refine wl (ro_move rfl) ?_
                            refine wl (ro_arith rfl rfl rfl (Go.IntWalk.i64_in _ (by omega))) ?_
                            refine wl_call rfl en_160 (hS10.xE ih hlv (by omega) hq) ?_
                            rintro v u11 ⟨⟨z, rfl⟩, hE11⟩
                            obtain ⟨np', src', pos', t', U', al', lo', fu', hXe, h3⟩ := hE11.blk
                            unfold mpc at hXe
                            refine wl (ro_assign rfl) ?_
                            refine wl_nil (x_then (hK59 _ _ ?_))
                            clear hK59 K59
                            refine c_seq (fun K60 hK60 => ?_)
                            refine c_seq (fun K61 hK61 => ?_)
                            refine c_reg ?_ -- region 35 syntaxm.go:403
                            refine wl (ro_move rfl) ?_
                            refine wl (ro_nilCheck rfl) ?_
                            refine wl (ro_fieldAddr (k := 9) rfl fo_146_5) ?_
                            refine wl (ro_loadB rfl sc_54 (by assumption) rfl) ?_
                            refine wl (ro_cmp rfl rfl rfl) ?_
                            refine wl_nil (x_then (hK61 _ _ ?_))
                            clear hK61 K61
                            refine wc_cond rfl (fun hc134 => ?_) (fun hc134 => ?_)
                            · try simp only [decide_eq_true_eq, decide_eq_false_iff_not, Bool.not_eq_true', Bool.not_eq_false', Bool.not_eq_eq_eq_not, Bool.not_true, Bool.not_false, beq_iff_eq, bne_iff_ne, ne_eq, beq_eq_false_iff_ne, bne_eq_false_iff_eq, gt_iff_lt, ge_iff_le, Int.not_lt, Int.not_le] at hc134
                              refine c_seq (fun K62 hK62 => ?_)
                              refine c_reg ?_ -- region 36 syntaxm.go:404
                              refine wl (ro_assign rfl) ?_
                              refine wl_nil (x_then (hK62 _ _ ?_))
                              clear hK62 K62
                              refine c_ret (x_thenR (x_thenR ?_))
                              refine bp_ret Tryz.results159 rfl ?_
                              exact hE11.mr
                            · try simp only [decide_eq_true_eq, decide_eq_false_iff_not, Bool.not_eq_true', Bool.not_eq_false', Bool.not_eq_eq_eq_not, Bool.not_true, Bool.not_false, beq_iff_eq, bne_iff_ne, ne_eq, beq_eq_false_iff_ne, bne_eq_false_iff_eq, gt_iff_lt, ge_iff_le, Int.not_lt, Int.not_le] at hc134
                              omega
                          · skip
                            refine c_reg ?_ -- region 34 syntaxm.go:402
                            refine wl (ro_move rfl) ?_
                            refine wl (ro_move rfl) ?_
                            refine wl (ro_arith rfl rfl rfl (Go.IntWalk.i64_in _ (by omega))) ?_
                            refine wl_call rfl en_160 (hS10.xK ih hlv (by omega) hq) ?_
                            rintro v u11 ⟨U11, G11, rfl, hS11, m11, l11, q11, al11, b11⟩
                            have e81 : s8.adv.al = s8.al := rfl
                            obtain ⟨g11, cap11, c11, e11, hO11⟩ := hS11.a.open (by omega)
                            subst e11
                            obtain ⟨pos11, hX11, hpos11⟩ := hS11.a.v.ex
                            unfold mpc at hX11
                            have hB11 := hO11.b
                            have hne11 := hO11.ne
                            have hL11 : Fram (one g11) u11 u11 := Fram.refl _ _
                            have hg11 : one g11 g11 := rfl
                            refine wl (ro_assign rfl) ?_
                            refine wl_nil (x_then (hK59 _ _ ?_))
                            clear hK59 K59
                            refine c_seq (fun K63 hK63 => ?_)
                            refine c_seq (fun K64 hK64 => ?_)
                            refine c_reg ?_ -- region 35 syntaxm.go:403
                            refine wl (ro_move rfl) ?_
                            refine wl (ro_nilCheck rfl) ?_
                            refine wl (ro_fieldAddr (k := 9) rfl fo_146_5) ?_
                            refine wl (ro_loadB rfl sc_54 (by assumption) rfl) ?_
                            refine wl (ro_cmp rfl rfl rfl) ?_
                            refine wl_nil (x_then (hK64 _ _ ?_))
                            clear hK64 K64
                            refine wc_cond rfl (fun hc134 => ?_) (fun hc134 => ?_)
                            · try simp only [decide_eq_true_eq, decide_eq_false_iff_not, Bool.not_eq_true', Bool.not_eq_false', Bool.not_eq_eq_eq_not, Bool.not_true, Bool.not_false, beq_iff_eq, bne_iff_ne, ne_eq, beq_eq_false_iff_ne, bne_eq_false_iff_eq, gt_iff_lt, ge_iff_le, Int.not_lt, Int.not_le] at hc134
                              exact absurd rfl hc134
                            · try simp only [decide_eq_true_eq, decide_eq_false_iff_not, Bool.not_eq_true', Bool.not_eq_false', Bool.not_eq_eq_eq_not, Bool.not_true, Bool.not_false, beq_iff_eq, bne_iff_ne, ne_eq, beq_eq_false_iff_ne, bne_eq_false_iff_eq, gt_iff_lt, ge_iff_le, Int.not_lt, Int.not_le] at hc134
                              refine c_skip (x_then (hK63 _ _ ?_))
                              clear hK63 K63
                              refine c_reg ?_ -- region 37 syntaxm.go:406
                              refine wl (ro_move rfl) ?_
                              refine wl (ro_nilCheck rfl) ?_
                              refine wl (ro_fieldAddr (k := 8) rfl fo_146_4) ?_
                              refine wl (ro_loadB rfl sc_77 (by assumption) rfl) ?_
                              refine wl (ro_move rfl) ?_
                              refine wl (ro_move rfl) ?_
                              refine wl (ro_indexAddr (et := 148) (k := 8) rfl rfl se_77 (rfl) ((by omega))) ?_
                              refine wl (ro_fieldAddr (k := 4) rfl fo_148_4) ?_
                              refine wl_put rfl rfl rfl sz_3 hB11 ((by have := hO11.k3; have := hO11.k1; omega)) (rfl) (fun w3 hB11 F3 => ?_)
                              replace hX11 := F3.blkO hX11 (by omega)
                              replace hL11 := hL11.thenDrew.thenO F3 (by first | exact .inr (by omega) | exact .inl rfl | exact .inl (by assumption) | assumption)
                              refine wl_nil (x_then ?_)
                              have hS12 := hS11.link hO11 (by omega) hB11 hL11
                              have hA1 : (G.map Prod.fst ++ nxL (lay t1 G.length) (rt t2 G6.length)).length = G6.length := by rw [List.length_append, List.length_map, nxL_len, q6.ly.len, l6]
                              have m12 := lk_nx (n := rt t3 G9.length) (G := G11) (r := lay t3 G9.length) (by rw [m11, m9]) hA1 q8.ly
                              refine ⟨⟨_, _, s11, nxL (lay t1 G.length) (rt t2 G6.length) ++ nxL (lay t2 G6.length) (rt t3 G9.length) ++ lay t3 G9.length, fun b => St.for3 s.adv.cur.s t1 t2 t3 b, hS12, by rw [m12]; simp only [List.append_assoc], hR, fun b => ⟨?_, ?_, rfl⟩, by omega, by omega, ?_⟩, kp _ ⟨rfl, rfl, rfl, rfl, rfl, trivial⟩⟩
                              · rw [lay_for3, lkG_len, l11, l9, l8, l6]
                              · rw [lkG_len]
                                show G.length + (1 + ndT t1 + ndT t2 + ndT t3 + ndT b) = _
                                omega
                              · rw [lkG_len]
                                omega
                        · try simp only [decide_eq_true_eq, decide_eq_false_iff_not, Bool.not_eq_true', Bool.not_eq_false', Bool.not_eq_eq_eq_not, Bool.not_true, Bool.not_false, beq_iff_eq, bne_iff_ne, ne_eq, beq_eq_false_iff_ne, bne_eq_false_iff_eq, gt_iff_lt, ge_iff_le, Int.not_lt, Int.not_le] at hc123
                          rw [if_neg (by omega)] at hR
                          refine c_skip (x_then ?_)
                          refine ⟨⟨_, _, s8, nxL (lay t1 G.length) (rt t2 G6.length) ++ lay t2 G6.length, fun b => St.for2 s.adv.cur.s t1 t2 b, hS9, by rw [m9]; simp only [List.append_assoc], hR, fun b => ⟨?_, ?_, rfl⟩, by omega, by omega, by omega⟩, kp _ ⟨rfl, rfl, rfl, rfl, rfl, trivial⟩⟩
                          · rw [lay_for2, l9, l8, l6]
                          · show G.length + (1 + ndT t1 + ndT t2 + ndT b) = _
                            omega
                      clear hR
                      rintro a' u12 ⟨⟨Uc, Gc, sc, A, mk, hSc, mc, hR, hmk, halc, hlc, hbc⟩, e, rfl⟩
                      refine c_seq (fun K65 hK65 => ?_)
                      rcases bdP_some hR with ⟨⟨ee, pp⟩, hq, rfl⟩ | ⟨t3, s3, hq, hR⟩
                      · skip
                        refine c_reg ?_ -- region 38 syntaxm.go:408
                        refine wl (ro_move rfl) ?_
                        refine wl (ro_move rfl) ?_
                        refine wl_call rfl en_161 (hSc.dE (m := 4) ih hlv (by decide) (by omega) (by omega) hq) ?_
                        rintro v u13 ⟨⟨z, rfl⟩, hE13⟩
                        obtain ⟨np', src', pos', t', U', al', lo', fu', hXe, h3⟩ := hE13.blk
                        unfold mpc at hXe
                        refine wl (ro_assign rfl) ?_
                        refine wl_nil (x_then (hK65 _ _ ?_))
                        clear hK65 K65
                        refine c_seq (fun K66 hK66 => ?_)
                        refine c_seq (fun K67 hK67 => ?_)
                        refine c_reg ?_ -- region 39 syntaxm.go:409
                        refine wl (ro_move rfl) ?_
                        refine wl (ro_nilCheck rfl) ?_
                        refine wl (ro_fieldAddr (k := 9) rfl fo_146_5) ?_
                        refine wl (ro_loadB rfl sc_54 (by assumption) rfl) ?_
                        refine wl (ro_cmp rfl rfl rfl) ?_
                        refine wl_nil (x_then (hK67 _ _ ?_))
                        clear hK67 K67
                        refine wc_cond rfl (fun hc150 => ?_) (fun hc150 => ?_)
                        · try simp only [decide_eq_true_eq, decide_eq_false_iff_not, Bool.not_eq_true', Bool.not_eq_false', Bool.not_eq_eq_eq_not, Bool.not_true, Bool.not_false, beq_iff_eq, bne_iff_ne, ne_eq, beq_eq_false_iff_ne, bne_eq_false_iff_eq, gt_iff_lt, ge_iff_le, Int.not_lt, Int.not_le] at hc150
                          refine c_seq (fun K68 hK68 => ?_)
                          refine c_reg ?_ -- region 40 syntaxm.go:410
                          refine wl (ro_assign rfl) ?_
                          refine wl_nil (x_then (hK68 _ _ ?_))
                          clear hK68 K68
                          refine c_ret (x_thenR ?_)
                          refine bp_ret Tryz.results159 rfl ?_
                          exact hE13.mr
                        · try simp only [decide_eq_true_eq, decide_eq_false_iff_not, Bool.not_eq_true', Bool.not_eq_false', Bool.not_eq_eq_eq_not, Bool.not_true, Bool.not_false, beq_iff_eq, bne_iff_ne, ne_eq, beq_eq_false_iff_ne, bne_eq_false_iff_eq, gt_iff_lt, ge_iff_le, Int.not_lt, Int.not_le] at hc150
                          omega
                      · skip
                        refine c_reg ?_ -- region 38 syntaxm.go:408
                        refine wl (ro_move rfl) ?_
                        refine wl (ro_move rfl) ?_
                        refine wl_call rfl en_161 (hSc.dK (m := 4) ih hlv (by decide) (by omega) (by omega) hq) ?_
                        rintro v u13 ⟨U13, G13, rfl, hS13, m13, l13, q13, al13, b13⟩
                        obtain ⟨pos13, hX13, hpos13⟩ := hS13.a.v.ex
                        unfold mpc at hX13
                        refine wl (ro_assign rfl) ?_
                        refine wl_nil (x_then (hK65 _ _ ?_))
                        clear hK65 K65
                        refine c_seq (fun K69 hK69 => ?_)
                        refine c_seq (fun K70 hK70 => ?_)
                        refine c_reg ?_ -- region 39 syntaxm.go:409
                        refine wl (ro_move rfl) ?_
                        refine wl (ro_nilCheck rfl) ?_
                        refine wl (ro_fieldAddr (k := 9) rfl fo_146_5) ?_
                        refine wl (ro_loadB rfl sc_54 (by assumption) rfl) ?_
                        refine wl (ro_cmp rfl rfl rfl) ?_
                        refine wl_nil (x_then (hK70 _ _ ?_))
                        clear hK70 K70
                        refine wc_cond rfl (fun hc150 => ?_) (fun hc150 => ?_)
                        · try simp only [decide_eq_true_eq, decide_eq_false_iff_not, Bool.not_eq_true', Bool.not_eq_false', Bool.not_eq_eq_eq_not, Bool.not_true, Bool.not_false, beq_iff_eq, bne_iff_ne, ne_eq, beq_eq_false_iff_ne, bne_eq_false_iff_eq, gt_iff_lt, ge_iff_le, Int.not_lt, Int.not_le] at hc150
                          exact absurd rfl hc150
                        · try simp only [decide_eq_true_eq, decide_eq_false_iff_not, Bool.not_eq_true', Bool.not_eq_false', Bool.not_eq_eq_eq_not, Bool.not_true, Bool.not_false, beq_iff_eq, bne_iff_ne, ne_eq, beq_eq_false_iff_ne, bne_eq_false_iff_eq, gt_iff_lt, ge_iff_le, Int.not_lt, Int.not_le] at hc150
                          refine c_skip (x_then (hK69 _ _ ?_))
                          clear hK69 K69
                          refine forget [(0, _), (5, _), (6, _), (13, _), (16, _)] ⟨rfl, rfl, rfl, rfl, rfl, trivial⟩ (fun e => ?_)
                          refine c_seq (fun K71 hK71 => ?_)
                          refine c_reg ?_ -- region 41 syntaxm.go:412
                          refine wl (ro_move rfl) ?_
                          refine wl (ro_move rfl) ?_
                          refine wl (ro_move rfl) ?_
                          refine wl (ro_move rfl) ?_
                          refine wl (ro_move rfl) ?_
                          refine wl (ro_build rfl bld_148_0_6_1_2_7) ?_
                          refine wl_call rfl en_162 (hS13.add (x := (⟨8, rt t1 G.length, rt t3 Gc.length, 0, 0, 0, s.adv.cur.s⟩, s.adv.cur.pl)) (by omega)) ?_
                          rintro _ u14 ⟨rfl, U14, hS14⟩
                          refine wl (ro_assign rfl) ?_
                          refine wl_nil (x_then (hK71 _ _ ?_))
                          clear hK71 K71
                          refine c_ret ?_
                          refine bp_ret Tryz.results159 rfl ?_
                          cases okP_inj hR
                          obtain ⟨c1, c2, c3⟩ := hmk t3
                          refine hS14.fin ?_ ?_ ?_
                          · rw [List.map_append, m13, mc, c1]
                            simp only [List.append_assoc]
                            rfl
                          · rw [List.length_append]
                            simp only [List.length_cons, List.length_nil]
                            omega
                          · rw [c3]
                            omega
              · skip
                rw [if_neg hk45] at hR
                cases failP_inj hR
                refine c_reg ?_ -- region 25 syntaxm.go:391
                refine wl (ro_move rfl) ?_
                refine wl_call rfl en_211 (hS6.wantN (k := 45) (by decide) (by decide) (by omega) hk45) ?_
                rintro _ u7 ⟨rfl, hE7⟩
                obtain ⟨np', src', pos', t', U', al', lo', fu', hXe, h3⟩ := hE7.blk
                unfold mpc at hXe
                refine wl_nil (x_then (hK47 _ _ ?_))
                clear hK47 K47
                refine c_seq (fun K72 hK72 => ?_)
                refine c_seq (fun K73 hK73 => ?_)
                refine c_reg ?_ -- region 26 syntaxm.go:392
                refine wl (ro_move rfl) ?_
                refine wl (ro_nilCheck rfl) ?_
                refine wl (ro_fieldAddr (k := 9) rfl fo_146_5) ?_
                refine wl (ro_loadB rfl sc_54 (by assumption) rfl) ?_
                refine wl (ro_cmp rfl rfl rfl) ?_
                refine wl_nil (x_then (hK73 _ _ ?_))
                clear hK73 K73
                refine wc_cond rfl (fun hc104 => ?_) (fun hc104 => ?_)
                · try simp only [decide_eq_true_eq, decide_eq_false_iff_not, Bool.not_eq_true', Bool.not_eq_false', Bool.not_eq_eq_eq_not, Bool.not_true, Bool.not_false, beq_iff_eq, bne_iff_ne, ne_eq, beq_eq_false_iff_ne, bne_eq_false_iff_eq, gt_iff_lt, ge_iff_le, Int.not_lt, Int.not_le] at hc104
                  refine c_seq (fun K74 hK74 => ?_)
                  refine c_reg ?_ -- region 27 syntaxm.go:393
                  refine wl (ro_assign rfl) ?_
                  refine wl_nil (x_then (hK74 _ _ ?_))
                  clear hK74 K74
                  refine c_ret (x_thenR ?_)
                  refine bp_ret Tryz.results159 rfl ?_
                  exact hE7.mr
                · try simp only [decide_eq_true_eq, decide_eq_false_iff_not, Bool.not_eq_true', Bool.not_eq_false', Bool.not_eq_eq_eq_not, Bool.not_true, Bool.not_false, beq_iff_eq, bne_iff_ne, ne_eq, beq_eq_false_iff_ne, bne_eq_false_iff_eq, gt_iff_lt, ge_iff_le, Int.not_lt, Int.not_le] at hc104
                  omega
        · skip
          rw [if_neg hk38] at hR
          cases failP_inj hR
          refine c_reg ?_ -- region 21 syntaxm.go:386
          refine wl (ro_move rfl) ?_
          refine wl_call rfl en_211 (hS2.wantN (k := 38) (by decide) (by decide) (by omega) hk38) ?_
          rintro _ u5 ⟨rfl, hE5⟩
          obtain ⟨np', src', pos', t', U', al', lo', fu', hXe, h3⟩ := hE5.blk
          unfold mpc at hXe
          refine wl_nil (x_then (hK39 _ _ ?_))
          clear hK39 K39
          refine c_seq (fun K75 hK75 => ?_)
          refine c_seq (fun K76 hK76 => ?_)
          refine c_reg ?_ -- region 22 syntaxm.go:387
          refine wl (ro_move rfl) ?_
          refine wl (ro_nilCheck rfl) ?_
          refine wl (ro_fieldAddr (k := 9) rfl fo_146_5) ?_
          refine wl (ro_loadB rfl sc_54 (by assumption) rfl) ?_
          refine wl (ro_cmp rfl rfl rfl) ?_
          refine wl_nil (x_then (hK76 _ _ ?_))
          clear hK76 K76
          refine wc_cond rfl (fun hc93 => ?_) (fun hc93 => ?_)
          · try simp only [decide_eq_true_eq, decide_eq_false_iff_not, Bool.not_eq_true', Bool.not_eq_false', Bool.not_eq_eq_eq_not, Bool.not_true, Bool.not_false, beq_iff_eq, bne_iff_ne, ne_eq, beq_eq_false_iff_ne, bne_eq_false_iff_eq, gt_iff_lt, ge_iff_le, Int.not_lt, Int.not_le] at hc93
            refine c_seq (fun K77 hK77 => ?_)
            refine c_reg ?_ -- region 23 syntaxm.go:388
            refine wl (ro_assign rfl) ?_
            refine wl_nil (x_then (hK77 _ _ ?_))
            clear hK77 K77
            refine c_ret (x_thenR ?_)
            refine bp_ret Tryz.results159 rfl ?_
            exact hE5.mr
          · try simp only [decide_eq_true_eq, decide_eq_false_iff_not, Bool.not_eq_true', Bool.not_eq_false', Bool.not_eq_eq_eq_not, Bool.not_true, Bool.not_false, beq_iff_eq, bne_iff_ne, ne_eq, beq_eq_false_iff_ne, bne_eq_false_iff_eq, gt_iff_lt, ge_iff_le, Int.not_lt, Int.not_le] at hc93
            omega
end Go.Proofs.Qxb6500568aGreatDoor
