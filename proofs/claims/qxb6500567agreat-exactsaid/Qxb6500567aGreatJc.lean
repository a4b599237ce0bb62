import Derived.Test.Qxb6500567aGreatJb
/- The automaton: move, masks, seek, take, flush, cellOf. -/
namespace Go.Proofs.Qxb6500567aGreat
set_option linter.unusedVariables false
set_option linter.unusedSimpArgs false

/-- The masks are told aright. -/
structure MK (p : List Ins) (N : DN) : Prop where
  ch : ∀ q, N.ch.testBit q = true ↔ ∃ S, p[q]? = some (.chr S)
  en : ∀ q, N.en.testBit q = true ↔ p[q]? = some .fin
  hi : ∀ q, N.hi.testBit q = true ↔ p[q]? = some .mat
  c64 : N.ch < 2 ^ 64
  e64 : N.en < 2 ^ 64
  h64 : N.hi < 2 ^ 64

theorem or_bit {M q r : Nat} : (M ||| 2 ^ q).testBit r = true ↔ M.testBit r = true ∨ r = q := by
  rw [Nat.testBit_or, Nat.testBit_two_pow, Bool.or_eq_true, decide_eq_true_eq]
  exact ⟨fun h => h.imp id Eq.symm, fun h => h.imp id Eq.symm⟩
theorem or_lt64 {M q : Nat} (h : M < 2 ^ 64) (hq : q < 64) : M ||| 2 ^ q < 2 ^ 64 := Nat.or_lt_two_pow h (Nat.pow_lt_pow_right (by omega) hq)
theorem pow64 {q : Nat} (hq : q < 64) : (2 : Nat) ^ q < 2 ^ 64 := Nat.pow_lt_pow_right (by omega) hq

set_option maxHeartbeats 4000000 in
theorem move112 {w : World} {D : DF} {N : DN} {kb Q : Nat} {p : List Ins} {b : UInt8} (hB : Blk w.heap D.db (dcl D (pgs kb p.length) N) 112) (hG : PGB w.heap kb (insL p)) (hp : PrgOK p) (hM : MK p N) (hQ : Q < 2 ^ 64) :
    Ret Tryz.prog 112 [ptr D.db, u64c Q, u8c b] w (fun v w' => (∃ M, v = u64c M ∧ M < 2 ^ 64 ∧ Mov p Q b M) ∧ Fram none' w w') := by
  have hF : Fram none' w w := Fram.refl _ _
  have hple := hp.le
  have hlive : Q &&& N.ch < 2 ^ 64 := Nat.lt_of_le_of_lt Nat.and_le_left hQ
  refine ret_of Tryz.func112 rfl Tryz.ntmps112 rfl ?_
  refine c_seq (fun K1 hK1 => ?_)
  refine c_reg ?_ -- region 0 sets.go:56
  refine wl (ro_assign rfl) ?_
  refine wl_nil (x_then (hK1 _ _ ?_))
  clear hK1 K1
  refine forget [(0, _), (1, _), (2, _)] ⟨rfl, rfl, rfl, trivial⟩ (fun e => ?_)
  refine c_seq (fun K2 hK2 => ?_)
  refine c_reg ?_ -- region 1 sets.go:57
  refine wl (ro_assign rfl) ?_
  refine wl_nil (x_then (hK2 _ _ ?_))
  clear hK2 K2
  refine forget [(0, _), (1, _), (2, _), (7, _)] ⟨rfl, rfl, rfl, rfl, trivial⟩ (fun e => ?_)
  refine c_seq (fun K3 hK3 => ?_)
  refine c_reg ?_ -- region 2 sets.go:58
  refine wl (ro_move rfl) ?_
  refine wl (ro_move rfl) ?_
  refine wl (ro_nilCheck rfl) ?_
  refine wl (ro_fieldAddr (k := 1) rfl fo_112_1) ?_
  refine wl (ro_loadB rfl sc_85 (hB) (rfl)) ?_
  refine wl (ro_andU (a := Q) (b := N.ch) rfl rfl hQ hM.c64) ?_
  refine wl (ro_assign rfl) ?_
  refine wl_nil (x_then (hK3 _ _ ?_))
  clear hK3 K3
  refine c_seq (fun K4 hK4 => ?_)
  refine c_seq (fun K5 hK5 => ?_)
  refine c_reg ?_ -- region 3 sets.go:59
  refine wl (ro_assign rfl) ?_
  refine wl_nil (x_then (hK5 _ _ ?_))
  clear hK5 K5
  refine c_block ?_
  -- loop@r4: live slots [0, 2, 7, 8, 9]
  refine c_loopG (fun m a' w' => ∃ (pc M : Nat), m = p.length - pc ∧ pc ≤ p.length ∧ M < 2 ^ 64 ∧ (∀ q, M.testBit q = true ↔ q = 0 ∨ ∃ pc' S, q = pc' + 1 ∧ pc' < pc ∧ Q.testBit pc' = true ∧ p[pc']? = some (.chr S) ∧ S.testBit b.toNat = true) ∧ Blk w'.heap D.db (dcl D (pgs kb p.length) N) 112 ∧ PGB w'.heap kb (insL p) ∧ Fram none' w w' ∧ ∃ e, a' = Fr 46 (upds e [(0, ptr D.db), (2, u8c b), (7, u64c M), (8, u64c (Q &&& N.ch)), (9, i64c pc)]) []) p.length ⟨0, 1, rfl, by omega, by decide, fun q => ?_, hB, hG, hF, kp _ ⟨rfl, rfl, rfl, rfl, rfl, trivial⟩⟩ ?_
  · cases q with
    | zero => simp
    | succ q => rw [Nat.testBit_succ]; simp
  clear hB hG hF
  rintro m a' w1 ⟨pc, M, rfl, hpc, hM64, hMq, hB, hG, hF, e, rfl⟩
  refine c_seq (fun K6 hK6 => ?_)
  refine c_seq (fun K7 hK7 => ?_)
  refine c_reg ?_ -- region 4 sets.go:59
  refine wl (ro_move rfl) ?_
  refine wl (ro_move rfl) ?_
  refine wl (ro_nilCheck rfl) ?_
  refine wl (ro_fieldAddr (k := 0) rfl fo_112_0) ?_
  refine wl (ro_loadB rfl sc_109 (hB) (rfl)) ?_
  refine wl (ro_lenL rfl se_109) ?_
  refine wl (ro_cmp (r := decide (pc < p.length)) rfl rfl (congrArg some (decide_eq_decide.2 (by omega)))) ?_
  refine wl_nil (x_then (hK7 _ _ ?_))
  clear hK7 K7
  refine wc_cond rfl (fun hc22 => ?_) (fun hc22 => ?_)
  · try simp only [decide_eq_true_eq, decide_eq_false_iff_not, Bool.not_eq_true', Bool.not_eq_false', Bool.not_eq_eq_eq_not, Bool.not_true, Bool.not_false, beq_iff_eq, bne_iff_ne, ne_eq, beq_eq_false_iff_ne, bne_eq_false_iff_eq, gt_iff_lt, ge_iff_le, Int.not_lt, Int.not_le] at hc22
    obtain ⟨x, hx⟩ : ∃ x, p[pc]? = some x := ⟨_, List.getElem?_eq_getElem hc22⟩
    have hok := hp.ok pc x hx
    have hld := pg_load hx
    refine c_skip (x_then (hK6 _ _ ?_))
    clear hK6 K6
    refine forget [(0, _), (2, _), (7, _), (8, _), (9, _)] ⟨rfl, rfl, rfl, rfl, rfl, trivial⟩ (fun e => ?_)
    refine c_seq (fun K8 hK8 => ?_)
    refine c_block ?_
    refine c_seq (fun K9 hK9 => ?_)
    refine c_reg ?_ -- region 6 sets.go:60
    refine wl (ro_move rfl) ?_
    refine wl (ro_move rfl) ?_
    refine wl_call rfl en_80 (bit80 (show pc < 64 by omega)) ?_
    rintro _ _ ⟨rfl, rfl⟩
    refine wl (ro_andU (a := Q &&& N.ch) (b := 2 ^ pc) rfl rfl hlive (pow64 (by omega))) ?_
    refine wl (ro_cmp (r := decide ((Q &&& N.ch) &&& 2 ^ pc ≠ 0)) rfl rfl (congrArg some (bnec ((Q &&& N.ch) &&& 2 ^ pc) 0))) ?_
    refine wl_nil (x_then (hK9 _ _ ?_))
    clear hK9 K9
    refine wc_cond rfl (fun hc29 => ?_) (fun hc29 => ?_)
    · try simp only [decide_eq_true_eq, decide_eq_false_iff_not, Bool.not_eq_true', Bool.not_eq_false', Bool.not_eq_eq_eq_not, Bool.not_true, Bool.not_false, beq_iff_eq, bne_iff_ne, ne_eq, beq_eq_false_iff_ne, bne_eq_false_iff_eq, gt_iff_lt, ge_iff_le, Int.not_lt, Int.not_le] at hc29
      have hzb : (Q &&& N.ch).testBit pc = true := by
        cases h : (Q &&& N.ch).testBit pc with
        | true => rfl
        | false => exact absurd (tb_pow.2 h) hc29
      rw [Nat.testBit_and, Bool.and_eq_true] at hzb
      obtain ⟨S, hS⟩ := (hM.ch pc).1 hzb.2
      rw [hx] at hS
      cases hS
      have hok1 : pc + 1 < p.length := hok
      have hcell : ((rws ric (insL p)).drop (0 + pc * 7 + 3)).take 4 = setC S := by
        have := congrArg (List.drop 3) hld
        rw [List.drop_take, List.drop_drop] at this
        exact this
      refine c_seq (fun K10 hK10 => ?_)
      refine c_reg ?_ -- region 7 sets.go:61
      refine wl (ro_move rfl) ?_
      refine wl (ro_nilCheck rfl) ?_
      refine wl (ro_fieldAddr (k := 0) rfl fo_112_0) ?_
      refine wl (ro_loadB rfl sc_109 (hB) (rfl)) ?_
      refine wl (ro_move rfl) ?_
      refine wl (ro_indexAddr (et := 175) (k := 7) rfl rfl se_109 (rfl) (hc22)) ?_
      refine wl (ro_fieldAddr (k := 3) rfl fo_175_3) ?_
      refine wl (ro_loadAggB rfl ag_87 (hG) (rfl) (hcell)) ?_
      refine wl (ro_move rfl) ?_
      refine wl_call rfl en_88 (Has88 (S := S)) ?_
      rintro _ w1 ⟨rfl, F1⟩
      replace hF := hF.thenDrew.thenN F1
      replace hB := F1.blkN hB
      replace hG := F1.blkN hG
      refine wl_nil (x_then (hK10 _ _ ?_))
      clear hK10 K10
      refine wc_cond rfl (fun hc39 => ?_) (fun hc39 => ?_)
      · try simp only [decide_eq_true_eq, decide_eq_false_iff_not, Bool.not_eq_true', Bool.not_eq_false', Bool.not_eq_eq_eq_not, Bool.not_true, Bool.not_false, beq_iff_eq, bne_iff_ne, ne_eq, beq_eq_false_iff_ne, bne_eq_false_iff_eq, gt_iff_lt, ge_iff_le, Int.not_lt, Int.not_le] at hc39
        refine c_reg ?_ -- region 8 sets.go:62
        refine wl (ro_move rfl) ?_
        refine wl (ro_move rfl) ?_
        refine wl (ro_arith rfl rfl rfl (Go.IntWalk.i64_in _ (by omega))) ?_
        refine wl_call rfl en_80 (bit80 (show pc + 1 < 64 by omega)) ?_
        rintro _ _ ⟨rfl, rfl⟩
        refine wl (ro_orU (a := M) (b := 2 ^ (pc + 1)) rfl rfl hM64 (pow64 (by omega))) ?_
        refine wl (ro_assign rfl) ?_
        refine wl_nil (x_blk (x_then (hK8 _ _ ?_)))
        clear hK8 K8
        refine c_reg ?_ -- region 5 sets.go:59
        refine wl (ro_move rfl) ?_
        refine wl (ro_arith rfl rfl rfl (Go.IntWalk.i64_in _ (by omega))) ?_
        refine wl (ro_assign rfl) ?_
        refine wl_nil (x_then ?_)
        refine ⟨p.length - (pc + 1), by omega, pc + 1, M ||| 2 ^ (pc + 1), rfl, by omega, or_lt64 hM64 (by omega), ?_, hB, hG, hF, kp _ ⟨rfl, rfl, rfl, rfl, rfl, trivial⟩⟩
        intro q
        rw [or_bit, hMq]
        constructor
        · rintro ((h | ⟨pc', S', h1, h2, h3⟩) | h)
          · exact .inl h
          · exact .inr ⟨pc', S', h1, by omega, h3⟩
          · exact .inr ⟨pc, S, h, by omega, hzb.1, hx, hc39⟩
        · rintro (h | ⟨pc', S', h1, h2, h3⟩)
          · exact .inl (.inl h)
          · by_cases h4 : pc' = pc
            · subst h4; exact .inr h1
            · exact .inl (.inr ⟨pc', S', h1, by omega, h3⟩)
      · try simp only [decide_eq_true_eq, decide_eq_false_iff_not, Bool.not_eq_true', Bool.not_eq_false', Bool.not_eq_eq_eq_not, Bool.not_true, Bool.not_false, beq_iff_eq, bne_iff_ne, ne_eq, beq_eq_false_iff_ne, bne_eq_false_iff_eq, gt_iff_lt, ge_iff_le, Int.not_lt, Int.not_le] at hc39
        have hnoB : ∀ S', ¬ (p[pc]? = some (.chr S') ∧ S'.testBit b.toNat = true) := by
          rintro S' ⟨h1, h2⟩
          rw [hx] at h1
          cases h1
          rw [hc39] at h2
          cases h2
        refine c_skip (x_blk (x_then (hK8 _ _ ?_)))
        clear hK8 K8
        refine c_reg ?_ -- region 5 sets.go:59
        refine wl (ro_move rfl) ?_
        refine wl (ro_arith rfl rfl rfl (Go.IntWalk.i64_in _ (by omega))) ?_
        refine wl (ro_assign rfl) ?_
        refine wl_nil (x_then ?_)
        refine ⟨p.length - (pc + 1), by omega, pc + 1, M, rfl, by omega, hM64, ?_, hB, hG, hF, kp _ ⟨rfl, rfl, rfl, rfl, rfl, trivial⟩⟩
        intro q
        rw [hMq]
        constructor
        · rintro (h | ⟨pc', S', h1, h2, h3⟩)
          · exact .inl h
          · exact .inr ⟨pc', S', h1, by omega, h3⟩
        · rintro (h | ⟨pc', S', h1, h2, h3, h4, h5⟩)
          · exact .inl h
          · by_cases h6 : pc' = pc
            · subst h6; first | exact absurd ⟨h3, h4⟩ (hnoA S') | exact absurd ⟨h4, h5⟩ (hnoB S')
            · exact .inr ⟨pc', S', h1, by omega, h3, h4, h5⟩
    · try simp only [decide_eq_true_eq, decide_eq_false_iff_not, Bool.not_eq_true', Bool.not_eq_false', Bool.not_eq_eq_eq_not, Bool.not_true, Bool.not_false, beq_iff_eq, bne_iff_ne, ne_eq, beq_eq_false_iff_ne, bne_eq_false_iff_eq, gt_iff_lt, ge_iff_le, Int.not_lt, Int.not_le] at hc29
      have hzb : (Q &&& N.ch).testBit pc = false := tb_pow.1 (by omega)
      have hnoA : ∀ S, ¬ (Q.testBit pc = true ∧ p[pc]? = some (.chr S)) := by
        rintro S ⟨h1, h2⟩
        rw [Nat.testBit_and, h1, (hM.ch pc).2 ⟨S, h2⟩] at hzb
        cases hzb
      refine c_skip (x_blk (x_then (hK8 _ _ ?_)))
      clear hK8 K8
      refine c_reg ?_ -- region 5 sets.go:59
      refine wl (ro_move rfl) ?_
      refine wl (ro_arith rfl rfl rfl (Go.IntWalk.i64_in _ (by omega))) ?_
      refine wl (ro_assign rfl) ?_
      refine wl_nil (x_then ?_)
      refine ⟨p.length - (pc + 1), by omega, pc + 1, M, rfl, by omega, hM64, ?_, hB, hG, hF, kp _ ⟨rfl, rfl, rfl, rfl, rfl, trivial⟩⟩
      intro q
      rw [hMq]
      constructor
      · rintro (h | ⟨pc', S', h1, h2, h3⟩)
        · exact .inl h
        · exact .inr ⟨pc', S', h1, by omega, h3⟩
      · rintro (h | ⟨pc', S', h1, h2, h3, h4, h5⟩)
        · exact .inl h
        · by_cases h6 : pc' = pc
          · subst h6; first | exact absurd ⟨h3, h4⟩ (hnoA S') | exact absurd ⟨h4, h5⟩ (hnoB S')
          · exact .inr ⟨pc', S', h1, by omega, h3, h4, h5⟩
  · try simp only [decide_eq_true_eq, decide_eq_false_iff_not, Bool.not_eq_true', Bool.not_eq_false', Bool.not_eq_eq_eq_not, Bool.not_true, Bool.not_false, beq_iff_eq, bne_iff_ne, ne_eq, beq_eq_false_iff_ne, bne_eq_false_iff_eq, gt_iff_lt, ge_iff_le, Int.not_lt, Int.not_le] at hc22
    refine c_exit (x_thenX (x_thenX (x_blkX (x_then (hK4 _ _ ?_)))))
    clear hK6 K6 hK4 K4
    refine forget [(7, _)] ⟨rfl, trivial⟩ (fun e => ?_)
    refine c_seq (fun K11 hK11 => ?_)
    refine c_reg ?_ -- region 9 sets.go:66
    refine wl (ro_move rfl) ?_
    refine wl (ro_assign rfl) ?_
    refine wl_nil (x_then (hK11 _ _ ?_))
    clear hK11 K11
    refine c_ret ?_
    refine bp_ret Tryz.results112 rfl ?_
    have hpe : pc = p.length := by omega
    subst hpe
    exact ⟨⟨M, rfl, hM64, hMq⟩, hF⟩

set_option maxHeartbeats 4000000 in
theorem masks79 {w : World} {D : DF} {N : DN} {kb : Nat} {p : List Ins} (hB : Blk w.heap D.db (dcl D (pgs kb p.length) N) 112) (hG : PGB w.heap kb (insL p)) (hp : PrgOK p) (hkd : kb ≠ D.db) :
    Ret Tryz.prog 79 [ptr D.db] w (fun v w' => v = .tuple #[] ∧ (∃ c1 c2 c3 : Nat, Blk w'.heap D.db (dcl D (pgs kb p.length) { N with ch := c1, en := c2, hi := c3 }) 112 ∧ MK p { N with ch := c1, en := c2, hi := c3 }) ∧ Fram (one D.db) w w') := by
  have hF : Fram (one D.db) w w := Fram.refl _ _
  have hm : one D.db D.db := rfl
  have hple := hp.le
  refine ret_of Tryz.func79 rfl Tryz.ntmps79 rfl ?_
  refine c_seq (fun K1 hK1 => ?_)
  refine c_reg ?_ -- region 0 sets.go:71
  refine wl (ro_move rfl) ?_
  refine wl (ro_move rfl) ?_
  refine wl (ro_move rfl) ?_
  refine wl (ro_nilCheck rfl) ?_
  refine wl (ro_fieldAddr (k := 1) rfl fo_112_1) ?_
  refine wl_put rfl rfl rfl sz_85 hB ((by simp)) (rfl) (fun w1 hB F1 => ?_)
  replace hF := hF.thenDrew.thenO F1 (by first | exact .inr (by omega) | exact .inl rfl | exact .inl (by assumption))
  replace hG := F1.blkO hG (by omega)
  refine wl (ro_nilCheck rfl) ?_
  refine wl (ro_fieldAddr (k := 2) rfl fo_112_2) ?_
  refine wl_put rfl rfl rfl sz_85 hB ((by simp)) (rfl) (fun w2 hB F2 => ?_)
  replace hF := hF.thenDrew.thenO F2 (by first | exact .inr (by omega) | exact .inl rfl | exact .inl (by assumption))
  replace hG := F2.blkO hG (by omega)
  refine wl (ro_nilCheck rfl) ?_
  refine wl (ro_fieldAddr (k := 3) rfl fo_112_3) ?_
  refine wl_put rfl rfl rfl sz_85 hB ((by simp)) (rfl) (fun w3 hB F3 => ?_)
  replace hF := hF.thenDrew.thenO F3 (by first | exact .inr (by omega) | exact .inl rfl | exact .inl (by assumption))
  replace hG := F3.blkO hG (by omega)
  refine wl_nil (x_then (hK1 _ _ ?_))
  clear hK1 K1
  refine forget [(0, _)] ⟨rfl, trivial⟩ (fun e => ?_)
  refine c_seq (fun K2 hK2 => ?_)
  refine c_reg ?_ -- region 1 sets.go:72
  refine wl (ro_assign rfl) ?_
  refine wl_nil (x_then (hK2 _ _ ?_))
  clear hK2 K2
  refine c_block ?_
  -- loop@r2: live slots [0, 2]
  refine c_loopG (fun m a' w' => ∃ (pc c1 c2 c3 : Nat), m = p.length - pc ∧ pc ≤ p.length ∧ c1 < 2 ^ 64 ∧ c2 < 2 ^ 64 ∧ c3 < 2 ^ 64 ∧ (∀ q, c1.testBit q = true ↔ q < pc ∧ ∃ S, p[q]? = some (.chr S)) ∧ (∀ q, c2.testBit q = true ↔ q < pc ∧ p[q]? = some .fin) ∧ (∀ q, c3.testBit q = true ↔ q < pc ∧ p[q]? = some .mat) ∧ Blk w'.heap D.db (dcl D (pgs kb p.length) { N with ch := c1, en := c2, hi := c3 }) 112 ∧ PGB w'.heap kb (insL p) ∧ Fram (one D.db) w w' ∧ ∃ e, a' = Fr 65 (upds e [(0, ptr D.db), (2, i64c pc)]) []) p.length ⟨0, 0, 0, 0, rfl, by omega, by decide, by decide, by decide, fun q => by simp, fun q => by simp, fun q => by simp, hB, hG, hF, kp _ ⟨rfl, rfl, trivial⟩⟩ ?_
  clear hB hG hF
  rintro m a' w1 ⟨pc, c1, c2, c3, rfl, hpc, h1, h2, h3, hq1, hq2, hq3, hB, hG, hF, e, rfl⟩
  refine c_seq (fun K3 hK3 => ?_)
  refine c_seq (fun K4 hK4 => ?_)
  refine c_reg ?_ -- region 2 sets.go:72
  refine wl (ro_move rfl) ?_
  refine wl (ro_move rfl) ?_
  refine wl (ro_nilCheck rfl) ?_
  refine wl (ro_fieldAddr (k := 0) rfl fo_112_0) ?_
  refine wl (ro_loadB rfl sc_109 (hB) (rfl)) ?_
  refine wl (ro_lenL rfl se_109) ?_
  refine wl (ro_cmp (r := decide (pc < p.length)) rfl rfl (congrArg some (decide_eq_decide.2 (by omega)))) ?_
  refine wl_nil (x_then (hK4 _ _ ?_))
  clear hK4 K4
  refine wc_cond rfl (fun hc18 => ?_) (fun hc18 => ?_)
  · try simp only [decide_eq_true_eq, decide_eq_false_iff_not, Bool.not_eq_true', Bool.not_eq_false', Bool.not_eq_eq_eq_not, Bool.not_true, Bool.not_false, beq_iff_eq, bne_iff_ne, ne_eq, beq_eq_false_iff_ne, bne_eq_false_iff_eq, gt_iff_lt, ge_iff_le, Int.not_lt, Int.not_le] at hc18
    obtain ⟨x, hx⟩ : ∃ x, p[pc]? = some x := ⟨_, List.getElem?_eq_getElem hc18⟩
    have hld := pg_load hx
    have hmono : ∀ (P : Nat → Prop) (c : Nat), (∀ q, c.testBit q = true ↔ q < pc ∧ P q) → ¬ P pc → ∀ q, c.testBit q = true ↔ q < pc + 1 ∧ P q := by
      intro P c h hn q
      rw [h]
      constructor
      · rintro ⟨h1, h2⟩; exact ⟨by omega, h2⟩
      · rintro ⟨h1, h2⟩
        refine ⟨?_, h2⟩
        by_cases h3 : q = pc
        · subst h3; exact absurd h2 hn
        · omega
    have hadd : ∀ (P : Nat → Prop) (c : Nat), (∀ q, c.testBit q = true ↔ q < pc ∧ P q) → P pc → ∀ q, (c ||| 2 ^ pc).testBit q = true ↔ q < pc + 1 ∧ P q := by
      intro P c h hn q
      rw [or_bit, h]
      constructor
      · rintro (⟨h1, h2⟩ | h)
        · exact ⟨by omega, h2⟩
        · subst h; exact ⟨by omega, hn⟩
      · rintro ⟨h1, h2⟩
        by_cases h3 : q = pc
        · exact .inr h3
        · exact .inl ⟨by omega, h2⟩
    refine c_skip (x_then (hK3 _ _ ?_))
    clear hK3 K3
    refine forget [(0, _), (2, _)] ⟨rfl, rfl, trivial⟩ (fun e => ?_)
    refine c_seq (fun K5 hK5 => ?_)
    refine c_block ?_
    refine c_seq (fun K6 hK6 => ?_)
    rcases x with S | ⟨a, b⟩ | a | a | ⟨⟩ | ⟨⟩ | ⟨⟩
    · skip
      refine c_reg ?_ -- region 4 sets.go:73
      refine wl (ro_move rfl) ?_
      refine wl (ro_nilCheck rfl) ?_
      refine wl (ro_fieldAddr (k := 0) rfl fo_112_0) ?_
      refine wl (ro_loadB rfl sc_109 (hB) (rfl)) ?_
      refine wl (ro_move rfl) ?_
      refine wl (ro_indexAddr (et := 175) (k := 7) rfl rfl se_109 (rfl) (hc18)) ?_
      refine wl (ro_fieldAddr (k := 0) rfl fo_175_0) ?_
      refine wl (ro_loadB rfl sc_3 (hG) (row_cell hld rfl)) ?_
      refine wl_nil (x_then (hK6 _ _ ?_))
      clear hK6 K6
      refine c_block ?_
      refine forget [(0, _), (2, _), (28, _)] ⟨rfl, rfl, rfl, trivial⟩ (fun e => ?_)
      refine c_seq (fun K7 hK7 => ?_)
      refine c_reg ?_ -- region 5 sets.go:74
      refine wl (ro_cmp rfl rfl rfl) ?_
      refine wl (ro_assign rfl) ?_
      refine wl_nil (x_then (hK7 _ _ ?_))
      clear hK7 K7
      refine wc_condT rfl ?_
      refine c_piL 10 [(0, false), (1, false), (2, false), (3, false), (4, false), (5, false), (6, true), (7, false), (8, false), (9, false)] (SameH _) mixed (by kernel_rfl) rfl (by kernel_rfl) (po_blk (po_blk (po_then (po_then (po_blk (po_bp)))))) (sameH_now _ _) ?_ -- region 6 sets.go:75
      refine ql_ro rfl (fun w hS => ro_move rfl) ?_
      refine ql_ro rfl (fun w hS => ro_move rfl) ?_
      refine ql_ro rfl (fun w hS => ro_nilCheck rfl) ?_
      refine ql_ro rfl (fun w hS => ro_fieldAddr (k := 1) rfl fo_112_1) ?_
      refine ql_ro rfl (fun w hS => ro_loadB rfl sc_85 (Blk.of_heap hB hS) (rfl)) ?_
      refine ql_ro rfl (fun w hS => ro_move rfl) ?_
      refine ql_call rfl rfl en_80 (bit80 (show pc < 64 by omega)) ?_
      rintro _ _ ⟨rfl, rfl⟩
      refine ⟨sameH_now _ _, ?_⟩
      refine ql_ro rfl (fun w hS => ro_orU (a := c1) (b := 2 ^ pc) rfl rfl h1 (pow64 (by omega))) ?_
      refine ql_ro rfl (fun w hS => ro_nilCheck rfl) ?_
      refine ql_ro rfl (fun w hS => ro_fieldAddr (k := 1) rfl fo_112_1) ?_
      refine ql_put rfl rfl rfl rfl sz_85 hB ((by simp)) (rfl) (fun w4 hB F4 => ?_)
      replace hF := hF.thenDrew.thenO F4 (by first | exact .inr (by omega) | exact .inl rfl | exact .inl (by assumption))
      replace hG := F4.blkO hG (by omega)
      refine x_blk (x_blk (x_then (hK5 _ _ ?_)))
      clear hK5 K5
      refine c_reg ?_ -- region 3 sets.go:72
      refine wl (ro_move rfl) ?_
      refine wl (ro_arith rfl rfl rfl (Go.IntWalk.i64_in _ (by omega))) ?_
      refine wl (ro_assign rfl) ?_
      refine wl_nil (x_then ?_)
      exact ⟨p.length - (pc + 1), by omega, pc + 1, c1 ||| 2 ^ pc, c2, c3, rfl, by omega, or_lt64 h1 (by omega), h2, h3, hadd _ c1 hq1 ⟨S, hx⟩, hmono _ c2 hq2 (by rw [hx]; simp), hmono _ c3 hq3 (by rw [hx]; simp), hB, hG, hF, kp _ ⟨rfl, rfl, trivial⟩⟩
    · skip
      refine c_reg ?_ -- region 4 sets.go:73
      refine wl (ro_move rfl) ?_
      refine wl (ro_nilCheck rfl) ?_
      refine wl (ro_fieldAddr (k := 0) rfl fo_112_0) ?_
      refine wl (ro_loadB rfl sc_109 (hB) (rfl)) ?_
      refine wl (ro_move rfl) ?_
      refine wl (ro_indexAddr (et := 175) (k := 7) rfl rfl se_109 (rfl) (hc18)) ?_
      refine wl (ro_fieldAddr (k := 0) rfl fo_175_0) ?_
      refine wl (ro_loadB rfl sc_3 (hG) (row_cell hld rfl)) ?_
      refine wl_nil (x_then (hK6 _ _ ?_))
      clear hK6 K6
      refine c_block ?_
      refine forget [(0, _), (2, _), (28, _)] ⟨rfl, rfl, rfl, trivial⟩ (fun e => ?_)
      refine c_seq (fun K8 hK8 => ?_)
      refine c_reg ?_ -- region 5 sets.go:74
      refine wl (ro_cmp rfl rfl rfl) ?_
      refine wl (ro_assign rfl) ?_
      refine wl_nil (x_then (hK8 _ _ ?_))
      clear hK8 K8
      refine wc_condF rfl ?_
      refine c_seq (fun K9 hK9 => ?_)
      refine c_reg ?_ -- region 7 sets.go:76
      refine wl (ro_cmp rfl rfl rfl) ?_
      refine wl (ro_assign rfl) ?_
      refine wl_nil (x_then (hK9 _ _ ?_))
      clear hK9 K9
      refine wc_condF rfl ?_
      refine c_seq (fun K10 hK10 => ?_)
      refine c_reg ?_ -- region 9 sets.go:78
      refine wl (ro_cmp rfl rfl rfl) ?_
      refine wl (ro_assign rfl) ?_
      refine wl_nil (x_then (hK10 _ _ ?_))
      clear hK10 K10
      refine wc_condF rfl ?_
      refine c_skip (x_blk (x_blk (x_then (hK5 _ _ ?_))))
      clear hK5 K5
      refine c_reg ?_ -- region 3 sets.go:72
      refine wl (ro_move rfl) ?_
      refine wl (ro_arith rfl rfl rfl (Go.IntWalk.i64_in _ (by omega))) ?_
      refine wl (ro_assign rfl) ?_
      refine wl_nil (x_then ?_)
      exact ⟨p.length - (pc + 1), by omega, pc + 1, c1, c2, c3, rfl, by omega, h1, h2, h3, hmono _ c1 hq1 (by rw [hx]; simp), hmono _ c2 hq2 (by rw [hx]; simp), hmono _ c3 hq3 (by rw [hx]; simp), hB, hG, hF, kp _ ⟨rfl, rfl, trivial⟩⟩
    · skip
      refine c_reg ?_ -- region 4 sets.go:73
      refine wl (ro_move rfl) ?_
      refine wl (ro_nilCheck rfl) ?_
      refine wl (ro_fieldAddr (k := 0) rfl fo_112_0) ?_
      refine wl (ro_loadB rfl sc_109 (hB) (rfl)) ?_
      refine wl (ro_move rfl) ?_
      refine wl (ro_indexAddr (et := 175) (k := 7) rfl rfl se_109 (rfl) (hc18)) ?_
      refine wl (ro_fieldAddr (k := 0) rfl fo_175_0) ?_
      refine wl (ro_loadB rfl sc_3 (hG) (row_cell hld rfl)) ?_
      refine wl_nil (x_then (hK6 _ _ ?_))
      clear hK6 K6
      refine c_block ?_
      refine forget [(0, _), (2, _), (28, _)] ⟨rfl, rfl, rfl, trivial⟩ (fun e => ?_)
      refine c_seq (fun K11 hK11 => ?_)
      refine c_reg ?_ -- region 5 sets.go:74
      refine wl (ro_cmp rfl rfl rfl) ?_
      refine wl (ro_assign rfl) ?_
      refine wl_nil (x_then (hK11 _ _ ?_))
      clear hK11 K11
      refine wc_condF rfl ?_
      refine c_seq (fun K12 hK12 => ?_)
      refine c_reg ?_ -- region 7 sets.go:76
      refine wl (ro_cmp rfl rfl rfl) ?_
      refine wl (ro_assign rfl) ?_
      refine wl_nil (x_then (hK12 _ _ ?_))
      clear hK12 K12
      refine wc_condF rfl ?_
      refine c_seq (fun K13 hK13 => ?_)
      refine c_reg ?_ -- region 9 sets.go:78
      refine wl (ro_cmp rfl rfl rfl) ?_
      refine wl (ro_assign rfl) ?_
      refine wl_nil (x_then (hK13 _ _ ?_))
      clear hK13 K13
      refine wc_condF rfl ?_
      refine c_skip (x_blk (x_blk (x_then (hK5 _ _ ?_))))
      clear hK5 K5
      refine c_reg ?_ -- region 3 sets.go:72
      refine wl (ro_move rfl) ?_
      refine wl (ro_arith rfl rfl rfl (Go.IntWalk.i64_in _ (by omega))) ?_
      refine wl (ro_assign rfl) ?_
      refine wl_nil (x_then ?_)
      exact ⟨p.length - (pc + 1), by omega, pc + 1, c1, c2, c3, rfl, by omega, h1, h2, h3, hmono _ c1 hq1 (by rw [hx]; simp), hmono _ c2 hq2 (by rw [hx]; simp), hmono _ c3 hq3 (by rw [hx]; simp), hB, hG, hF, kp _ ⟨rfl, rfl, trivial⟩⟩
    · skip
      refine c_reg ?_ -- region 4 sets.go:73
      refine wl (ro_move rfl) ?_
      refine wl (ro_nilCheck rfl) ?_
      refine wl (ro_fieldAddr (k := 0) rfl fo_112_0) ?_
      refine wl (ro_loadB rfl sc_109 (hB) (rfl)) ?_
      refine wl (ro_move rfl) ?_
      refine wl (ro_indexAddr (et := 175) (k := 7) rfl rfl se_109 (rfl) (hc18)) ?_
      refine wl (ro_fieldAddr (k := 0) rfl fo_175_0) ?_
      refine wl (ro_loadB rfl sc_3 (hG) (row_cell hld rfl)) ?_
      refine wl_nil (x_then (hK6 _ _ ?_))
      clear hK6 K6
      refine c_block ?_
      refine forget [(0, _), (2, _), (28, _)] ⟨rfl, rfl, rfl, trivial⟩ (fun e => ?_)
      refine c_seq (fun K14 hK14 => ?_)
      refine c_reg ?_ -- region 5 sets.go:74
      refine wl (ro_cmp rfl rfl rfl) ?_
      refine wl (ro_assign rfl) ?_
      refine wl_nil (x_then (hK14 _ _ ?_))
      clear hK14 K14
      refine wc_condF rfl ?_
      refine c_seq (fun K15 hK15 => ?_)
      refine c_reg ?_ -- region 7 sets.go:76
      refine wl (ro_cmp rfl rfl rfl) ?_
      refine wl (ro_assign rfl) ?_
      refine wl_nil (x_then (hK15 _ _ ?_))
      clear hK15 K15
      refine wc_condF rfl ?_
      refine c_seq (fun K16 hK16 => ?_)
      refine c_reg ?_ -- region 9 sets.go:78
      refine wl (ro_cmp rfl rfl rfl) ?_
      refine wl (ro_assign rfl) ?_
      refine wl_nil (x_then (hK16 _ _ ?_))
      clear hK16 K16
      refine wc_condF rfl ?_
      refine c_skip (x_blk (x_blk (x_then (hK5 _ _ ?_))))
      clear hK5 K5
      refine c_reg ?_ -- region 3 sets.go:72
      refine wl (ro_move rfl) ?_
      refine wl (ro_arith rfl rfl rfl (Go.IntWalk.i64_in _ (by omega))) ?_
      refine wl (ro_assign rfl) ?_
      refine wl_nil (x_then ?_)
      exact ⟨p.length - (pc + 1), by omega, pc + 1, c1, c2, c3, rfl, by omega, h1, h2, h3, hmono _ c1 hq1 (by rw [hx]; simp), hmono _ c2 hq2 (by rw [hx]; simp), hmono _ c3 hq3 (by rw [hx]; simp), hB, hG, hF, kp _ ⟨rfl, rfl, trivial⟩⟩
    · skip
      refine c_reg ?_ -- region 4 sets.go:73
      refine wl (ro_move rfl) ?_
      refine wl (ro_nilCheck rfl) ?_
      refine wl (ro_fieldAddr (k := 0) rfl fo_112_0) ?_
      refine wl (ro_loadB rfl sc_109 (hB) (rfl)) ?_
      refine wl (ro_move rfl) ?_
      refine wl (ro_indexAddr (et := 175) (k := 7) rfl rfl se_109 (rfl) (hc18)) ?_
      refine wl (ro_fieldAddr (k := 0) rfl fo_175_0) ?_
      refine wl (ro_loadB rfl sc_3 (hG) (row_cell hld rfl)) ?_
      refine wl_nil (x_then (hK6 _ _ ?_))
      clear hK6 K6
      refine c_block ?_
      refine forget [(0, _), (2, _), (28, _)] ⟨rfl, rfl, rfl, trivial⟩ (fun e => ?_)
      refine c_seq (fun K17 hK17 => ?_)
      refine c_reg ?_ -- region 5 sets.go:74
      refine wl (ro_cmp rfl rfl rfl) ?_
      refine wl (ro_assign rfl) ?_
      refine wl_nil (x_then (hK17 _ _ ?_))
      clear hK17 K17
      refine wc_condF rfl ?_
      refine c_seq (fun K18 hK18 => ?_)
      refine c_reg ?_ -- region 7 sets.go:76
      refine wl (ro_cmp rfl rfl rfl) ?_
      refine wl (ro_assign rfl) ?_
      refine wl_nil (x_then (hK18 _ _ ?_))
      clear hK18 K18
      refine wc_condF rfl ?_
      refine c_seq (fun K19 hK19 => ?_)
      refine c_reg ?_ -- region 9 sets.go:78
      refine wl (ro_cmp rfl rfl rfl) ?_
      refine wl (ro_assign rfl) ?_
      refine wl_nil (x_then (hK19 _ _ ?_))
      clear hK19 K19
      refine wc_condF rfl ?_
      refine c_skip (x_blk (x_blk (x_then (hK5 _ _ ?_))))
      clear hK5 K5
      refine c_reg ?_ -- region 3 sets.go:72
      refine wl (ro_move rfl) ?_
      refine wl (ro_arith rfl rfl rfl (Go.IntWalk.i64_in _ (by omega))) ?_
      refine wl (ro_assign rfl) ?_
      refine wl_nil (x_then ?_)
      exact ⟨p.length - (pc + 1), by omega, pc + 1, c1, c2, c3, rfl, by omega, h1, h2, h3, hmono _ c1 hq1 (by rw [hx]; simp), hmono _ c2 hq2 (by rw [hx]; simp), hmono _ c3 hq3 (by rw [hx]; simp), hB, hG, hF, kp _ ⟨rfl, rfl, trivial⟩⟩
    · skip
      refine c_reg ?_ -- region 4 sets.go:73
      refine wl (ro_move rfl) ?_
      refine wl (ro_nilCheck rfl) ?_
      refine wl (ro_fieldAddr (k := 0) rfl fo_112_0) ?_
      refine wl (ro_loadB rfl sc_109 (hB) (rfl)) ?_
      refine wl (ro_move rfl) ?_
      refine wl (ro_indexAddr (et := 175) (k := 7) rfl rfl se_109 (rfl) (hc18)) ?_
      refine wl (ro_fieldAddr (k := 0) rfl fo_175_0) ?_
      refine wl (ro_loadB rfl sc_3 (hG) (row_cell hld rfl)) ?_
      refine wl_nil (x_then (hK6 _ _ ?_))
      clear hK6 K6
      refine c_block ?_
      refine forget [(0, _), (2, _), (28, _)] ⟨rfl, rfl, rfl, trivial⟩ (fun e => ?_)
      refine c_seq (fun K20 hK20 => ?_)
      refine c_reg ?_ -- region 5 sets.go:74
      refine wl (ro_cmp rfl rfl rfl) ?_
      refine wl (ro_assign rfl) ?_
      refine wl_nil (x_then (hK20 _ _ ?_))
      clear hK20 K20
      refine wc_condF rfl ?_
      refine c_seq (fun K21 hK21 => ?_)
      refine c_reg ?_ -- region 7 sets.go:76
      refine wl (ro_cmp rfl rfl rfl) ?_
      refine wl (ro_assign rfl) ?_
      refine wl_nil (x_then (hK21 _ _ ?_))
      clear hK21 K21
      refine wc_condT rfl ?_
      refine c_piL 10 [(0, false), (1, false), (2, false), (3, false), (4, false), (5, false), (6, true), (7, false), (8, false), (9, false)] (SameH _) mixed (by kernel_rfl) rfl (by kernel_rfl) (po_blk (po_blk (po_then (po_then (po_blk (po_bp)))))) (sameH_now _ _) ?_ -- region 8 sets.go:77
      refine ql_ro rfl (fun w hS => ro_move rfl) ?_
      refine ql_ro rfl (fun w hS => ro_move rfl) ?_
      refine ql_ro rfl (fun w hS => ro_nilCheck rfl) ?_
      refine ql_ro rfl (fun w hS => ro_fieldAddr (k := 2) rfl fo_112_2) ?_
      refine ql_ro rfl (fun w hS => ro_loadB rfl sc_85 (Blk.of_heap hB hS) (rfl)) ?_
      refine ql_ro rfl (fun w hS => ro_move rfl) ?_
      refine ql_call rfl rfl en_80 (bit80 (show pc < 64 by omega)) ?_
      rintro _ _ ⟨rfl, rfl⟩
      refine ⟨sameH_now _ _, ?_⟩
      refine ql_ro rfl (fun w hS => ro_orU (a := c2) (b := 2 ^ pc) rfl rfl h2 (pow64 (by omega))) ?_
      refine ql_ro rfl (fun w hS => ro_nilCheck rfl) ?_
      refine ql_ro rfl (fun w hS => ro_fieldAddr (k := 2) rfl fo_112_2) ?_
      refine ql_put rfl rfl rfl rfl sz_85 hB ((by simp)) (rfl) (fun w5 hB F5 => ?_)
      replace hF := hF.thenDrew.thenO F5 (by first | exact .inr (by omega) | exact .inl rfl | exact .inl (by assumption))
      replace hG := F5.blkO hG (by omega)
      refine x_blk (x_blk (x_then (hK5 _ _ ?_)))
      clear hK5 K5
      refine c_reg ?_ -- region 3 sets.go:72
      refine wl (ro_move rfl) ?_
      refine wl (ro_arith rfl rfl rfl (Go.IntWalk.i64_in _ (by omega))) ?_
      refine wl (ro_assign rfl) ?_
      refine wl_nil (x_then ?_)
      exact ⟨p.length - (pc + 1), by omega, pc + 1, c1, c2 ||| 2 ^ pc, c3, rfl, by omega, h1, or_lt64 h2 (by omega), h3, hmono _ c1 hq1 (by rw [hx]; simp), hadd _ c2 hq2 hx, hmono _ c3 hq3 (by rw [hx]; simp), hB, hG, hF, kp _ ⟨rfl, rfl, trivial⟩⟩
    · skip
      refine c_reg ?_ -- region 4 sets.go:73
      refine wl (ro_move rfl) ?_
      refine wl (ro_nilCheck rfl) ?_
      refine wl (ro_fieldAddr (k := 0) rfl fo_112_0) ?_
      refine wl (ro_loadB rfl sc_109 (hB) (rfl)) ?_
      refine wl (ro_move rfl) ?_
      refine wl (ro_indexAddr (et := 175) (k := 7) rfl rfl se_109 (rfl) (hc18)) ?_
      refine wl (ro_fieldAddr (k := 0) rfl fo_175_0) ?_
      refine wl (ro_loadB rfl sc_3 (hG) (row_cell hld rfl)) ?_
      refine wl_nil (x_then (hK6 _ _ ?_))
      clear hK6 K6
      refine c_block ?_
      refine forget [(0, _), (2, _), (28, _)] ⟨rfl, rfl, rfl, trivial⟩ (fun e => ?_)
      refine c_seq (fun K22 hK22 => ?_)
      refine c_reg ?_ -- region 5 sets.go:74
      refine wl (ro_cmp rfl rfl rfl) ?_
      refine wl (ro_assign rfl) ?_
      refine wl_nil (x_then (hK22 _ _ ?_))
      clear hK22 K22
      refine wc_condF rfl ?_
      refine c_seq (fun K23 hK23 => ?_)
      refine c_reg ?_ -- region 7 sets.go:76
      refine wl (ro_cmp rfl rfl rfl) ?_
      refine wl (ro_assign rfl) ?_
      refine wl_nil (x_then (hK23 _ _ ?_))
      clear hK23 K23
      refine wc_condF rfl ?_
      refine c_seq (fun K24 hK24 => ?_)
      refine c_reg ?_ -- region 9 sets.go:78
      refine wl (ro_cmp rfl rfl rfl) ?_
      refine wl (ro_assign rfl) ?_
      refine wl_nil (x_then (hK24 _ _ ?_))
      clear hK24 K24
      refine wc_condT rfl ?_
      refine c_piL 10 [(0, false), (1, false), (2, false), (3, false), (4, false), (5, false), (6, true), (7, false), (8, false), (9, false)] (SameH _) mixed (by kernel_rfl) rfl (by kernel_rfl) (po_blk (po_blk (po_then (po_then (po_blk (po_bp)))))) (sameH_now _ _) ?_ -- region 10 sets.go:79
      refine ql_ro rfl (fun w hS => ro_move rfl) ?_
      refine ql_ro rfl (fun w hS => ro_move rfl) ?_
      refine ql_ro rfl (fun w hS => ro_nilCheck rfl) ?_
      refine ql_ro rfl (fun w hS => ro_fieldAddr (k := 3) rfl fo_112_3) ?_
      refine ql_ro rfl (fun w hS => ro_loadB rfl sc_85 (Blk.of_heap hB hS) (rfl)) ?_
      refine ql_ro rfl (fun w hS => ro_move rfl) ?_
      refine ql_call rfl rfl en_80 (bit80 (show pc < 64 by omega)) ?_
      rintro _ _ ⟨rfl, rfl⟩
      refine ⟨sameH_now _ _, ?_⟩
      refine ql_ro rfl (fun w hS => ro_orU (a := c3) (b := 2 ^ pc) rfl rfl h3 (pow64 (by omega))) ?_
      refine ql_ro rfl (fun w hS => ro_nilCheck rfl) ?_
      refine ql_ro rfl (fun w hS => ro_fieldAddr (k := 3) rfl fo_112_3) ?_
      refine ql_put rfl rfl rfl rfl sz_85 hB ((by simp)) (rfl) (fun w6 hB F6 => ?_)
      replace hF := hF.thenDrew.thenO F6 (by first | exact .inr (by omega) | exact .inl rfl | exact .inl (by assumption))
      replace hG := F6.blkO hG (by omega)
      refine x_blk (x_blk (x_then (hK5 _ _ ?_)))
      clear hK5 K5
      refine c_reg ?_ -- region 3 sets.go:72
      refine wl (ro_move rfl) ?_
      refine wl (ro_arith rfl rfl rfl (Go.IntWalk.i64_in _ (by omega))) ?_
      refine wl (ro_assign rfl) ?_
      refine wl_nil (x_then ?_)
      exact ⟨p.length - (pc + 1), by omega, pc + 1, c1, c2, c3 ||| 2 ^ pc, rfl, by omega, h1, h2, or_lt64 h3 (by omega), hmono _ c1 hq1 (by rw [hx]; simp), hmono _ c2 hq2 (by rw [hx]; simp), hadd _ c3 hq3 hx, hB, hG, hF, kp _ ⟨rfl, rfl, trivial⟩⟩
  · try simp only [decide_eq_true_eq, decide_eq_false_iff_not, Bool.not_eq_true', Bool.not_eq_false', Bool.not_eq_eq_eq_not, Bool.not_true, Bool.not_false, beq_iff_eq, bne_iff_ne, ne_eq, beq_eq_false_iff_ne, bne_eq_false_iff_eq, gt_iff_lt, ge_iff_le, Int.not_lt, Int.not_le] at hc18
    refine c_exit (x_thenX (x_thenX (x_blkX ?_)))
    refine bp_end Tryz.results79 rfl ?_
    have hpe : pc = p.length := by omega
    subst hpe
    refine ⟨rfl, ⟨c1, c2, c3, hB, ?_, ?_, ?_, h1, h2, h3⟩, hF⟩
    · intro q
      rw [hq1]
      exact ⟨fun h => h.2, fun h => ⟨by obtain ⟨S, h⟩ := h; exact (List.getElem?_eq_some_iff.1 h).1, h⟩⟩
    · intro q
      rw [hq2]
      exact ⟨fun h => h.2, fun h => ⟨(List.getElem?_eq_some_iff.1 h).1, h⟩⟩
    · intro q
      rw [hq3]
      exact ⟨fun h => h.2, fun h => ⟨(List.getElem?_eq_some_iff.1 h).1, h⟩⟩

end Go.Proofs.Qxb6500567aGreat
