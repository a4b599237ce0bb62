import Derived.Test.Qxb6500567aGreatJa
/- The automaton: closure. -/
namespace Go.Proofs.Qxb6500567aGreat
set_option linter.unusedVariables false
set_option linter.unusedSimpArgs false

/-- The closure under way. -/
structure JJ (p : List Ins) (ab ae : Bool) (Z R : Nat) (PU ST X : List Nat) (g : Nat → Value) : Prop where
  ps : PS R PU
  sk : SKV g ST
  sub : ∀ x ∈ ST, x ∈ PU
  nd : ST.Nodup
  lt : ∀ q ∈ PU, q < p.length
  sd : ∀ q, q < p.length → Z.testBit q = true → q ∈ PU
  gen : ∀ q ∈ PU, ∃ a, Z.testBit a = true ∧ Reach p ab ae a q
  cl : ∀ q ∈ PU, q ∉ ST → q ∉ X → ∀ q', eps p ab ae q q' → q' ∈ PU

theorem JJ.push {p : List Ins} {ab ae : Bool} {Z R : Nat} {PU ST : List Nat} {pc q' : Nat} {g g' : Nat → Value} (h : JJ p ab ae Z R PU ST [pc] g) (hpc : pc ∈ PU) (he : eps p ab ae pc q') (hq : q' < p.length ∧ q' < 64) (hg : SKV g' (pushW R q' PU ST).2.2) :
    JJ p ab ae Z (pushW R q' PU ST).1 (pushW R q' PU ST).2.1 (pushW R q' PU ST).2.2 [pc] g' ∧ q' ∈ (pushW R q' PU ST).2.1 ∧ (∀ x ∈ PU, x ∈ (pushW R q' PU ST).2.1) ∧ 2 * (64 - (pushW R q' PU ST).2.1.length) + (pushW R q' PU ST).2.2.length ≤ 2 * (64 - PU.length) + ST.length := by
  unfold pushW at hg ⊢
  cases hb : R.testBit q' with
  | true =>
    rw [hb] at hg
    exact ⟨⟨h.ps, hg, h.sub, h.nd, h.lt, h.sd, h.gen, h.cl⟩, (h.ps.bit q').1 hb, fun x hx => hx, Nat.le_refl _⟩
  | false =>
    rw [hb] at hg
    have hnm : q' ∉ PU := fun hm => by rw [(h.ps.bit q').2 hm] at hb; cases hb
    have hps := h.ps.push hq.2 hb
    have hl := hps.len
    simp only [Bool.false_eq_true, if_false] at hg ⊢
    refine ⟨⟨hps, hg, ?_, ?_, ?_, ?_, ?_, ?_⟩, by simp, fun x hx => List.mem_append_left _ hx, ?_⟩
    · intro x hx
      rcases List.mem_append.1 hx with hx | hx
      · exact List.mem_append_left _ (h.sub x hx)
      · exact List.mem_append_right _ hx
    · rw [List.nodup_append]
      refine ⟨h.nd, by simp, ?_⟩
      intro a ha b hb'
      simp at hb'
      subst hb'
      intro hab
      subst hab
      exact hnm (h.sub a ha)
    · intro x hx
      rcases List.mem_append.1 hx with hx | hx
      · exact h.lt x hx
      · simp at hx; omega
    · intro x hx hz
      exact List.mem_append_left _ (h.sd x hx hz)
    · intro x hx
      rcases List.mem_append.1 hx with hx | hx
      · exact h.gen x hx
      · simp at hx
        subst hx
        obtain ⟨a, h1, h2⟩ := h.gen pc hpc
        exact ⟨a, h1, .step _ _ _ h2 he⟩
    · intro x hx hxs hxX q'' he''
      rcases List.mem_append.1 hx with hx | hx
      · exact List.mem_append_left _ (h.cl x hx (fun hm => hxs (List.mem_append_left _ hm)) hxX q'' he'')
      · exact absurd (List.mem_append_right _ hx) hxs
    · simp only [List.length_append, List.length_singleton] at hl ⊢
      omega

theorem JJ.pop {p : List Ins} {ab ae : Bool} {Z R : Nat} {PU ST : List Nat} {pc : Nat} {g : Nat → Value} (h : JJ p ab ae Z R PU (ST ++ [pc]) [] g) : JJ p ab ae Z R PU ST [pc] g ∧ pc ∈ PU ∧ g ST.length = i64c pc := by
  have hnd := h.nd
  rw [List.nodup_append] at hnd
  refine ⟨⟨h.ps, fun i x hx => h.sk i x (by rw [List.getElem?_append_left (List.getElem?_eq_some_iff.1 hx).1]; exact hx), fun x hx => h.sub x (List.mem_append_left _ hx), hnd.1, h.lt, h.sd, h.gen, ?_⟩, h.sub pc (by simp), h.sk ST.length pc (by simp)⟩
  intro q hq hqs hqX q' he
  refine h.cl q hq (fun hm => ?_) (by simp) q' he
  rcases List.mem_append.1 hm with hm | hm
  · exact hqs hm
  · exact hqX hm

theorem JJ.done {p : List Ins} {ab ae : Bool} {Z R : Nat} {PU ST : List Nat} {pc : Nat} {g : Nat → Value} (h : JJ p ab ae Z R PU ST [pc] g) (hc : ∀ q', eps p ab ae pc q' → q' ∈ PU) : JJ p ab ae Z R PU ST [] g := by
  refine ⟨h.ps, h.sk, h.sub, h.nd, h.lt, h.sd, h.gen, ?_⟩
  intro q hq hqs _ q' he
  by_cases hqp : q = pc
  · subst hqp; exact hc q' he
  · exact h.cl q hq hqs (by simp [hqp]) q' he

theorem JJ.clo {p : List Ins} {ab ae : Bool} {Z R : Nat} {PU : List Nat} {g : Nat → Value} (h : JJ p ab ae Z R PU [] [] g) : Clo p ab ae Z R :=
  ⟨fun q hq hz => (h.ps.bit q).2 (h.sd q hq hz), fun q hq => h.lt q ((h.ps.bit q).1 hq), fun q q' hq he => (h.ps.bit q').2 (h.cl q ((h.ps.bit q).1 hq) (by simp) (by simp) q' he), fun q hq => h.gen q ((h.ps.bit q).1 hq)⟩

set_option maxHeartbeats 4000000 in
theorem closure61 {w : World} {D : DF} {N : DN} {kb Z : Nat} {p : List Ins} {ab ae : Bool} {g0 : Nat → Value} (hB : Blk w.heap D.db (dcl D (pgs kb p.length) N) 112) (hK : FB w.heap D.sk 64 g0 3) (hG : PGB w.heap kb (insL p)) (hne : D.db < D.sk) (hkd : kb ≠ D.db) (hks : kb ≠ D.sk) (hp : PrgOK p) (hZ : Z < 2 ^ 64) (hwo : N.wo ≤ 1000000000000000000) :
    Ret Tryz.prog 61 [ptr D.db, u64c Z, .bool ab, .bool ae] w (fun v w' => (∃ R, v = u64c R ∧ R < 2 ^ 64 ∧ Clo p ab ae Z R) ∧ Blk w'.heap D.db (dcl D (pgs kb p.length) { N with wo := N.wo + 1 }) 112 ∧ (∃ g', FB w'.heap D.sk 64 g' 3) ∧ PGB w'.heap kb (insL p) ∧ Fram (two D.db D.sk) w w') := by
  have hF : Fram (two D.db D.sk) w w := Fram.refl _ _
  have hmd : two D.db D.sk D.db := .inl rfl
  have hple := hp.le
  have bd := hB.lt
  have bk := hK.lt
  have bg := hG.lt
  refine ret_of Tryz.func61 rfl Tryz.ntmps61 rfl ?_
  refine c_seq (fun K1 hK1 => ?_)
  refine c_reg ?_ -- region 0 sets.go:22
  refine wl (ro_assign rfl) ?_
  refine wl_nil (x_then (hK1 _ _ ?_))
  clear hK1 K1
  refine forget [(0, _), (1, _), (2, _), (3, _)] ⟨rfl, rfl, rfl, rfl, trivial⟩ (fun e => ?_)
  refine c_seq (fun K2 hK2 => ?_)
  refine c_reg ?_ -- region 1 sets.go:23
  refine wl (ro_move rfl) ?_
  refine wl (ro_nilCheck rfl) ?_
  refine wl (ro_fieldAddr (k := 15) rfl fo_112_10) ?_
  refine wl (ro_loadB rfl sc_3 (hB) (rfl)) ?_
  refine wl (ro_arith rfl rfl rfl (Go.IntWalk.i64_in _ (by omega))) ?_
  refine wl (ro_nilCheck rfl) ?_
  refine wl (ro_fieldAddr (k := 15) rfl fo_112_10) ?_
  refine wl_put rfl rfl rfl sz_3 hB ((by simp)) (rfl) (fun w1 hB F1 => ?_)
  replace hF := hF.thenDrew.thenO F1 (by first | exact .inr (by omega) | exact .inl rfl | exact .inl (by assumption))
  replace hK := F1.blkO hK (by omega)
  replace hG := F1.blkO hG (by omega)
  refine wl_nil (x_then (hK2 _ _ ?_))
  clear hK2 K2
  refine forget [(0, _), (1, _), (2, _), (3, _)] ⟨rfl, rfl, rfl, rfl, trivial⟩ (fun e => ?_)
  refine c_seq (fun K3 hK3 => ?_)
  refine c_reg ?_ -- region 2 sets.go:24
  refine wl (ro_assign rfl) ?_
  refine wl (ro_assign rfl) ?_
  refine wl_nil (x_then (hK3 _ _ ?_))
  clear hK3 K3
  refine c_seq (fun K4 hK4 => ?_)
  refine c_seq (fun K5 hK5 => ?_)
  refine c_reg ?_ -- region 3 sets.go:25
  refine wl (ro_assign rfl) ?_
  refine wl_nil (x_then (hK5 _ _ ?_))
  clear hK5 K5
  refine c_block ?_
  -- loop@r4: live slots [0, 1, 2, 3, 9, 10, 11]
  refine c_loopG (fun m a' w' => ∃ (pc R : Nat) (PU : List Nat) (g : Nat → Value), m = p.length - pc ∧ pc ≤ p.length ∧ PS R PU ∧ SKV g PU ∧ (∀ q, q ∈ PU ↔ q < pc ∧ Z.testBit q = true) ∧ Blk w'.heap D.db (dcl D (pgs kb p.length) { N with wo := N.wo + 1 }) 112 ∧ FB w'.heap D.sk 64 g 3 ∧ PGB w'.heap kb (insL p) ∧ Fram (two D.db D.sk) w w' ∧ ∃ e, a' = Fr 130 (upds e [(0, ptr D.db), (1, u64c Z), (2, .bool ab), (3, .bool ae), (9, u64c R), (10, i64c PU.length), (11, i64c pc)]) []) p.length ⟨0, 0, [], g0, rfl, by omega, ⟨fun pc => by simp, by simp, by simp⟩, fun i x h => by simp at h, fun q => by simp, hB, hK, hG, hF, kp _ ⟨rfl, rfl, rfl, rfl, rfl, rfl, rfl, trivial⟩⟩ ?_
  clear hB hK hG hF
  rintro m a' w1 ⟨pc, R, PU, g, rfl, hpc, hP, hS, hq, hB, hK, hG, hF, e, rfl⟩
  refine c_seq (fun K6 hK6 => ?_)
  refine c_seq (fun K7 hK7 => ?_)
  refine c_reg ?_ -- region 4 sets.go:25
  refine wl (ro_move rfl) ?_
  refine wl (ro_move rfl) ?_
  refine wl (ro_nilCheck rfl) ?_
  refine wl (ro_fieldAddr (k := 0) rfl fo_112_0) ?_
  refine wl (ro_loadB rfl sc_109 (hB) (rfl)) ?_
  refine wl (ro_lenL rfl se_109) ?_
  refine wl (ro_cmp (r := decide (pc < p.length)) rfl rfl (congrArg some (decide_eq_decide.2 (by omega)))) ?_
  refine wl_nil (x_then (hK7 _ _ ?_))
  clear hK7 K7
  refine wc_cond rfl (fun hc27 => ?_) (fun hc27 => ?_)
  · try simp only [decide_eq_true_eq, decide_eq_false_iff_not, Bool.not_eq_true', Bool.not_eq_false', Bool.not_eq_eq_eq_not, Bool.not_true, Bool.not_false, beq_iff_eq, bne_iff_ne, ne_eq, beq_eq_false_iff_ne, bne_eq_false_iff_eq, gt_iff_lt, ge_iff_le, Int.not_lt, Int.not_le] at hc27
    refine c_skip (x_then (hK6 _ _ ?_))
    clear hK6 K6
    refine forget [(0, _), (1, _), (2, _), (3, _), (9, _), (10, _), (11, _)] ⟨rfl, rfl, rfl, rfl, rfl, rfl, rfl, trivial⟩ (fun e => ?_)
    refine c_seq (fun K8 hK8 => ?_)
    refine c_block ?_
    refine c_seq (fun K9 hK9 => ?_)
    refine c_reg ?_ -- region 6 sets.go:26
    refine wl (ro_move rfl) ?_
    refine wl (ro_move rfl) ?_
    refine wl_call rfl en_80 (bit80 (show pc < 64 by omega)) ?_
    rintro _ _ ⟨rfl, rfl⟩
    refine wl (ro_andU (a := Z) (b := 2 ^ pc) rfl rfl hZ (Nat.pow_lt_pow_right (by omega) (by omega))) ?_
    refine wl (ro_cmp (r := decide (Z &&& 2 ^ pc ≠ 0)) rfl rfl (congrArg some (bnec (Z &&& 2 ^ pc) 0))) ?_
    refine wl_nil (x_then (hK9 _ _ ?_))
    clear hK9 K9
    refine wc_cond rfl (fun hc34 => ?_) (fun hc34 => ?_)
    · try simp only [decide_eq_true_eq, decide_eq_false_iff_not, Bool.not_eq_true', Bool.not_eq_false', Bool.not_eq_eq_eq_not, Bool.not_true, Bool.not_false, beq_iff_eq, bne_iff_ne, ne_eq, beq_eq_false_iff_ne, bne_eq_false_iff_eq, gt_iff_lt, ge_iff_le, Int.not_lt, Int.not_le] at hc34
      have hzb : Z.testBit pc = true := by
        cases h : Z.testBit pc with
        | true => rfl
        | false => exact absurd (tb_pow.2 h) hc34
      have hRb : R.testBit pc = false := by
        apply Bool.eq_false_iff.2
        intro hb
        have := ((hq pc).1 ((hP.bit pc).1 hb)).1
        omega
      refine c_reg ?_ -- region 7 sets.go:27
      refine wl (ro_move rfl) ?_
      refine wl (ro_move rfl) ?_
      refine wl (ro_move rfl) ?_
      refine wl (ro_move rfl) ?_
      refine wl_call rfl en_81 (push81 hB hK (by omega) hP hS (fun x hx ↦ hx) hP.nd (show pc < 64 by omega)) ?_
      rintro _ w3 ⟨rfl, hB, ⟨g3, hK, hS3⟩, F3⟩
      replace hG := F3.blkO hG (by omega)
      replace hF := hF.transG F3 (fun k _ h ↦ .inr h)
      have hpw : pushW R pc PU PU = (R ||| 2 ^ pc, PU ++ [pc], PU ++ [pc]) := by unfold pushW; rw [hRb]; rfl
      rw [hpw] at hS3
      simp only [hpw]
      refine wl (ro_move rfl) ?_
      refine wl (ro_extract rfl rfl) ?_
      refine wl (ro_extract rfl rfl) ?_
      refine wl (ro_assign rfl) ?_
      refine wl (ro_assign rfl) ?_
      refine wl_nil (x_blk (x_then (hK8 _ _ ?_)))
      clear hK8 K8
      refine c_reg ?_ -- region 5 sets.go:25
      refine wl (ro_move rfl) ?_
      refine wl (ro_arith rfl rfl rfl (Go.IntWalk.i64_in _ (by omega))) ?_
      refine wl (ro_assign rfl) ?_
      refine wl_nil (x_then ?_)
      refine ⟨p.length - (pc + 1), by omega, pc + 1, R ||| 2 ^ pc, PU ++ [pc], g3, rfl, by omega, hP.push (by omega) hRb, hS3, ?_, hB, hK, hG, hF, kp _ ⟨rfl, rfl, rfl, rfl, rfl, rfl, rfl, trivial⟩⟩
      intro q
      rw [List.mem_append, hq, List.mem_singleton]
      constructor
      · rintro (h | h)
        · exact ⟨by omega, h.2⟩
        · subst h; exact ⟨by omega, hzb⟩
      · rintro ⟨h1, h2⟩
        by_cases h3 : q = pc
        · exact .inr h3
        · exact .inl ⟨by omega, h2⟩
    · try simp only [decide_eq_true_eq, decide_eq_false_iff_not, Bool.not_eq_true', Bool.not_eq_false', Bool.not_eq_eq_eq_not, Bool.not_true, Bool.not_false, beq_iff_eq, bne_iff_ne, ne_eq, beq_eq_false_iff_ne, bne_eq_false_iff_eq, gt_iff_lt, ge_iff_le, Int.not_lt, Int.not_le] at hc34
      have hzb : Z.testBit pc = false := tb_pow.1 (by omega)
      refine c_skip (x_blk (x_then (hK8 _ _ ?_)))
      clear hK8 K8
      refine c_reg ?_ -- region 5 sets.go:25
      refine wl (ro_move rfl) ?_
      refine wl (ro_arith rfl rfl rfl (Go.IntWalk.i64_in _ (by omega))) ?_
      refine wl (ro_assign rfl) ?_
      refine wl_nil (x_then ?_)
      refine ⟨p.length - (pc + 1), by omega, pc + 1, R, PU, g, rfl, by omega, hP, hS, ?_, hB, hK, hG, hF, kp _ ⟨rfl, rfl, rfl, rfl, rfl, rfl, rfl, trivial⟩⟩
      intro q
      rw [hq]
      constructor
      · rintro ⟨h1, h2⟩; exact ⟨by omega, h2⟩
      · rintro ⟨h1, h2⟩
        refine ⟨?_, h2⟩
        by_cases h3 : q = pc
        · subst h3; rw [hzb] at h2; cases h2
        · omega
  · try simp only [decide_eq_true_eq, decide_eq_false_iff_not, Bool.not_eq_true', Bool.not_eq_false', Bool.not_eq_eq_eq_not, Bool.not_true, Bool.not_false, beq_iff_eq, bne_iff_ne, ne_eq, beq_eq_false_iff_ne, bne_eq_false_iff_eq, gt_iff_lt, ge_iff_le, Int.not_lt, Int.not_le] at hc27
    refine c_exit (x_thenX (x_thenX (x_blkX (x_then (hK4 _ _ ?_)))))
    clear hK6 K6 hK4 K4
    refine forget [(0, _), (2, _), (3, _), (9, _), (10, _)] ⟨rfl, rfl, rfl, rfl, rfl, trivial⟩ (fun e => ?_)
    refine c_seq (fun K10 hK10 => ?_)
    refine c_block ?_
    -- loop@r8: live slots [0, 2, 3, 9, 10]
    have hpce : pc = p.length := by omega
    subst hpce
    have hJ0 : JJ p ab ae Z R PU PU [] g := ⟨hP, hS, fun x hx => hx, hP.nd, fun q h => ((hq q).1 h).1, fun q h1 h2 => (hq q).2 ⟨h1, h2⟩, fun q h => ⟨q, ((hq q).1 h).2, .refl _⟩, fun q h1 h2 => absurd h1 h2⟩
    refine c_loopG (fun m a' w' => ∃ (R : Nat) (PU ST : List Nat) (g : Nat → Value), m = 2 * (64 - PU.length) + ST.length ∧ JJ p ab ae Z R PU ST [] g ∧ Blk w'.heap D.db (dcl D (pgs kb p.length) { N with wo := N.wo + 1 }) 112 ∧ FB w'.heap D.sk 64 g 3 ∧ PGB w'.heap kb (insL p) ∧ Fram (two D.db D.sk) w w' ∧ ∃ e, a' = Fr 130 (upds e [(0, ptr D.db), (2, .bool ab), (3, .bool ae), (9, u64c R), (10, i64c ST.length)]) []) _ ⟨R, PU, PU, g, rfl, hJ0, hB, hK, hG, hF, kp _ ⟨rfl, rfl, rfl, rfl, rfl, trivial⟩⟩ ?_
    clear hB hK hG hF hJ0 hP hS hq
    rintro m a' w1 ⟨R, PU, ST, g, rfl, J, hB, hK, hG, hF, e, rfl⟩
    refine c_seq (fun K11 hK11 => ?_)
    refine c_seq (fun K12 hK12 => ?_)
    refine c_reg ?_ -- region 8 sets.go:30
    refine wl (ro_move rfl) ?_
    refine wl (ro_cmp (r := decide (0 < ST.length)) rfl rfl (congrArg some (decide_eq_decide.2 (by show ((ST.length : Nat) : Int) > 0 ↔ _; omega)))) ?_
    refine wl_nil (x_then (hK12 _ _ ?_))
    clear hK12 K12
    refine wc_cond rfl (fun hc44 => ?_) (fun hc44 => ?_)
    · try simp only [decide_eq_true_eq, decide_eq_false_iff_not, Bool.not_eq_true', Bool.not_eq_false', Bool.not_eq_eq_eq_not, Bool.not_true, Bool.not_false, beq_iff_eq, bne_iff_ne, ne_eq, beq_eq_false_iff_ne, bne_eq_false_iff_eq, gt_iff_lt, ge_iff_le, Int.not_lt, Int.not_le] at hc44
      obtain ⟨ST', pc, rfl⟩ : ∃ ST' pc, ST = ST' ++ [pc] := by
        rcases List.eq_nil_or_concat ST with h | ⟨L, b, h⟩
        · rw [h] at hc44; simp at hc44
        · exact ⟨L, b, by rw [h, List.concat_eq_append]⟩
      obtain ⟨J1, hpcm, hgt⟩ := J.pop
      have hpcl := J1.lt pc hpcm
      have hstl : ST'.length < 64 := by
        have := J.ps.len
        have h9 : (ST' ++ [pc]).length ≤ 64 := pigeon 64 _ J.nd (fun x hx => J.ps.lt x (J.sub x hx))
        simp at h9
        omega
      obtain ⟨x, hx⟩ : ∃ x, p[pc]? = some x := ⟨_, List.getElem?_eq_getElem hpcl⟩
      have hok := hp.ok pc x hx
      have hld := pg_load hx
      have hlen1 : (ST' ++ [pc]).length = ST'.length + 1 := by simp
      refine c_skip (x_then (hK11 _ _ ?_))
      clear hK11 K11
      refine c_block ?_
      refine forget [(0, _), (2, _), (3, _), (9, _), (10, _)] ⟨rfl, rfl, rfl, rfl, rfl, trivial⟩ (fun e => ?_)
      refine c_seq (fun K13 hK13 => ?_)
      refine c_reg ?_ -- region 9 sets.go:31
      refine wl (ro_move rfl) ?_
      refine wl (ro_arith (r := (ST'.length : Int)) rfl rfl (congrArg some (by rw [hlen1]; omega)) (Go.IntWalk.i64_in _ (by omega))) ?_
      refine wl (ro_assign rfl) ?_
      refine wl_nil (x_then (hK13 _ _ ?_))
      clear hK13 K13
      refine forget [(0, _), (2, _), (3, _), (9, _), (10, _)] ⟨rfl, rfl, rfl, rfl, rfl, trivial⟩ (fun e => ?_)
      refine c_seq (fun K14 hK14 => ?_)
      refine c_reg ?_ -- region 10 sets.go:32
      refine wl (ro_move rfl) ?_
      refine wl (ro_nilCheck rfl) ?_
      refine wl (ro_fieldAddr (k := 12) rfl fo_112_7) ?_
      refine wl (ro_loadB rfl sc_97 (hB) (rfl)) ?_
      refine wl (ro_move rfl) ?_
      refine wl (ro_indexAddr (et := 3) (k := 1) rfl rfl se_97 (rfl) (hstl)) ?_
      refine wl (ro_loadB rfl sc_3 (hK) (cel_at (by omega) (by omega) hgt)) ?_
      refine wl (ro_assign rfl) ?_
      refine wl_nil (x_then (hK14 _ _ ?_))
      clear hK14 K14
      refine forget [(0, _), (2, _), (3, _), (9, _), (10, _), (12, _)] ⟨rfl, rfl, rfl, rfl, rfl, rfl, trivial⟩ (fun e => ?_)
      refine c_seq (fun K15 hK15 => ?_)
      rcases x with S | ⟨a, b⟩ | a | a | ⟨⟩ | ⟨⟩ | ⟨⟩
      · skip
        have hdone := J1.done (fun q' he => by simp only [eps, hx] at he)
        refine c_reg ?_ -- region 11 sets.go:33
        refine wl (ro_move rfl) ?_
        refine wl (ro_nilCheck rfl) ?_
        refine wl (ro_fieldAddr (k := 0) rfl fo_112_0) ?_
        refine wl (ro_loadB rfl sc_109 (hB) (rfl)) ?_
        refine wl (ro_move rfl) ?_
        refine wl (ro_indexAddr (et := 175) (k := 7) rfl rfl se_109 (rfl) (hpcl)) ?_
        refine wl (ro_loadAggB rfl ag_175 (hG) (rfl) (hld)) ?_
        refine wl_new (ze_175) (fun xb w2 hbxb hX F2 => ?_)
        have hbsxb := Nat.le_trans hF.size hbxb
        have hneD.dbxb : D.db < xb := Nat.lt_of_lt_of_le hB.lt hbxb
        have hneD.skxb : D.sk < xb := Nat.lt_of_lt_of_le hK.lt hbxb
        have hnekbxb : kb < xb := Nat.lt_of_lt_of_le hG.lt hbxb
        replace hF := hF.thenDrew.thenN F2
        replace hB := F2.blkN hB
        replace hK := F2.blkN hK
        replace hG := F2.blkN hG
        refine wl_puta rfl rfl ((ric_cells _)) sz_175 (rfl) hX ((by simp)) (rfl) (fun w3 hX F3 => ?_)
        replace hF := hF.thenDrew.thenO F3 (by first | exact .inr (by omega) | exact .inl rfl | exact .inl (by assumption))
        replace hB := F3.blkO hB (by omega)
        replace hK := F3.blkO hK (by omega)
        replace hG := F3.blkO hG (by omega)
        refine wl_nil (x_then (hK15 _ _ ?_))
        clear hK15 K15
        refine forget [(0, _), (2, _), (3, _), (9, _), (10, _), (12, _), (13, _)] ⟨rfl, rfl, rfl, rfl, rfl, rfl, rfl, trivial⟩ (fun e => ?_)
        refine c_seq (fun K16 hK16 => ?_)
        refine c_reg ?_ -- region 12 sets.go:34
        refine wl (ro_fieldAddr (k := 0) rfl fo_175_0) ?_
        refine wl (ro_loadB rfl sc_3 (hX) (rfl)) ?_
        refine wl_nil (x_then (hK16 _ _ ?_))
        clear hK16 K16
        refine c_block ?_
        refine forget [(0, _), (2, _), (3, _), (9, _), (10, _), (12, _), (13, _), (62, _)] ⟨rfl, rfl, rfl, rfl, rfl, rfl, rfl, rfl, trivial⟩ (fun e => ?_)
        refine c_seq (fun K17 hK17 => ?_)
        refine c_reg ?_ -- region 13 sets.go:35
        refine wl (ro_cmp rfl rfl rfl) ?_
        refine wl (ro_assign rfl) ?_
        refine wl_nil (x_then (hK17 _ _ ?_))
        clear hK17 K17
        refine wc_condF rfl ?_
        refine c_seq (fun K18 hK18 => ?_)
        refine c_reg ?_ -- region 16 sets.go:38
        refine wl (ro_cmp rfl rfl rfl) ?_
        refine wl (ro_assign rfl) ?_
        refine wl_nil (x_then (hK18 _ _ ?_))
        clear hK18 K18
        refine wc_condF rfl ?_
        refine c_seq (fun K19 hK19 => ?_)
        refine c_reg ?_ -- region 18 sets.go:40
        refine wl (ro_cmp rfl rfl rfl) ?_
        refine wl (ro_assign rfl) ?_
        refine wl_nil (x_then (hK19 _ _ ?_))
        clear hK19 K19
        refine wc_condF rfl ?_
        refine c_seq (fun K20 hK20 => ?_)
        refine c_reg ?_ -- region 20 sets.go:42
        refine wl (ro_cmp rfl rfl rfl) ?_
        refine wl (ro_assign rfl) ?_
        refine wl_nil (x_then (hK20 _ _ ?_))
        clear hK20 K20
        refine wc_condF rfl ?_
        refine c_seq (fun K21 hK21 => ?_)
        refine c_reg ?_ -- region 23 sets.go:46
        refine wl (ro_cmp rfl rfl rfl) ?_
        refine wl (ro_assign rfl) ?_
        refine wl_nil (x_then (hK21 _ _ ?_))
        clear hK21 K21
        refine wc_condF rfl ?_
        refine c_skip (x_blk (x_blk (x_then ?_)))
        exact ⟨_, by rw [hlen1]; omega, _, _, _, _, rfl, hdone, hB, hK, hG, hF, kp _ ⟨rfl, rfl, rfl, rfl, rfl, trivial⟩⟩
      · skip
        have hok1 : a < p.length := hok.1
        have hok2 : b < p.length := hok.2
        refine c_reg ?_ -- region 11 sets.go:33
        refine wl (ro_move rfl) ?_
        refine wl (ro_nilCheck rfl) ?_
        refine wl (ro_fieldAddr (k := 0) rfl fo_112_0) ?_
        refine wl (ro_loadB rfl sc_109 (hB) (rfl)) ?_
        refine wl (ro_move rfl) ?_
        refine wl (ro_indexAddr (et := 175) (k := 7) rfl rfl se_109 (rfl) (hpcl)) ?_
        refine wl (ro_loadAggB rfl ag_175 (hG) (rfl) (hld)) ?_
        refine wl_new (ze_175) (fun xb w4 hbxb hX F4 => ?_)
        have hbsxb := Nat.le_trans hF.size hbxb
        have hneD.dbxb : D.db < xb := Nat.lt_of_lt_of_le hB.lt hbxb
        have hneD.skxb : D.sk < xb := Nat.lt_of_lt_of_le hK.lt hbxb
        have hnekbxb : kb < xb := Nat.lt_of_lt_of_le hG.lt hbxb
        replace hF := hF.thenDrew.thenN F4
        replace hB := F4.blkN hB
        replace hK := F4.blkN hK
        replace hG := F4.blkN hG
        refine wl_puta rfl rfl ((ric_cells _)) sz_175 (rfl) hX ((by simp)) (rfl) (fun w5 hX F5 => ?_)
        replace hF := hF.thenDrew.thenO F5 (by first | exact .inr (by omega) | exact .inl rfl | exact .inl (by assumption))
        replace hB := F5.blkO hB (by omega)
        replace hK := F5.blkO hK (by omega)
        replace hG := F5.blkO hG (by omega)
        refine wl_nil (x_then (hK15 _ _ ?_))
        clear hK15 K15
        refine forget [(0, _), (2, _), (3, _), (9, _), (10, _), (12, _), (13, _)] ⟨rfl, rfl, rfl, rfl, rfl, rfl, rfl, trivial⟩ (fun e => ?_)
        refine c_seq (fun K22 hK22 => ?_)
        refine c_reg ?_ -- region 12 sets.go:34
        refine wl (ro_fieldAddr (k := 0) rfl fo_175_0) ?_
        refine wl (ro_loadB rfl sc_3 (hX) (rfl)) ?_
        refine wl_nil (x_then (hK22 _ _ ?_))
        clear hK22 K22
        refine c_block ?_
        refine forget [(0, _), (2, _), (3, _), (9, _), (10, _), (12, _), (13, _), (62, _)] ⟨rfl, rfl, rfl, rfl, rfl, rfl, rfl, rfl, trivial⟩ (fun e => ?_)
        refine c_seq (fun K23 hK23 => ?_)
        refine c_reg ?_ -- region 13 sets.go:35
        refine wl (ro_cmp rfl rfl rfl) ?_
        refine wl (ro_assign rfl) ?_
        refine wl_nil (x_then (hK23 _ _ ?_))
        clear hK23 K23
        refine wc_condT rfl ?_
        refine c_seq (fun K24 hK24 => ?_)
        refine c_reg ?_ -- region 14 sets.go:36
        refine wl (ro_move rfl) ?_
        refine wl (ro_move rfl) ?_
        refine wl (ro_move rfl) ?_
        refine wl (ro_fieldAddr (k := 1) rfl fo_175_1) ?_
        refine wl (ro_loadB rfl sc_3 (hX) ((show _ = some (i64c a) from rfl))) ?_
        refine wl_call rfl en_81 (push81 hB hK (by omega) J1.ps J1.sk J1.sub J1.nd (show a < 64 by omega)) ?_
        rintro _ w3 ⟨rfl, hB, ⟨g3, hK, hS3⟩, F3⟩
        replace hG := F3.blkO hG (by omega)
        replace hX := F3.blkO hX (by omega)
        replace hF := hF.transG F3 (fun k _ h ↦ .inr h)
        obtain ⟨J3, hq3, hs3, hm3⟩ := J1.push hpcm (show eps p ab ae pc a by simp [eps, hx]) ⟨hok1, by omega⟩ hS3
        refine wl (ro_move rfl) ?_
        refine wl (ro_extract rfl rfl) ?_
        refine wl (ro_extract rfl rfl) ?_
        refine wl (ro_assign rfl) ?_
        refine wl (ro_assign rfl) ?_
        refine wl_nil (x_then (hK24 _ _ ?_))
        clear hK24 K24
        refine c_reg ?_ -- region 15 sets.go:37
        refine wl (ro_move rfl) ?_
        refine wl (ro_move rfl) ?_
        refine wl (ro_move rfl) ?_
        refine wl (ro_fieldAddr (k := 2) rfl fo_175_2) ?_
        refine wl (ro_loadB rfl sc_3 (hX) ((show _ = some (i64c b) from rfl))) ?_
        refine wl_call rfl en_81 (push81 hB hK (by omega) J3.ps J3.sk J3.sub J3.nd (show b < 64 by omega)) ?_
        rintro _ w4 ⟨rfl, hB, ⟨g4, hK, hS4⟩, F4⟩
        replace hG := F4.blkO hG (by omega)
        replace hF := hF.transG F4 (fun k _ h ↦ .inr h)
        obtain ⟨J4, hq4, hs4, hm4⟩ := J3.push (hs3 _ hpcm) (show eps p ab ae pc b by simp [eps, hx]) ⟨hok2, by omega⟩ hS4
        have hdone := J4.done (fun q' he => by simp only [eps, hx] at he; rcases he with rfl | rfl; exact hs4 _ hq3; exact hq4)
        refine wl (ro_move rfl) ?_
        refine wl (ro_extract rfl rfl) ?_
        refine wl (ro_extract rfl rfl) ?_
        refine wl (ro_assign rfl) ?_
        refine wl (ro_assign rfl) ?_
        refine wl_nil (x_blk (x_blk (x_then ?_)))
        exact ⟨_, by rw [hlen1]; omega, _, _, _, _, rfl, hdone, hB, hK, hG, hF, kp _ ⟨rfl, rfl, rfl, rfl, rfl, trivial⟩⟩
      · skip
        have hok1 : a < p.length := hok
        refine c_reg ?_ -- region 11 sets.go:33
        refine wl (ro_move rfl) ?_
        refine wl (ro_nilCheck rfl) ?_
        refine wl (ro_fieldAddr (k := 0) rfl fo_112_0) ?_
        refine wl (ro_loadB rfl sc_109 (hB) (rfl)) ?_
        refine wl (ro_move rfl) ?_
        refine wl (ro_indexAddr (et := 175) (k := 7) rfl rfl se_109 (rfl) (hpcl)) ?_
        refine wl (ro_loadAggB rfl ag_175 (hG) (rfl) (hld)) ?_
        refine wl_new (ze_175) (fun xb w6 hbxb hX F6 => ?_)
        have hbsxb := Nat.le_trans hF.size hbxb
        have hneD.dbxb : D.db < xb := Nat.lt_of_lt_of_le hB.lt hbxb
        have hneD.skxb : D.sk < xb := Nat.lt_of_lt_of_le hK.lt hbxb
        have hnekbxb : kb < xb := Nat.lt_of_lt_of_le hG.lt hbxb
        replace hF := hF.thenDrew.thenN F6
        replace hB := F6.blkN hB
        replace hK := F6.blkN hK
        replace hG := F6.blkN hG
        refine wl_puta rfl rfl ((ric_cells _)) sz_175 (rfl) hX ((by simp)) (rfl) (fun w7 hX F7 => ?_)
        replace hF := hF.thenDrew.thenO F7 (by first | exact .inr (by omega) | exact .inl rfl | exact .inl (by assumption))
        replace hB := F7.blkO hB (by omega)
        replace hK := F7.blkO hK (by omega)
        replace hG := F7.blkO hG (by omega)
        refine wl_nil (x_then (hK15 _ _ ?_))
        clear hK15 K15
        refine forget [(0, _), (2, _), (3, _), (9, _), (10, _), (12, _), (13, _)] ⟨rfl, rfl, rfl, rfl, rfl, rfl, rfl, trivial⟩ (fun e => ?_)
        refine c_seq (fun K25 hK25 => ?_)
        refine c_reg ?_ -- region 12 sets.go:34
        refine wl (ro_fieldAddr (k := 0) rfl fo_175_0) ?_
        refine wl (ro_loadB rfl sc_3 (hX) (rfl)) ?_
        refine wl_nil (x_then (hK25 _ _ ?_))
        clear hK25 K25
        refine c_block ?_
        refine forget [(0, _), (2, _), (3, _), (9, _), (10, _), (12, _), (13, _), (62, _)] ⟨rfl, rfl, rfl, rfl, rfl, rfl, rfl, rfl, trivial⟩ (fun e => ?_)
        refine c_seq (fun K26 hK26 => ?_)
        refine c_reg ?_ -- region 13 sets.go:35
        refine wl (ro_cmp rfl rfl rfl) ?_
        refine wl (ro_assign rfl) ?_
        refine wl_nil (x_then (hK26 _ _ ?_))
        clear hK26 K26
        refine wc_condF rfl ?_
        refine c_seq (fun K27 hK27 => ?_)
        refine c_reg ?_ -- region 16 sets.go:38
        refine wl (ro_cmp rfl rfl rfl) ?_
        refine wl (ro_assign rfl) ?_
        refine wl_nil (x_then (hK27 _ _ ?_))
        clear hK27 K27
        refine wc_condT rfl ?_
        refine c_reg ?_ -- region 17 sets.go:39
        refine wl (ro_move rfl) ?_
        refine wl (ro_move rfl) ?_
        refine wl (ro_move rfl) ?_
        refine wl (ro_fieldAddr (k := 1) rfl fo_175_1) ?_
        refine wl (ro_loadB rfl sc_3 (hX) ((show _ = some (i64c a) from rfl))) ?_
        refine wl_call rfl en_81 (push81 hB hK (by omega) J1.ps J1.sk J1.sub J1.nd (show a < 64 by omega)) ?_
        rintro _ w3 ⟨rfl, hB, ⟨g3, hK, hS3⟩, F3⟩
        replace hG := F3.blkO hG (by omega)
        replace hF := hF.transG F3 (fun k _ h ↦ .inr h)
        obtain ⟨J3, hq3, hs3, hm3⟩ := J1.push hpcm (show eps p ab ae pc a by simp only [eps, hx]) ⟨hok1, by omega⟩ hS3
        have hdone := J3.done (fun q' he => by simp only [eps, hx] at he; subst he; exact hq3)
        refine wl (ro_move rfl) ?_
        refine wl (ro_extract rfl rfl) ?_
        refine wl (ro_extract rfl rfl) ?_
        refine wl (ro_assign rfl) ?_
        refine wl (ro_assign rfl) ?_
        refine wl_nil (x_blk (x_blk (x_then ?_)))
        exact ⟨_, by rw [hlen1]; omega, _, _, _, _, rfl, hdone, hB, hK, hG, hF, kp _ ⟨rfl, rfl, rfl, rfl, rfl, trivial⟩⟩
      · skip
        have hok1 : pc + 1 < p.length := hok.1
        refine c_reg ?_ -- region 11 sets.go:33
        refine wl (ro_move rfl) ?_
        refine wl (ro_nilCheck rfl) ?_
        refine wl (ro_fieldAddr (k := 0) rfl fo_112_0) ?_
        refine wl (ro_loadB rfl sc_109 (hB) (rfl)) ?_
        refine wl (ro_move rfl) ?_
        refine wl (ro_indexAddr (et := 175) (k := 7) rfl rfl se_109 (rfl) (hpcl)) ?_
        refine wl (ro_loadAggB rfl ag_175 (hG) (rfl) (hld)) ?_
        refine wl_new (ze_175) (fun xb w8 hbxb hX F8 => ?_)
        have hbsxb := Nat.le_trans hF.size hbxb
        have hneD.dbxb : D.db < xb := Nat.lt_of_lt_of_le hB.lt hbxb
        have hneD.skxb : D.sk < xb := Nat.lt_of_lt_of_le hK.lt hbxb
        have hnekbxb : kb < xb := Nat.lt_of_lt_of_le hG.lt hbxb
        replace hF := hF.thenDrew.thenN F8
        replace hB := F8.blkN hB
        replace hK := F8.blkN hK
        replace hG := F8.blkN hG
        refine wl_puta rfl rfl ((ric_cells _)) sz_175 (rfl) hX ((by simp)) (rfl) (fun w9 hX F9 => ?_)
        replace hF := hF.thenDrew.thenO F9 (by first | exact .inr (by omega) | exact .inl rfl | exact .inl (by assumption))
        replace hB := F9.blkO hB (by omega)
        replace hK := F9.blkO hK (by omega)
        replace hG := F9.blkO hG (by omega)
        refine wl_nil (x_then (hK15 _ _ ?_))
        clear hK15 K15
        refine forget [(0, _), (2, _), (3, _), (9, _), (10, _), (12, _), (13, _)] ⟨rfl, rfl, rfl, rfl, rfl, rfl, rfl, trivial⟩ (fun e => ?_)
        refine c_seq (fun K28 hK28 => ?_)
        refine c_reg ?_ -- region 12 sets.go:34
        refine wl (ro_fieldAddr (k := 0) rfl fo_175_0) ?_
        refine wl (ro_loadB rfl sc_3 (hX) (rfl)) ?_
        refine wl_nil (x_then (hK28 _ _ ?_))
        clear hK28 K28
        refine c_block ?_
        refine forget [(0, _), (2, _), (3, _), (9, _), (10, _), (12, _), (13, _), (62, _)] ⟨rfl, rfl, rfl, rfl, rfl, rfl, rfl, rfl, trivial⟩ (fun e => ?_)
        refine c_seq (fun K29 hK29 => ?_)
        refine c_reg ?_ -- region 13 sets.go:35
        refine wl (ro_cmp rfl rfl rfl) ?_
        refine wl (ro_assign rfl) ?_
        refine wl_nil (x_then (hK29 _ _ ?_))
        clear hK29 K29
        refine wc_condF rfl ?_
        refine c_seq (fun K30 hK30 => ?_)
        refine c_reg ?_ -- region 16 sets.go:38
        refine wl (ro_cmp rfl rfl rfl) ?_
        refine wl (ro_assign rfl) ?_
        refine wl_nil (x_then (hK30 _ _ ?_))
        clear hK30 K30
        refine wc_condF rfl ?_
        refine c_seq (fun K31 hK31 => ?_)
        refine c_reg ?_ -- region 18 sets.go:40
        refine wl (ro_cmp rfl rfl rfl) ?_
        refine wl (ro_assign rfl) ?_
        refine wl_nil (x_then (hK31 _ _ ?_))
        clear hK31 K31
        refine wc_condT rfl ?_
        refine c_reg ?_ -- region 19 sets.go:41
        refine wl (ro_move rfl) ?_
        refine wl (ro_move rfl) ?_
        refine wl (ro_move rfl) ?_
        refine wl (ro_move rfl) ?_
        refine wl (ro_arith rfl rfl rfl (Go.IntWalk.i64_in _ (by omega))) ?_
        refine wl_call rfl en_81 (push81 hB hK (by omega) J1.ps J1.sk J1.sub J1.nd (show pc + 1 < 64 by omega)) ?_
        rintro _ w3 ⟨rfl, hB, ⟨g3, hK, hS3⟩, F3⟩
        replace hG := F3.blkO hG (by omega)
        replace hF := hF.transG F3 (fun k _ h ↦ .inr h)
        obtain ⟨J3, hq3, hs3, hm3⟩ := J1.push hpcm (show eps p ab ae pc (pc + 1) by simp only [eps, hx]) ⟨hok1, by omega⟩ hS3
        have hdone := J3.done (fun q' he => by simp only [eps, hx] at he; subst he; exact hq3)
        refine wl (ro_move rfl) ?_
        refine wl (ro_extract rfl rfl) ?_
        refine wl (ro_extract rfl rfl) ?_
        refine wl (ro_assign rfl) ?_
        refine wl (ro_assign rfl) ?_
        refine wl_nil (x_blk (x_blk (x_then ?_)))
        exact ⟨_, by rw [hlen1]; omega, _, _, _, _, rfl, hdone, hB, hK, hG, hF, kp _ ⟨rfl, rfl, rfl, rfl, rfl, trivial⟩⟩
      · skip
        have hok1 : pc + 1 < p.length := hok
        refine c_reg ?_ -- region 11 sets.go:33
        refine wl (ro_move rfl) ?_
        refine wl (ro_nilCheck rfl) ?_
        refine wl (ro_fieldAddr (k := 0) rfl fo_112_0) ?_
        refine wl (ro_loadB rfl sc_109 (hB) (rfl)) ?_
        refine wl (ro_move rfl) ?_
        refine wl (ro_indexAddr (et := 175) (k := 7) rfl rfl se_109 (rfl) (hpcl)) ?_
        refine wl (ro_loadAggB rfl ag_175 (hG) (rfl) (hld)) ?_
        refine wl_new (ze_175) (fun xb w10 hbxb hX F10 => ?_)
        have hbsxb := Nat.le_trans hF.size hbxb
        have hneD.dbxb : D.db < xb := Nat.lt_of_lt_of_le hB.lt hbxb
        have hneD.skxb : D.sk < xb := Nat.lt_of_lt_of_le hK.lt hbxb
        have hnekbxb : kb < xb := Nat.lt_of_lt_of_le hG.lt hbxb
        replace hF := hF.thenDrew.thenN F10
        replace hB := F10.blkN hB
        replace hK := F10.blkN hK
        replace hG := F10.blkN hG
        refine wl_puta rfl rfl ((ric_cells _)) sz_175 (rfl) hX ((by simp)) (rfl) (fun w11 hX F11 => ?_)
        replace hF := hF.thenDrew.thenO F11 (by first | exact .inr (by omega) | exact .inl rfl | exact .inl (by assumption))
        replace hB := F11.blkO hB (by omega)
        replace hK := F11.blkO hK (by omega)
        replace hG := F11.blkO hG (by omega)
        refine wl_nil (x_then (hK15 _ _ ?_))
        clear hK15 K15
        refine forget [(0, _), (2, _), (3, _), (9, _), (10, _), (12, _), (13, _)] ⟨rfl, rfl, rfl, rfl, rfl, rfl, rfl, trivial⟩ (fun e => ?_)
        refine c_seq (fun K32 hK32 => ?_)
        refine c_reg ?_ -- region 12 sets.go:34
        refine wl (ro_fieldAddr (k := 0) rfl fo_175_0) ?_
        refine wl (ro_loadB rfl sc_3 (hX) (rfl)) ?_
        refine wl_nil (x_then (hK32 _ _ ?_))
        clear hK32 K32
        refine c_block ?_
        refine forget [(0, _), (2, _), (3, _), (9, _), (10, _), (12, _), (13, _), (62, _)] ⟨rfl, rfl, rfl, rfl, rfl, rfl, rfl, rfl, trivial⟩ (fun e => ?_)
        refine c_seq (fun K33 hK33 => ?_)
        refine c_reg ?_ -- region 13 sets.go:35
        refine wl (ro_cmp rfl rfl rfl) ?_
        refine wl (ro_assign rfl) ?_
        refine wl_nil (x_then (hK33 _ _ ?_))
        clear hK33 K33
        refine wc_condF rfl ?_
        refine c_seq (fun K34 hK34 => ?_)
        refine c_reg ?_ -- region 16 sets.go:38
        refine wl (ro_cmp rfl rfl rfl) ?_
        refine wl (ro_assign rfl) ?_
        refine wl_nil (x_then (hK34 _ _ ?_))
        clear hK34 K34
        refine wc_condF rfl ?_
        refine c_seq (fun K35 hK35 => ?_)
        refine c_reg ?_ -- region 18 sets.go:40
        refine wl (ro_cmp rfl rfl rfl) ?_
        refine wl (ro_assign rfl) ?_
        refine wl_nil (x_then (hK35 _ _ ?_))
        clear hK35 K35
        refine wc_condF rfl ?_
        refine c_seq (fun K36 hK36 => ?_)
        refine c_reg ?_ -- region 20 sets.go:42
        refine wl (ro_cmp rfl rfl rfl) ?_
        refine wl (ro_assign rfl) ?_
        refine wl_nil (x_then (hK36 _ _ ?_))
        clear hK36 K36
        refine wc_condT rfl ?_
        refine c_seq (fun K37 hK37 => ?_)
        refine c_reg ?_ -- region 21 sets.go:43
        refine wl (ro_move rfl) ?_
        refine wl_nil (x_then (hK37 _ _ ?_))
        clear hK37 K37
        refine wc_cond rfl (fun hc107 => ?_) (fun hc107 => ?_)
        · try simp only [decide_eq_true_eq, decide_eq_false_iff_not, Bool.not_eq_true', Bool.not_eq_false', Bool.not_eq_eq_eq_not, Bool.not_true, Bool.not_false, beq_iff_eq, bne_iff_ne, ne_eq, beq_eq_false_iff_ne, bne_eq_false_iff_eq, gt_iff_lt, ge_iff_le, Int.not_lt, Int.not_le] at hc107
          subst hc107
          refine c_reg ?_ -- region 22 sets.go:44
          refine wl (ro_move rfl) ?_
          refine wl (ro_move rfl) ?_
          refine wl (ro_move rfl) ?_
          refine wl (ro_move rfl) ?_
          refine wl (ro_arith rfl rfl rfl (Go.IntWalk.i64_in _ (by omega))) ?_
          refine wl_call rfl en_81 (push81 hB hK (by omega) J1.ps J1.sk J1.sub J1.nd (show pc + 1 < 64 by omega)) ?_
          rintro _ w3 ⟨rfl, hB, ⟨g3, hK, hS3⟩, F3⟩
          replace hG := F3.blkO hG (by omega)
          replace hF := hF.transG F3 (fun k _ h ↦ .inr h)
          obtain ⟨J3, hq3, hs3, hm3⟩ := J1.push hpcm (show eps p true ae pc (pc + 1) by simp [eps, hx]) ⟨hok1, by omega⟩ hS3
          have hdone := J3.done (fun q' he => by simp only [eps, hx] at he; rw [he.2]; exact hq3)
          refine wl (ro_move rfl) ?_
          refine wl (ro_extract rfl rfl) ?_
          refine wl (ro_extract rfl rfl) ?_
          refine wl (ro_assign rfl) ?_
          refine wl (ro_assign rfl) ?_
          refine wl_nil (x_blk (x_blk (x_then ?_)))
          exact ⟨_, by rw [hlen1]; omega, _, _, _, _, rfl, hdone, hB, hK, hG, hF, kp _ ⟨rfl, rfl, rfl, rfl, rfl, trivial⟩⟩
        · try simp only [decide_eq_true_eq, decide_eq_false_iff_not, Bool.not_eq_true', Bool.not_eq_false', Bool.not_eq_eq_eq_not, Bool.not_true, Bool.not_false, beq_iff_eq, bne_iff_ne, ne_eq, beq_eq_false_iff_ne, bne_eq_false_iff_eq, gt_iff_lt, ge_iff_le, Int.not_lt, Int.not_le] at hc107
          subst hc107
          have hdone := J1.done (fun q' he => by simp only [eps, hx] at he; exact absurd he.1 (by simp))
          refine c_skip (x_blk (x_blk (x_then ?_)))
          exact ⟨_, by rw [hlen1]; omega, _, _, _, _, rfl, hdone, hB, hK, hG, hF, kp _ ⟨rfl, rfl, rfl, rfl, rfl, trivial⟩⟩
      · skip
        have hok1 : pc + 1 < p.length := hok
        refine c_reg ?_ -- region 11 sets.go:33
        refine wl (ro_move rfl) ?_
        refine wl (ro_nilCheck rfl) ?_
        refine wl (ro_fieldAddr (k := 0) rfl fo_112_0) ?_
        refine wl (ro_loadB rfl sc_109 (hB) (rfl)) ?_
        refine wl (ro_move rfl) ?_
        refine wl (ro_indexAddr (et := 175) (k := 7) rfl rfl se_109 (rfl) (hpcl)) ?_
        refine wl (ro_loadAggB rfl ag_175 (hG) (rfl) (hld)) ?_
        refine wl_new (ze_175) (fun xb w12 hbxb hX F12 => ?_)
        have hbsxb := Nat.le_trans hF.size hbxb
        have hneD.dbxb : D.db < xb := Nat.lt_of_lt_of_le hB.lt hbxb
        have hneD.skxb : D.sk < xb := Nat.lt_of_lt_of_le hK.lt hbxb
        have hnekbxb : kb < xb := Nat.lt_of_lt_of_le hG.lt hbxb
        replace hF := hF.thenDrew.thenN F12
        replace hB := F12.blkN hB
        replace hK := F12.blkN hK
        replace hG := F12.blkN hG
        refine wl_puta rfl rfl ((ric_cells _)) sz_175 (rfl) hX ((by simp)) (rfl) (fun w13 hX F13 => ?_)
        replace hF := hF.thenDrew.thenO F13 (by first | exact .inr (by omega) | exact .inl rfl | exact .inl (by assumption))
        replace hB := F13.blkO hB (by omega)
        replace hK := F13.blkO hK (by omega)
        replace hG := F13.blkO hG (by omega)
        refine wl_nil (x_then (hK15 _ _ ?_))
        clear hK15 K15
        refine forget [(0, _), (2, _), (3, _), (9, _), (10, _), (12, _), (13, _)] ⟨rfl, rfl, rfl, rfl, rfl, rfl, rfl, trivial⟩ (fun e => ?_)
        refine c_seq (fun K38 hK38 => ?_)
        refine c_reg ?_ -- region 12 sets.go:34
        refine wl (ro_fieldAddr (k := 0) rfl fo_175_0) ?_
        refine wl (ro_loadB rfl sc_3 (hX) (rfl)) ?_
        refine wl_nil (x_then (hK38 _ _ ?_))
        clear hK38 K38
        refine c_block ?_
        refine forget [(0, _), (2, _), (3, _), (9, _), (10, _), (12, _), (13, _), (62, _)] ⟨rfl, rfl, rfl, rfl, rfl, rfl, rfl, rfl, trivial⟩ (fun e => ?_)
        refine c_seq (fun K39 hK39 => ?_)
        refine c_reg ?_ -- region 13 sets.go:35
        refine wl (ro_cmp rfl rfl rfl) ?_
        refine wl (ro_assign rfl) ?_
        refine wl_nil (x_then (hK39 _ _ ?_))
        clear hK39 K39
        refine wc_condF rfl ?_
        refine c_seq (fun K40 hK40 => ?_)
        refine c_reg ?_ -- region 16 sets.go:38
        refine wl (ro_cmp rfl rfl rfl) ?_
        refine wl (ro_assign rfl) ?_
        refine wl_nil (x_then (hK40 _ _ ?_))
        clear hK40 K40
        refine wc_condF rfl ?_
        refine c_seq (fun K41 hK41 => ?_)
        refine c_reg ?_ -- region 18 sets.go:40
        refine wl (ro_cmp rfl rfl rfl) ?_
        refine wl (ro_assign rfl) ?_
        refine wl_nil (x_then (hK41 _ _ ?_))
        clear hK41 K41
        refine wc_condF rfl ?_
        refine c_seq (fun K42 hK42 => ?_)
        refine c_reg ?_ -- region 20 sets.go:42
        refine wl (ro_cmp rfl rfl rfl) ?_
        refine wl (ro_assign rfl) ?_
        refine wl_nil (x_then (hK42 _ _ ?_))
        clear hK42 K42
        refine wc_condF rfl ?_
        refine c_seq (fun K43 hK43 => ?_)
        refine c_reg ?_ -- region 23 sets.go:46
        refine wl (ro_cmp rfl rfl rfl) ?_
        refine wl (ro_assign rfl) ?_
        refine wl_nil (x_then (hK43 _ _ ?_))
        clear hK43 K43
        refine wc_condT rfl ?_
        refine c_seq (fun K44 hK44 => ?_)
        refine c_reg ?_ -- region 24 sets.go:47
        refine wl (ro_move rfl) ?_
        refine wl_nil (x_then (hK44 _ _ ?_))
        clear hK44 K44
        refine wc_cond rfl (fun hc119 => ?_) (fun hc119 => ?_)
        · try simp only [decide_eq_true_eq, decide_eq_false_iff_not, Bool.not_eq_true', Bool.not_eq_false', Bool.not_eq_eq_eq_not, Bool.not_true, Bool.not_false, beq_iff_eq, bne_iff_ne, ne_eq, beq_eq_false_iff_ne, bne_eq_false_iff_eq, gt_iff_lt, ge_iff_le, Int.not_lt, Int.not_le] at hc119
          subst hc119
          refine c_reg ?_ -- region 25 sets.go:48
          refine wl (ro_move rfl) ?_
          refine wl (ro_move rfl) ?_
          refine wl (ro_move rfl) ?_
          refine wl (ro_move rfl) ?_
          refine wl (ro_arith rfl rfl rfl (Go.IntWalk.i64_in _ (by omega))) ?_
          refine wl_call rfl en_81 (push81 hB hK (by omega) J1.ps J1.sk J1.sub J1.nd (show pc + 1 < 64 by omega)) ?_
          rintro _ w3 ⟨rfl, hB, ⟨g3, hK, hS3⟩, F3⟩
          replace hG := F3.blkO hG (by omega)
          replace hF := hF.transG F3 (fun k _ h ↦ .inr h)
          obtain ⟨J3, hq3, hs3, hm3⟩ := J1.push hpcm (show eps p ab true pc (pc + 1) by simp [eps, hx]) ⟨hok1, by omega⟩ hS3
          have hdone := J3.done (fun q' he => by simp only [eps, hx] at he; rw [he.2]; exact hq3)
          refine wl (ro_move rfl) ?_
          refine wl (ro_extract rfl rfl) ?_
          refine wl (ro_extract rfl rfl) ?_
          refine wl (ro_assign rfl) ?_
          refine wl (ro_assign rfl) ?_
          refine wl_nil (x_blk (x_blk (x_then ?_)))
          exact ⟨_, by rw [hlen1]; omega, _, _, _, _, rfl, hdone, hB, hK, hG, hF, kp _ ⟨rfl, rfl, rfl, rfl, rfl, trivial⟩⟩
        · try simp only [decide_eq_true_eq, decide_eq_false_iff_not, Bool.not_eq_true', Bool.not_eq_false', Bool.not_eq_eq_eq_not, Bool.not_true, Bool.not_false, beq_iff_eq, bne_iff_ne, ne_eq, beq_eq_false_iff_ne, bne_eq_false_iff_eq, gt_iff_lt, ge_iff_le, Int.not_lt, Int.not_le] at hc119
          subst hc119
          have hdone := J1.done (fun q' he => by simp only [eps, hx] at he; exact absurd he.1 (by simp))
          refine c_skip (x_blk (x_blk (x_then ?_)))
          exact ⟨_, by rw [hlen1]; omega, _, _, _, _, rfl, hdone, hB, hK, hG, hF, kp _ ⟨rfl, rfl, rfl, rfl, rfl, trivial⟩⟩
      · skip
        have hdone := J1.done (fun q' he => by simp only [eps, hx] at he)
        refine c_reg ?_ -- region 11 sets.go:33
        refine wl (ro_move rfl) ?_
        refine wl (ro_nilCheck rfl) ?_
        refine wl (ro_fieldAddr (k := 0) rfl fo_112_0) ?_
        refine wl (ro_loadB rfl sc_109 (hB) (rfl)) ?_
        refine wl (ro_move rfl) ?_
        refine wl (ro_indexAddr (et := 175) (k := 7) rfl rfl se_109 (rfl) (hpcl)) ?_
        refine wl (ro_loadAggB rfl ag_175 (hG) (rfl) (hld)) ?_
        refine wl_new (ze_175) (fun xb w14 hbxb hX F14 => ?_)
        have hbsxb := Nat.le_trans hF.size hbxb
        have hneD.dbxb : D.db < xb := Nat.lt_of_lt_of_le hB.lt hbxb
        have hneD.skxb : D.sk < xb := Nat.lt_of_lt_of_le hK.lt hbxb
        have hnekbxb : kb < xb := Nat.lt_of_lt_of_le hG.lt hbxb
        replace hF := hF.thenDrew.thenN F14
        replace hB := F14.blkN hB
        replace hK := F14.blkN hK
        replace hG := F14.blkN hG
        refine wl_puta rfl rfl ((ric_cells _)) sz_175 (rfl) hX ((by simp)) (rfl) (fun w15 hX F15 => ?_)
        replace hF := hF.thenDrew.thenO F15 (by first | exact .inr (by omega) | exact .inl rfl | exact .inl (by assumption))
        replace hB := F15.blkO hB (by omega)
        replace hK := F15.blkO hK (by omega)
        replace hG := F15.blkO hG (by omega)
        refine wl_nil (x_then (hK15 _ _ ?_))
        clear hK15 K15
        refine forget [(0, _), (2, _), (3, _), (9, _), (10, _), (12, _), (13, _)] ⟨rfl, rfl, rfl, rfl, rfl, rfl, rfl, trivial⟩ (fun e => ?_)
        refine c_seq (fun K45 hK45 => ?_)
        refine c_reg ?_ -- region 12 sets.go:34
        refine wl (ro_fieldAddr (k := 0) rfl fo_175_0) ?_
        refine wl (ro_loadB rfl sc_3 (hX) (rfl)) ?_
        refine wl_nil (x_then (hK45 _ _ ?_))
        clear hK45 K45
        refine c_block ?_
        refine forget [(0, _), (2, _), (3, _), (9, _), (10, _), (12, _), (13, _), (62, _)] ⟨rfl, rfl, rfl, rfl, rfl, rfl, rfl, rfl, trivial⟩ (fun e => ?_)
        refine c_seq (fun K46 hK46 => ?_)
        refine c_reg ?_ -- region 13 sets.go:35
        refine wl (ro_cmp rfl rfl rfl) ?_
        refine wl (ro_assign rfl) ?_
        refine wl_nil (x_then (hK46 _ _ ?_))
        clear hK46 K46
        refine wc_condF rfl ?_
        refine c_seq (fun K47 hK47 => ?_)
        refine c_reg ?_ -- region 16 sets.go:38
        refine wl (ro_cmp rfl rfl rfl) ?_
        refine wl (ro_assign rfl) ?_
        refine wl_nil (x_then (hK47 _ _ ?_))
        clear hK47 K47
        refine wc_condF rfl ?_
        refine c_seq (fun K48 hK48 => ?_)
        refine c_reg ?_ -- region 18 sets.go:40
        refine wl (ro_cmp rfl rfl rfl) ?_
        refine wl (ro_assign rfl) ?_
        refine wl_nil (x_then (hK48 _ _ ?_))
        clear hK48 K48
        refine wc_condF rfl ?_
        refine c_seq (fun K49 hK49 => ?_)
        refine c_reg ?_ -- region 20 sets.go:42
        refine wl (ro_cmp rfl rfl rfl) ?_
        refine wl (ro_assign rfl) ?_
        refine wl_nil (x_then (hK49 _ _ ?_))
        clear hK49 K49
        refine wc_condF rfl ?_
        refine c_seq (fun K50 hK50 => ?_)
        refine c_reg ?_ -- region 23 sets.go:46
        refine wl (ro_cmp rfl rfl rfl) ?_
        refine wl (ro_assign rfl) ?_
        refine wl_nil (x_then (hK50 _ _ ?_))
        clear hK50 K50
        refine wc_condF rfl ?_
        refine c_skip (x_blk (x_blk (x_then ?_)))
        exact ⟨_, by rw [hlen1]; omega, _, _, _, _, rfl, hdone, hB, hK, hG, hF, kp _ ⟨rfl, rfl, rfl, rfl, rfl, trivial⟩⟩
    · try simp only [decide_eq_true_eq, decide_eq_false_iff_not, Bool.not_eq_true', Bool.not_eq_false', Bool.not_eq_eq_eq_not, Bool.not_true, Bool.not_false, beq_iff_eq, bne_iff_ne, ne_eq, beq_eq_false_iff_ne, bne_eq_false_iff_eq, gt_iff_lt, ge_iff_le, Int.not_lt, Int.not_le] at hc44
      refine c_exit (x_thenX (x_thenX (x_blkX (x_then (hK10 _ _ ?_)))))
      clear hK11 K11 hK10 K10
      refine forget [(9, _)] ⟨rfl, trivial⟩ (fun e => ?_)
      refine c_seq (fun K51 hK51 => ?_)
      refine c_reg ?_ -- region 26 sets.go:52
      refine wl (ro_move rfl) ?_
      refine wl (ro_assign rfl) ?_
      refine wl_nil (x_then (hK51 _ _ ?_))
      clear hK51 K51
      refine c_ret ?_
      refine bp_ret Tryz.results61 rfl ?_
      have hs0 : ST = [] := List.length_eq_zero_iff.1 (by omega)
      subst hs0
      exact ⟨⟨R, rfl, J.ps.lt64, J.clo⟩, hB, ⟨g, hK⟩, hG, hF⟩

end Go.Proofs.Qxb6500567aGreat
