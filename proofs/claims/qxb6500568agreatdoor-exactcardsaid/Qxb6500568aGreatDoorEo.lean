import Derived.Test.Qxb6500568aGreatDoorEn
/- The real parser: blocks. -/
namespace Go.Proofs.Qxb6500568aGreatDoor
open Ieee
set_option linter.unusedVariables false
set_option linter.unusedSimpArgs false

theorem bdP_res {o : PR} {k : Tr → PS → PR} {R : PO} (h : bdP o k = some R) : ∃ R7, o = some R7 ∧ (match R7 with | .inl e => R = .inl e | .inr (t, s) => k t s = some R) := by
  rcases bdP_some h with ⟨e, h1, h2⟩ | ⟨t, s, h1, h2⟩
  · exact ⟨_, h1, h2⟩
  · exact ⟨_, h1, h2⟩
theorem ifc_237 : Tryz.prog.underlying 237 = some (.interface (Tryz.prog.methodsAt 237)) := by kernel_rfl
theorem nif_239 : notIf Tryz.prog 239 = true := by kernel_rfl
theorem nif_240 : notIf Tryz.prog 240 = true := by kernel_rfl
theorem zi_239 : (Tryz.prog.info? 239).bind (·.zero) = some (.pointer none) := by kernel_rfl
theorem zi_240 : (Tryz.prog.info? 240).bind (·.zero) = some (.pointer none) := by kernel_rfl
/-- Statements behind which a block ends. -/
def clB (x : Tr) : Prop := x.c = 26 ∨ x.c = 27 ∨ x.c = 28 ∨ x.c = 29
theorem clB_no {x : Tr} {n : Nat} (h : x.c = n) (hn : n < 26) : ¬ clB x := by unfold clB; omega
theorem TrM.clsd {w : World} {ow : Nat → Nat} {x : Tr} {v : Value} (h : TrM w ow 2 x [v]) : (∃ b, v = .iface 239 (ptr b) ∧ clB x) ∨ (∃ b, v = .iface 240 (ptr b) ∧ clB x) ∨ ∃ T b, v = .iface T (ptr b) ∧ Nat.beq T 239 = false ∧ Nat.beq T 240 = false ∧ ¬ clB x := by
  have key : ∀ {T b}, [v] = [Value.iface T (ptr b)] → v = .iface T (ptr b) := fun e => by injection e
  rcases h.invS with ⟨_, rfl⟩ | ⟨_, _, rfl⟩ | ⟨_, _, _, _, rfl⟩ | ⟨_, _, _, _, rfl⟩ | ⟨_, _, rfl⟩ | ⟨_, _, _, rfl⟩ | ⟨_, _, rfl⟩ | ⟨_, _, _, rfl⟩ | ⟨_, _, rfl⟩ | ⟨_, _, _, _, rfl⟩ | ⟨_, _, _, _, _, rfl⟩ | ⟨_, _, _, _, rfl⟩ | rfl | ⟨_, rfl⟩ | ⟨_, _, rfl⟩ | rfl
  · obtain ⟨b, V, ns, e, _⟩ := TrM_loc.1 h; exact .inr (.inr ⟨_, _, key e, rfl, rfl, clB_no (n := 14) rfl (by decide)⟩)
  · obtain ⟨b, V, ns, x, e, _⟩ := TrM_locV.1 h; exact .inr (.inr ⟨_, _, key e, rfl, rfl, clB_no (n := 15) rfl (by decide)⟩)
  · obtain ⟨b, V, ns, b1, p, x, U, us, e, _⟩ := TrM_loc2.1 h; exact .inr (.inr ⟨_, _, key e, rfl, rfl, clB_no (n := 16) rfl (by decide)⟩)
  · obtain ⟨b, b1, p1, b2, p, V, U, ns, us, e, _⟩ := TrM_locFn.1 h; exact .inr (.inr ⟨_, _, key e, rfl, rfl, clB_no (n := 17) rfl (by decide)⟩)
  · obtain ⟨b, p, b1, p1, x, e, _⟩ := TrM_setN.1 h; exact .inr (.inr ⟨_, _, key e, rfl, rfl, clB_no (n := 18) rfl (by decide)⟩)
  · obtain ⟨b, p, b1, p1, x, y, z, e, _⟩ := TrM_setI.1 h; exact .inr (.inr ⟨_, _, key e, rfl, rfl, clB_no (n := 19) rfl (by decide)⟩)
  · obtain ⟨b, b1, p, x, U, us, e, _⟩ := TrM_scall.1 h; exact .inr (.inr ⟨_, _, key e, rfl, rfl, clB_no (n := 20) rfl (by decide)⟩)
  · obtain ⟨b, p, x, U, us, V, ns, e, _⟩ := TrM_iff.1 h; exact .inr (.inr ⟨_, _, key e, rfl, rfl, clB_no (n := 21) rfl (by decide)⟩)
  · obtain ⟨b, p, x, U, us, e, _⟩ := TrM_whl.1 h; exact .inr (.inr ⟨_, _, key e, rfl, rfl, clB_no (n := 22) rfl (by decide)⟩)
  · obtain ⟨b, b1, p1, V, U, us, x, y, e, _⟩ := TrM_for2.1 h; exact .inr (.inr ⟨_, _, key e, rfl, rfl, clB_no (n := 23) rfl (by decide)⟩)
  · obtain ⟨b, b1, p1, V, U, us, x, y, z, e, _⟩ := TrM_for3.1 h; exact .inr (.inr ⟨_, _, key e, rfl, rfl, clB_no (n := 24) rfl (by decide)⟩)
  · obtain ⟨b, V, ns, x, U, us, e, _⟩ := TrM_forIn.1 h; exact .inr (.inr ⟨_, _, key e, rfl, rfl, clB_no (n := 25) rfl (by decide)⟩)
  · obtain ⟨b, p, e, _⟩ := TrM_ret0.1 h; exact .inl ⟨_, key e, .inl rfl⟩
  · obtain ⟨b, p, x, e, _⟩ := TrM_ret1.1 h; exact .inl ⟨_, key e, .inr (.inl rfl)⟩
  · obtain ⟨b, p, x, y, e, _⟩ := TrM_ret2.1 h; exact .inl ⟨_, key e, .inr (.inr (.inl rfl))⟩
  · obtain ⟨b, p, e, _⟩ := TrM_brk.1 h; exact .inr (.inl ⟨_, key e, .inr (.inr (.inr rfl))⟩)
def glueS (ts : List Tr) : PO → PO
  | .inl e => .inl e
  | .inr (l, s) => .inr (ts.foldr StL.cons l, s)
theorem glueS_snoc {ts : List Tr} {t l : Tr} {s : PS} : glueS (ts ++ [t]) (.inr (l, s)) = glueS ts (.inr (StL.cons t l, s)) := by
  show (Sum.inr (List.foldr StL.cons l (ts ++ [t]), s) : PO) = Sum.inr (List.foldr StL.cons (StL.cons t l) ts, s)
  rw [List.foldr_append]
  rfl
set_option maxHeartbeats 8000000 in
theorem block76 {f : Nat} {w : World} {ow : Nat → Nat} {pb tb cap : Nat} {L : List Tok} {s : PS} {lv : Nat} {ρ : Int} {R : PO} (ih : PAll f) (hf : f < 1000000000) (hG : PGo w ow pb tb cap L s lv ρ) (hR : parP (f + 1) 6 lv 0 0 dumT s = some R) : Ret Tryz.prog 76 [ptr pb, .int .i64 ρ] w (RsL w ow pb tb cap L 3 R) := by
  have hP := hG.pr
  have hne := hG.cx.ne
  have hρ := hG.rm
  have hPl := hG.cx.pl
  have hl13 := hG.l13
  have hF : Fram (one pb) w w := Fram.refl _ _
  obtain ⟨i0, hX, hi0, hs0⟩ := hP.ex
  unfold prc at hX
  replace hR : pBlock (parP f) lv s = some R := hR
  unfold pBlock at hR
  refine ret_of Tryz.func76 rfl Tryz.ntmps76 rfl ?_
  refine c_seq (fun K1 hK1 => ?_)
  refine c_reg ?_ -- region 0 parse.go:16
  refine wl (ro_assign rfl) ?_
  refine wl (ro_assign rfl) ?_
  refine wl_nil (x_then (hK1 _ _ ?_))
  clear hK1 K1
  refine c_seq (fun K2 hK2 => ?_)
  refine c_seq (fun K3 hK3 => ?_)
  refine c_reg ?_ -- region 1 parse.go:17
  refine wl (ro_move rfl) ?_
  refine wl (ro_cmp rfl rfl rfl) ?_
  refine wl_nil (x_then (hK3 _ _ ?_))
  clear hK3 K3
  refine wc_cond rfl (fun hc11 => ?_) (fun hc11 => ?_)
  · try simp only [decide_eq_true_eq, decide_eq_false_iff_not, Bool.not_eq_true', Bool.not_eq_false', Bool.not_eq_eq_eq_not, Bool.not_true, Bool.not_false, beq_iff_eq, bne_iff_ne, ne_eq, beq_eq_false_iff_ne, bne_eq_false_iff_eq, gt_iff_lt, ge_iff_le, Int.not_lt, Int.not_le] at hc11
    rw [if_pos (by omega)] at hR
    cases failP_inj hR
    refine c_seq (fun K4 hK4 => ?_)
    refine c_reg ?_ -- region 2 parse.go:18
    refine wl (ro_move rfl) ?_
    refine wl_call rfl en_77 (fail77 (e := 16) hP) ?_
    rintro _ u1 ⟨rfl, hP1, F9⟩
    refine wl_nil (x_then (hK4 _ _ ?_))
    clear hK4 K4
    refine forget [] trivial (fun e => ?_)
    refine c_seq (fun K5 hK5 => ?_)
    refine c_reg ?_ -- region 3 parse.go:19
    refine wl (ro_assign rfl) ?_
    refine wl (ro_assign rfl) ?_
    refine wl_nil (x_then (hK5 _ _ ?_))
    clear hK5 K5
    refine c_ret (x_thenR ?_)
    refine bp_ret Tryz.results76 rfl ?_
    exact ⟨hF.trans' F9 (fun _ _ h => h), rfl, hP1⟩
  · try simp only [decide_eq_true_eq, decide_eq_false_iff_not, Bool.not_eq_true', Bool.not_eq_false', Bool.not_eq_eq_eq_not, Bool.not_true, Bool.not_false, beq_iff_eq, bne_iff_ne, ne_eq, beq_eq_false_iff_ne, bne_eq_false_iff_eq, gt_iff_lt, ge_iff_le, Int.not_lt, Int.not_le] at hc11
    rw [if_neg (by omega)] at hR
    have hlv : lv ≤ 12 := by omega
    obtain ⟨R7, hq7, hR7⟩ := bdP_res hR
    refine c_skip (x_then (hK2 _ _ ?_))
    clear hK2 K2
    refine forget [(0, _), (1, _)] ⟨rfl, rfl, trivial⟩ (fun e => ?_)
    refine c_seq (fun K6 hK6 => ?_)
    refine c_reg ?_ -- region 4 parse.go:21
    refine wl (ro_move rfl) ?_
    refine wl (ro_nilCheck rfl) ?_
    refine wl (ro_fieldAddr (k := 7) rfl fo_186_3) ?_
    refine wl (ro_fieldAddr (k := 0) rfl fo_184_0) ?_
    refine wl (ro_loadB rfl sc_3 (by assumption) rfl) ?_
    refine wl (ro_assign rfl) ?_
    refine wl_nil (x_then (hK6 _ _ ?_))
    clear hK6 K6
    refine forget [(0, _), (1, _), (6, _)] ⟨rfl, rfl, rfl, trivial⟩ (fun e => ?_)
    refine c_seq (fun K7 hK7 => ?_)
    refine c_reg ?_ -- region 5 parse.go:22
    refine wl (ro_assign rfl) ?_
    refine wl_nil (x_then (hK7 _ _ ?_))
    clear hK7 K7
    refine forget [(0, _), (1, _), (6, _), (7, _)] ⟨rfl, rfl, rfl, rfl, trivial⟩ (fun e => ?_)
    refine c_seq (fun K8 hK8 => ?_)
    refine c_reg ?_ -- region 6 parse.go:23
    refine wl (ro_assign rfl) ?_
    refine wl_nil (x_then (hK8 _ _ ?_))
    clear hK8 K8
    refine forget [(0, _), (1, _), (6, _), (7, _), (8, _)] ⟨rfl, rfl, rfl, rfl, rfl, trivial⟩ (fun e => ?_)
    refine c_seq (fun K9 hK9 => ?_)
    refine c_block ?_
    -- loop@r7: live slots [0, 1, 6, 7, 8]
    refine c_loopG (fun n a' w' => ∃ (ts : List Tr) (vs : List Value) (U : Value) (s1 : PS) (R1 : PO) (c : Nat), n + ts.length = f ∧ parP n 7 lv c 0 dumT s1 = some R1 ∧ c ≤ 1 ∧ R7 = glueS ts R1 ∧ PrV w' pb tb cap L s1 ∧ Cm s s1 ∧ s1.lo = s.lo ∧ Fram (one pb) w w' ∧ LsM w ow w' 2 U ts vs ∧ ∃ e, a' = Fr 48 (upds e [(0, ptr pb), (1, .int .i64 ρ), (6, i64c s.al), (7, U), (8, .bool (decide (c = 1)))]) []) f ⟨[], [], _, s, R7, 0, rfl, hq7, by omega, (by cases R7 <;> rfl), hP, Cm.refl hG.pe, rfl, hF, LsM.nil, kp _ ⟨rfl, rfl, rfl, rfl, rfl, trivial⟩⟩ ?_
    clear hF hR hq7 hX hP
    rintro n a' u1 ⟨ts, vs, U, s1, R1, c, hn, hR, hc1, hgl, hP, hCm, hlo, hF, hU, e, rfl⟩
    obtain ⟨i, hX, hi, hs⟩ := hP.ex
    unfold prc at hX
    obtain ⟨ua, uc, rfl⟩ := hU.own.form
    have hvl := hU.el.len
    obtain ⟨g, rfl⟩ : ∃ g, n = g + 1 := by
      cases n with
      | zero => cases hR
      | succ g => exact ⟨g, rfl⟩
    replace hR : pStmts (parP g) lv c s1 = some R1 := hR
    unfold pStmts at hR
    have hpe := hG.pe.cm hCm
    refine c_seq (fun K10 hK10 => ?_)
    refine c_seq (fun K11 hK11 => ?_)
    refine c_reg ?_ -- region 7 parse.go:24
    refine wl (ro_move rfl) ?_
    refine wl_call rfl en_134 (ends134 hP) ?_
    rintro _ u0 ⟨rfl, hw0⟩
    rw [hw0]
    clear hw0 u0
    refine wl (ro_not rfl) ?_
    refine wl_nil (x_then (hK11 _ _ ?_))
    clear hK11 K11
    refine wc_cond rfl (fun hc21 => ?_) (fun hc21 => ?_)
    · try simp only [decide_eq_true_eq, decide_eq_false_iff_not, Bool.not_eq_true', Bool.not_eq_false', Bool.not_eq_eq_eq_not, Bool.not_true, Bool.not_false, beq_iff_eq, bne_iff_ne, ne_eq, beq_eq_false_iff_ne, bne_eq_false_iff_eq, gt_iff_lt, ge_iff_le, Int.not_lt, Int.not_le] at hc21
      rw [if_neg (by simp [hc21])] at hR
      refine c_skip (x_then (hK10 _ _ ?_))
      clear hK10 K10
      refine c_block ?_
      refine c_seq (fun K12 hK12 => ?_)
      refine c_seq (fun K13 hK13 => ?_)
      refine c_reg ?_ -- region 8 parse.go:25
      refine wl (ro_move rfl) ?_
      refine wl_nil (x_then (hK13 _ _ ?_))
      clear hK13 K13
      refine wc_cond rfl (fun hc22 => ?_) (fun hc22 => ?_)
      · try simp only [decide_eq_true_eq, decide_eq_false_iff_not, Bool.not_eq_true', Bool.not_eq_false', Bool.not_eq_eq_eq_not, Bool.not_true, Bool.not_false, beq_iff_eq, bne_iff_ne, ne_eq, beq_eq_false_iff_ne, bne_eq_false_iff_eq, gt_iff_lt, ge_iff_le, Int.not_lt, Int.not_le] at hc22
        rw [if_pos hc22] at hR
        cases failP_inj hR
        refine c_seq (fun K14 hK14 => ?_)
        refine c_reg ?_ -- region 9 parse.go:26
        refine wl (ro_move rfl) ?_
        refine wl_call rfl en_77 (fail77 (e := 15) hP) ?_
        rintro _ u2 ⟨rfl, hP1, F9⟩
        refine wl_nil (x_then (hK14 _ _ ?_))
        clear hK14 K14
        refine forget [] trivial (fun e => ?_)
        refine c_seq (fun K15 hK15 => ?_)
        refine c_reg ?_ -- region 10 parse.go:27
        refine wl (ro_assign rfl) ?_
        refine wl (ro_assign rfl) ?_
        refine wl_nil (x_then (hK15 _ _ ?_))
        clear hK15 K15
        refine c_ret (x_thenR (x_blkR (x_thenR (x_blkR (x_thenR ?_)))))
        refine bp_ret Tryz.results76 rfl ?_
        rw [hgl] at hR7
        cases hR7
        exact ⟨hF.trans' F9 (fun _ _ h => h), rfl, hP1⟩
      · try simp only [decide_eq_true_eq, decide_eq_false_iff_not, Bool.not_eq_true', Bool.not_eq_false', Bool.not_eq_eq_eq_not, Bool.not_true, Bool.not_false, beq_iff_eq, bne_iff_ne, ne_eq, beq_eq_false_iff_ne, bne_eq_false_iff_eq, gt_iff_lt, ge_iff_le, Int.not_lt, Int.not_le] at hc22
        rw [if_neg hc22] at hR
        obtain rfl : c = 0 := by omega
        refine c_skip (x_then (hK12 _ _ ?_))
        clear hK12 K12
        refine forget [(0, _), (1, _), (6, _), (7, _), (8, _)] ⟨rfl, rfl, rfl, rfl, rfl, trivial⟩ (fun e => ?_)
        refine c_seq (fun K16 hK16 => ?_)
        rcases bdP_some hR with ⟨⟨ee, pp⟩, hq, rfl⟩ | ⟨t1, s3, hq, hR⟩
        · skip
          refine c_reg ?_ -- region 11 parse.go:29
          refine wl (ro_move rfl) ?_
          refine wl (ro_move rfl) ?_
          refine wl_call rfl en_135 (ih.s8 ⟨hU.cx hG.cx hF, hP, hpe, hl13, (by rw [hlo]; exact hG.lo), hρ⟩ hlv (par_mono (by omega) 8 lv 0 0 dumT s1 _ hq)) ?_
          rintro v u3 ⟨F9, rfl, hE⟩
          refine wl (ro_assign rfl) ?_
          refine wl_nil (x_then (hK16 _ _ ?_))
          clear hK16 K16
          refine c_seq (fun K17 hK17 => ?_)
          refine c_seq (fun K18 hK18 => ?_)
          refine c_reg ?_ -- region 12 parse.go:30
          refine wl (ro_move rfl) ?_
          refine wl (ro_eqNilN rfl ifc_237) ?_
          refine wl_nil (x_then (hK18 _ _ ?_))
          clear hK18 K18
          refine wc_condT rfl ?_
          refine c_seq (fun K19 hK19 => ?_)
          refine c_reg ?_ -- region 13 parse.go:31
          refine wl (ro_assign rfl) ?_
          refine wl (ro_assign rfl) ?_
          refine wl_nil (x_then (hK19 _ _ ?_))
          clear hK19 K19
          refine c_ret (x_thenR (x_blkR (x_thenR (x_blkR (x_thenR ?_)))))
          refine bp_ret Tryz.results76 rfl ?_
          rw [hgl] at hR7
          cases hR7
          exact ⟨hF.trans' F9 (fun _ _ h => h), rfl, hE⟩
        · skip
          refine c_reg ?_ -- region 11 parse.go:29
          refine wl (ro_move rfl) ?_
          refine wl (ro_move rfl) ?_
          refine wl_call rfl en_135 (ih.s8 ⟨hU.cx hG.cx hF, hP, hpe, hl13, (by rw [hlo]; exact hG.lo), hρ⟩ hlv (par_mono (by omega) 8 lv 0 0 dumT s1 _ hq)) ?_
          rintro v u3 ⟨F9, hT1, hP2⟩
          rw [hU.n63 hF.size] at hT1
          obtain ⟨_, _, hCm3, hlo3, _, _⟩ := (par_q g).i8 hpe hlv t1 s3 hq
          replace hU := hU.thru hG.cx hF F9
          replace hF := hF.trans' F9 (fun _ _ h => h)
          have hcl := hT1.clsd
          have hvv := hT1.ifc (.inr rfl)
          obtain ⟨TT, bb, rfl⟩ := hvv
          refine wl (ro_assign rfl) ?_
          refine wl_nil (x_then (hK16 _ _ ?_))
          clear hK16 K16
          refine c_seq (fun K20 hK20 => ?_)
          refine c_seq (fun K21 hK21 => ?_)
          refine c_reg ?_ -- region 12 parse.go:30
          refine wl (ro_move rfl) ?_
          refine wl (ro_eqNilI rfl ifc_237) ?_
          refine wl_nil (x_then (hK21 _ _ ?_))
          clear hK21 K21
          refine wc_condF rfl ?_
          refine c_skip (x_then (hK20 _ _ ?_))
          clear hK20 K20
          refine c_seq (fun K22 hK22 => ?_)
          refine c_seq (fun K23 hK23 => ?_)
          refine c_reg ?_ -- region 14 parse.go:33
          refine wl (ro_move rfl) ?_
          refine wl_nil (x_then (hK23 _ _ ?_))
          clear hK23 K23
          refine c_block ?_
          refine forget [(0, _), (1, _), (6, _), (7, _), (8, _), (9, _), (30, _)] ⟨rfl, rfl, rfl, rfl, rfl, rfl, rfl, trivial⟩ (fun e => ?_)
          refine c_seq (fun K24 hK24 => ?_)
          rcases hcl with ⟨b', e', hcb⟩ | ⟨b', e', hcb⟩ | ⟨T', b', e', hn9, hn0, hcb⟩
          · skip
            cases e'
            unfold clB at hcb
            rw [if_pos hcb] at hR
            refine c_reg ?_ -- region 15 parse.go:33
            refine wl (ro_taY rfl nif_239) ?_
            refine wl (ro_extract rfl rfl) ?_
            refine wl (ro_extract rfl rfl) ?_
            refine wl (ro_taN rfl nif_240 rfl zi_240) ?_
            refine wl (ro_extract rfl rfl) ?_
            refine wl (ro_extract rfl rfl) ?_
            refine wl (ro_pick rfl rfl rfl) ?_
            refine wl_nil (x_then (hK24 _ _ ?_))
            clear hK24 K24
            refine wc_condT rfl ?_
            refine c_reg ?_ -- region 16 parse.go:35
            refine wl (ro_assign rfl) ?_
            refine wl_nil (x_blk (x_then (hK22 _ _ ?_)))
            clear hK22 K22
            refine c_reg ?_ -- region 17 parse.go:37
            refine wl (ro_move rfl) ?_
            refine wl (ro_move rfl) ?_
            refine wl_bsapp (t := 188) (et := 242) (k := 1) rfl rfl rfl rfl se_188 zx_242 by_242 rfl rfl rfl (by simp [Value.oneCell']) hU.own (by omega) (by omega) ?_
            intro v' u5 hon G5 hnb
            have hU5 := hU.app hF.size hT1 hon G5 hnb
            have hnw := hU.new
            have hF5 := hF.trans' G5 (fun k hk q => by have := hnw k q; omega)
            have hP5 := hP2.far G5 (fun q => by have := hnw _ q; omega)
            skip
            refine wl (ro_assign rfl) ?_
            refine wl_nil (x_blk (x_then ?_))
            rcases bdP_some hR with ⟨e4, hq4, rfl⟩ | ⟨l4, s4, hq4, hR4⟩
            · exact ⟨g, by omega, ts ++ [t1], _, v', s3, .inl e4, 1, by rw [List.length_append]; simp only [List.length_cons, List.length_nil]; omega, hq4, by decide, hgl, hP5, hCm.trans hCm3, hlo3.trans hlo, hF5, hU5, kp _ ⟨rfl, rfl, rfl, rfl, rfl, trivial⟩⟩
            · cases okP_inj hR4
              exact ⟨g, by omega, ts ++ [t1], _, v', s3, .inr (l4, s4), 1, by rw [List.length_append]; simp only [List.length_cons, List.length_nil]; omega, hq4, by decide, by rw [glueS_snoc]; exact hgl, hP5, hCm.trans hCm3, hlo3.trans hlo, hF5, hU5, kp _ ⟨rfl, rfl, rfl, rfl, rfl, trivial⟩⟩
          · skip
            cases e'
            unfold clB at hcb
            rw [if_pos hcb] at hR
            refine c_reg ?_ -- region 15 parse.go:33
            refine wl (ro_taN rfl nif_239 rfl zi_239) ?_
            refine wl (ro_extract rfl rfl) ?_
            refine wl (ro_extract rfl rfl) ?_
            refine wl (ro_taY rfl nif_240) ?_
            refine wl (ro_extract rfl rfl) ?_
            refine wl (ro_extract rfl rfl) ?_
            refine wl (ro_pick rfl rfl rfl) ?_
            refine wl_nil (x_then (hK24 _ _ ?_))
            clear hK24 K24
            refine wc_condT rfl ?_
            refine c_reg ?_ -- region 16 parse.go:35
            refine wl (ro_assign rfl) ?_
            refine wl_nil (x_blk (x_then (hK22 _ _ ?_)))
            clear hK22 K22
            refine c_reg ?_ -- region 17 parse.go:37
            refine wl (ro_move rfl) ?_
            refine wl (ro_move rfl) ?_
            refine wl_bsapp (t := 188) (et := 242) (k := 1) rfl rfl rfl rfl se_188 zx_242 by_242 rfl rfl rfl (by simp [Value.oneCell']) hU.own (by omega) (by omega) ?_
            intro v' u5 hon G5 hnb
            have hU5 := hU.app hF.size hT1 hon G5 hnb
            have hnw := hU.new
            have hF5 := hF.trans' G5 (fun k hk q => by have := hnw k q; omega)
            have hP5 := hP2.far G5 (fun q => by have := hnw _ q; omega)
            skip
            refine wl (ro_assign rfl) ?_
            refine wl_nil (x_blk (x_then ?_))
            rcases bdP_some hR with ⟨e4, hq4, rfl⟩ | ⟨l4, s4, hq4, hR4⟩
            · exact ⟨g, by omega, ts ++ [t1], _, v', s3, .inl e4, 1, by rw [List.length_append]; simp only [List.length_cons, List.length_nil]; omega, hq4, by decide, hgl, hP5, hCm.trans hCm3, hlo3.trans hlo, hF5, hU5, kp _ ⟨rfl, rfl, rfl, rfl, rfl, trivial⟩⟩
            · cases okP_inj hR4
              exact ⟨g, by omega, ts ++ [t1], _, v', s3, .inr (l4, s4), 1, by rw [List.length_append]; simp only [List.length_cons, List.length_nil]; omega, hq4, by decide, by rw [glueS_snoc]; exact hgl, hP5, hCm.trans hCm3, hlo3.trans hlo, hF5, hU5, kp _ ⟨rfl, rfl, rfl, rfl, rfl, trivial⟩⟩
          · skip
            cases e'
            unfold clB at hcb
            rw [if_neg hcb] at hR
            refine c_reg ?_ -- region 15 parse.go:33
            refine wl (ro_taN rfl nif_239 hn9 zi_239) ?_
            refine wl (ro_extract rfl rfl) ?_
            refine wl (ro_extract rfl rfl) ?_
            refine wl (ro_taN rfl nif_240 hn0 zi_240) ?_
            refine wl (ro_extract rfl rfl) ?_
            refine wl (ro_extract rfl rfl) ?_
            refine wl (ro_pick rfl rfl rfl) ?_
            refine wl_nil (x_then (hK24 _ _ ?_))
            clear hK24 K24
            refine wc_condF rfl ?_
            refine c_skip (x_blk (x_then (hK22 _ _ ?_)))
            clear hK22 K22
            refine c_reg ?_ -- region 17 parse.go:37
            refine wl (ro_move rfl) ?_
            refine wl (ro_move rfl) ?_
            refine wl_bsapp (t := 188) (et := 242) (k := 1) rfl rfl rfl rfl se_188 zx_242 by_242 rfl rfl rfl (by simp [Value.oneCell']) hU.own (by omega) (by omega) ?_
            intro v' u5 hon G5 hnb
            have hU5 := hU.app hF.size hT1 hon G5 hnb
            have hnw := hU.new
            have hF5 := hF.trans' G5 (fun k hk q => by have := hnw k q; omega)
            have hP5 := hP2.far G5 (fun q => by have := hnw _ q; omega)
            skip
            refine wl (ro_assign rfl) ?_
            refine wl_nil (x_blk (x_then ?_))
            rcases bdP_some hR with ⟨e4, hq4, rfl⟩ | ⟨l4, s4, hq4, hR4⟩
            · exact ⟨g, by omega, ts ++ [t1], _, v', s3, .inl e4, 0, by rw [List.length_append]; simp only [List.length_cons, List.length_nil]; omega, hq4, by decide, hgl, hP5, hCm.trans hCm3, hlo3.trans hlo, hF5, hU5, kp _ ⟨rfl, rfl, rfl, rfl, rfl, trivial⟩⟩
            · cases okP_inj hR4
              exact ⟨g, by omega, ts ++ [t1], _, v', s3, .inr (l4, s4), 0, by rw [List.length_append]; simp only [List.length_cons, List.length_nil]; omega, hq4, by decide, by rw [glueS_snoc]; exact hgl, hP5, hCm.trans hCm3, hlo3.trans hlo, hF5, hU5, kp _ ⟨rfl, rfl, rfl, rfl, rfl, trivial⟩⟩
    · try simp only [decide_eq_true_eq, decide_eq_false_iff_not, Bool.not_eq_true', Bool.not_eq_false', Bool.not_eq_eq_eq_not, Bool.not_true, Bool.not_false, beq_iff_eq, bne_iff_ne, ne_eq, beq_eq_false_iff_ne, bne_eq_false_iff_eq, gt_iff_lt, ge_iff_le, Int.not_lt, Int.not_le] at hc21
      rw [if_pos (by simpa using hc21)] at hR
      cases okP_inj hR
      refine c_exit (x_thenX (x_thenX (x_blkX (x_then (hK9 _ _ ?_)))))
      clear hK10 K10 hK9 K9
      refine forget [(0, _), (6, _), (7, _)] ⟨rfl, rfl, rfl, trivial⟩ (fun e => ?_)
      refine c_seq (fun K25 hK25 => ?_)
      have hFb := hF
      refine c_reg ?_ -- region 18 parse.go:39
      refine wl (ro_move rfl) ?_
      refine wl (ro_move rfl) ?_
      refine wl (ro_nilCheck rfl) ?_
      refine wl (ro_fieldAddr (k := 7) rfl fo_186_3) ?_
      refine wl (ro_fieldAddr (k := 0) rfl fo_184_0) ?_
      refine wl_put rfl rfl rfl sz_3 hX (by simp) (rfl) (fun w1 hX F1 => ?_)
      replace hF := hF.thenDrew.thenO F1 (by first | exact .inr (by omega) | exact .inl rfl | exact .inl (by assumption) | assumption)
      have hU2 := hU.thru hG.cx hFb F1
      refine wl_nil (x_then (hK25 _ _ ?_))
      clear hK25 K25
      refine forget [(7, _)] ⟨rfl, trivial⟩ (fun e => ?_)
      refine c_seq (fun K26 hK26 => ?_)
      refine c_reg ?_ -- region 19 parse.go:40
      refine wl (ro_move rfl) ?_
      refine wl (ro_assign rfl) ?_
      refine wl (ro_assign rfl) ?_
      refine wl_nil (x_then (hK26 _ _ ?_))
      clear hK26 K26
      refine c_ret ?_
      refine bp_ret Tryz.results76 rfl ?_
      rw [hgl] at hR7
      cases okP_inj hR7
      exact ⟨hF, _, vs, rfl, hU2.done.1, hU2.done.2.stl, ⟨⟨i, hX, hi, hs⟩, hG.pr.al, hP.lo, hP.fu⟩⟩
end Go.Proofs.Qxb6500568aGreatDoor
