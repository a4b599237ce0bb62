import Derived.Test.Qxb6500568aGreatDoorEr
/- The real parser: locals. -/
namespace Go.Proofs.Qxb6500568aGreatDoor
open Ieee
set_option linter.unusedVariables false
set_option linter.unusedSimpArgs false

def NmF (x : Nat) (s : PS) (e p : Nat) : Prop := (s.k ≠ 2 ∧ (e, p) = (if s.k = 1 then s.cur.e else 15, s.cur.pl)) ∨ (s.k = 2 ∧ (0 < x ∧ 12 < s.al + x) ∧ (e, p) = (if s.k = 1 then s.cur.e else 18, s.cur.pl))
def NmK (x : Nat) (s : PS) : Prop := s.k = 2 ∧ ¬ (0 < x ∧ 12 < s.al + x)
theorem nameP_or {x : Nat} {s : PS} {k : Str → PS → PR} {R : PO} (h : nameP x s k = some R) : (∃ e p, R = .inl (e, p) ∧ NmF x s e p) ∨ (NmK x s ∧ k s.cur.s s.adv = some R) := by
  unfold nameP at h
  by_cases h1 : s.k ≠ 2
  · rw [if_pos h1] at h
    exact .inl ⟨_, _, failP_inj h, .inl ⟨h1, rfl⟩⟩
  · rw [if_neg h1] at h
    by_cases h2 : 0 < x ∧ 12 < s.al + x
    · rw [if_pos h2] at h
      exact .inl ⟨_, _, failP_inj h, .inr ⟨by omega, h2, rfl⟩⟩
    · rw [if_neg h2] at h
      exact .inr ⟨⟨by omega, h2⟩, h⟩
theorem name219F {w : World} {pb tb cap x e p : Nat} {L : List Tok} {s : PS} (h : NmF x s e p) (hP : PrV w pb tb cap L s) (hT : TkB w tb cap L) (hne : tb ≠ pb) (hx : x ≤ 4) : Ret Tryz.prog 219 [ptr pb, i64c x] w (fun r w' => Fram (one pb) w w' ∧ r = .pointer none ∧ PrE w' pb e p) := by
  refine (name219 hP hT hne hx).mono (fun r w' ⟨h1, h2⟩ => ⟨h1, ?_⟩)
  rcases h with ⟨h3, h4⟩ | ⟨h3, h5, h4⟩
  · rw [if_pos h3] at h2
    cases h4
    exact h2
  · rw [if_neg (by omega), if_pos h5] at h2
    cases h4
    exact h2
theorem name219K {w : World} {pb tb cap x : Nat} {L : List Tok} {s : PS} (h : NmK x s) (hP : PrV w pb tb cap L s) (hT : TkB w tb cap L) (hne : tb ≠ pb) (hx : x ≤ 4) : Ret Tryz.prog 219 [ptr pb, i64c x] w (fun r w' => Fram (one pb) w w' ∧ ∃ b p, r = ptr b ∧ w.heap.size ≤ b ∧ Blk w'.heap b [i64c p, S s.cur.s] 349 ∧ PrV w' pb tb cap L s.adv) := by
  refine (name219 hP hT hne hx).mono (fun r w' ⟨h1, h2⟩ => ⟨h1, ?_⟩)
  rw [if_neg (by have := h.1; omega), if_neg h.2] at h2
  exact h2
theorem nif_300 : notIf Tryz.prog 300 = true := by kernel_rfl
theorem nif_305 : notIf Tryz.prog 305 = true := by kernel_rfl
theorem nif_306 : notIf Tryz.prog 306 = true := by kernel_rfl
theorem zi_300 : (Tryz.prog.info? 300).bind (·.zero) = some (.pointer none) := by kernel_rfl
theorem zi_305 : (Tryz.prog.info? 305).bind (·.zero) = some (.pointer none) := by kernel_rfl
theorem zi_306 : (Tryz.prog.info? 306).bind (·.zero) = some (.pointer none) := by kernel_rfl
/-- An expression is a call, a name, an index or something else. -/
theorem TrM.kd {w : World} {ow : Nat → Nat} {x : Tr} {v : Value} (h : TrM w ow 0 x [v]) : (∃ b a b', v = .iface 300 (ptr b) ∧ x = Ex.call a b') ∨ (∃ b s, v = .iface 305 (ptr b) ∧ x = Ex.name s) ∨ (∃ b a b', v = .iface 306 (ptr b) ∧ x = Ex.index a b') ∨ ∃ T b, v = .iface T (ptr b) ∧ Nat.beq T 300 = false ∧ Nat.beq T 305 = false ∧ Nat.beq T 306 = false ∧ x.c ≠ 3 ∧ x.c ≠ 4 ∧ x.c ≠ 5 := by
  have key : ∀ {T b}, [v] = [Value.iface T (ptr b)] → v = .iface T (ptr b) := fun e => by injection e
  rcases h.invE with ⟨_, rfl⟩ | ⟨_, rfl⟩ | ⟨_, rfl⟩ | ⟨_, rfl⟩ | ⟨_, _, rfl⟩ | ⟨_, _, rfl⟩ | ⟨_, _, _, rfl⟩ | ⟨_, rfl⟩ | ⟨_, _, _, rfl⟩ | ⟨_, _, rfl⟩ | ⟨_, _, rfl⟩ | ⟨_, _, rfl⟩
  · obtain ⟨b, p, e, _⟩ := TrM_lit.1 h; exact .inr (.inr (.inr ⟨_, _, key e, rfl, rfl, rfl, Nat.ne_of_beq_eq_false rfl, Nat.ne_of_beq_eq_false rfl, Nat.ne_of_beq_eq_false rfl⟩))
  · obtain ⟨b, p, e, _⟩ := TrM_num.1 h; exact .inr (.inr (.inr ⟨_, _, key e, rfl, rfl, rfl, Nat.ne_of_beq_eq_false rfl, Nat.ne_of_beq_eq_false rfl, Nat.ne_of_beq_eq_false rfl⟩))
  · obtain ⟨b, p, e, _⟩ := TrM_str.1 h; exact .inr (.inr (.inr ⟨_, _, key e, rfl, rfl, rfl, Nat.ne_of_beq_eq_false rfl, Nat.ne_of_beq_eq_false rfl, Nat.ne_of_beq_eq_false rfl⟩))
  · obtain ⟨b, p, e, _⟩ := TrM_name.1 h; exact .inr (.inl ⟨b, _, key e, rfl⟩)
  · obtain ⟨b, p, x, y, e, _⟩ := TrM_index.1 h; exact .inr (.inr (.inl ⟨b, _, _, key e, rfl⟩))
  · obtain ⟨b, p, x, U, us, e, _⟩ := TrM_call.1 h; exact .inl ⟨b, _, _, key e, rfl⟩
  · obtain ⟨b, p, V, U, ns, us, e, _⟩ := TrM_func.1 h; exact .inr (.inr (.inr ⟨_, _, key e, rfl, rfl, rfl, Nat.ne_of_beq_eq_false rfl, Nat.ne_of_beq_eq_false rfl, Nat.ne_of_beq_eq_false rfl⟩))
  · obtain ⟨b, p, U, us, e, _⟩ := TrM_table.1 h; exact .inr (.inr (.inr ⟨_, _, key e, rfl, rfl, rfl, Nat.ne_of_beq_eq_false rfl, Nat.ne_of_beq_eq_false rfl, Nat.ne_of_beq_eq_false rfl⟩))
  · obtain ⟨b, p, x, y, e, _⟩ := TrM_bin.1 h; exact .inr (.inr (.inr ⟨_, _, key e, rfl, rfl, rfl, Nat.ne_of_beq_eq_false rfl, Nat.ne_of_beq_eq_false rfl, Nat.ne_of_beq_eq_false rfl⟩))
  · obtain ⟨b, p, x, e, _⟩ := TrM_un.1 h; exact .inr (.inr (.inr ⟨_, _, key e, rfl, rfl, rfl, Nat.ne_of_beq_eq_false rfl, Nat.ne_of_beq_eq_false rfl, Nat.ne_of_beq_eq_false rfl⟩))
  · obtain ⟨b, p, x, y, e, _⟩ := TrM_land.1 h; exact .inr (.inr (.inr ⟨_, _, key e, rfl, rfl, rfl, Nat.ne_of_beq_eq_false rfl, Nat.ne_of_beq_eq_false rfl, Nat.ne_of_beq_eq_false rfl⟩))
  · obtain ⟨b, p, x, y, e, _⟩ := TrM_lor.1 h; exact .inr (.inr (.inr ⟨_, _, key e, rfl, rfl, rfl, Nat.ne_of_beq_eq_false rfl, Nat.ne_of_beq_eq_false rfl, Nat.ne_of_beq_eq_false rfl⟩))
theorem NB.tohb {u : World} {ow : Nat → Nat} {b c : Nat} {cs : List Value} {ty : TypeId} (h : NB u ow c cs ty) (hne : c ≠ b) : NB u (HB b ow) c cs ty := ⟨h.1, by unfold HB; rw [if_neg hne]; exact h.2⟩
set_option maxHeartbeats 8000000 in
theorem local177 {f : Nat} {w : World} {ow : Nat → Nat} {pb tb cap : Nat} {L : List Tok} {s : PS} {lv : Nat} {ρ : Int} {R : PO} (ih : PAll f) (hG : PGo w ow pb tb cap L s lv ρ) (hlv : lv ≤ 12) (hR : pLocal (parP f) lv s = some R) : Ret Tryz.prog 177 [ptr pb, .int .i64 ρ] w (Rs1 w ow pb tb cap L 2 R) := by
  have hP := hG.pr
  have hne := hG.cx.ne
  have hρ := hG.rm
  have hPl := hG.cx.pl
  have hl13 := hG.l13
  have hglo := hG.lo
  have hF : Fram (one pb) w w := Fram.refl _ _
  have hmpb : one pb pb := rfl
  unfold pLocal expP at hR
  obtain ⟨i, hX, hi, hs⟩ := hP.ex
  unfold prc at hX
  have hkk : s.k = s.cur.k := rfl
  have ea0 : s.adv.adv.al = s.al := rfl
  have ea1 : s.adv.al = s.al := rfl
  have hcxf := fun {u : World} (g : Fram (one pb) w u) => hG.cx.go g
  have hpe0 := hG.pe.cm (Cm.adv hG.pe)
  have hpe00 := hpe0.cm (Cm.adv hpe0)
  refine ret_of Tryz.func177 rfl Tryz.ntmps177 rfl ?_
  refine c_seq (fun K1 hK1 => ?_)
  refine c_reg ?_ -- region 0 parse.go:125
  refine wl (ro_assign rfl) ?_
  refine wl_nil (x_then (hK1 _ _ ?_))
  clear hK1 K1
  refine c_seq (fun K2 hK2 => ?_)
  refine c_seq (fun K3 hK3 => ?_)
  refine c_reg ?_ -- region 1 parse.go:126
  refine wl (ro_move rfl) ?_
  refine wl (ro_nilCheck rfl) ?_
  refine wl (ro_fieldAddr (k := 2) rfl fo_186_2) ?_
  refine wl (ro_fieldAddr (k := 0) rfl fo_182_0) ?_
  refine wl (ro_loadB rfl sc_180 (by assumption) rfl) ?_
  refine wl (ro_cmp rfl rfl rfl) ?_
  refine wl_nil (x_then (hK3 _ _ ?_))
  clear hK3 K3
  refine wc_cond rfl (fun hc18 => ?_) (fun hc18 => ?_)
  · try simp only [decide_eq_true_eq, decide_eq_false_iff_not, Bool.not_eq_true', Bool.not_eq_false', Bool.not_eq_eq_eq_not, Bool.not_true, Bool.not_false, beq_iff_eq, bne_iff_ne, ne_eq, beq_eq_false_iff_ne, bne_eq_false_iff_eq, gt_iff_lt, ge_iff_le, Int.not_lt, Int.not_le] at hc18
    rw [if_pos (by omega)] at hR
    refine c_seq (fun K4 hK4 => ?_)
    refine c_seq (fun K5 hK5 => ?_)
    refine c_reg ?_ -- region 2 parse.go:127
    refine wl (ro_move rfl) ?_
    refine wl_call rfl en_218 (function218 hP hG.cx.tk hne (by omega)) ?_
    rintro _ u1 ⟨rfl, hq1, F9⟩
    replace hF := hF.trans' F9 (fun _ _ h => h)
    refine wl (ro_not rfl) ?_
    refine wl_nil (x_then (hK5 _ _ ?_))
    clear hK5 K5
    refine wc_cond rfl (fun hc21 => ?_) (fun hc21 => ?_)
    · try simp only [decide_eq_true_eq, decide_eq_false_iff_not, Bool.not_eq_true', Bool.not_eq_false', Bool.not_eq_eq_eq_not, Bool.not_true, Bool.not_false, beq_iff_eq, bne_iff_ne, ne_eq, beq_eq_false_iff_ne, bne_eq_false_iff_eq, gt_iff_lt, ge_iff_le, Int.not_lt, Int.not_le] at hc21
      refine c_seq (fun K6 hK6 => ?_)
      refine c_reg ?_ -- region 3 parse.go:128
      refine wl (ro_assign rfl) ?_
      refine wl_nil (x_then (hK6 _ _ ?_))
      clear hK6 K6
      refine c_ret (x_thenR (x_thenR ?_))
      refine bp_ret Tryz.results177 rfl ?_
      rw [if_pos (by omega)] at hR
      rw [if_neg (by omega)] at hq1
      cases failP_inj hR
      exact ⟨hF, rfl, hq1⟩
    · try simp only [decide_eq_true_eq, decide_eq_false_iff_not, Bool.not_eq_true', Bool.not_eq_false', Bool.not_eq_eq_eq_not, Bool.not_true, Bool.not_false, beq_iff_eq, bne_iff_ne, ne_eq, beq_eq_false_iff_ne, bne_eq_false_iff_eq, gt_iff_lt, ge_iff_le, Int.not_lt, Int.not_le] at hc21
      rw [if_neg (by omega)] at hR
      rw [if_pos (by omega)] at hq1
      refine c_skip (x_then (hK4 _ _ ?_))
      clear hK4 K4
      refine forget [(0, _), (1, _)] ⟨rfl, rfl, trivial⟩ (fun e => ?_)
      refine c_seq (fun K7 hK7 => ?_)
      rcases nameP_or hR with ⟨ee, pp, rfl, hNF⟩ | ⟨hNK, hR⟩
      · skip
        refine c_reg ?_ -- region 4 parse.go:130
        refine wl (ro_move rfl) ?_
        refine wl_call rfl en_219 (name219F (x := 1) hNF hq1 (hG.cx.go hF).tk hne (by decide)) ?_
        rintro _ u2 ⟨F9, rfl, hE⟩
        replace hF := hF.trans' F9 (fun _ _ h => h)
        refine wl (ro_assign rfl) ?_
        refine wl_nil (x_then (hK7 _ _ ?_))
        clear hK7 K7
        refine c_seq (fun K8 hK8 => ?_)
        refine c_seq (fun K9 hK9 => ?_)
        refine c_reg ?_ -- region 5 parse.go:131
        refine wl (ro_move rfl) ?_
        refine wl (ro_eqPtrNil rfl pt_305 rfl) ?_
        refine wl_nil (x_then (hK9 _ _ ?_))
        clear hK9 K9
        refine wc_condT rfl ?_
        refine c_seq (fun K10 hK10 => ?_)
        refine c_reg ?_ -- region 6 parse.go:132
        refine wl (ro_assign rfl) ?_
        refine wl_nil (x_then (hK10 _ _ ?_))
        clear hK10 K10
        refine c_ret (x_thenR (x_thenR ?_))
        refine bp_ret Tryz.results177 rfl ?_
        exact ⟨hF, rfl, hE⟩
      · skip
        refine c_reg ?_ -- region 4 parse.go:130
        refine wl (ro_move rfl) ?_
        refine wl_call rfl en_219 (name219K (x := 1) hNK hq1 (hG.cx.go hF).tk hne (by decide)) ?_
        rintro _ u2 ⟨F9, b5, p5, rfl, hb5, h5, hP2⟩
        have hbw5 := Nat.le_trans hF.size hb5
        have hal2 : s.al + 1 ≤ 12 := by have := hNK.2; have e : s.adv.al = s.al := rfl; omega
        replace hF := hF.trans' F9 (fun _ _ h => h)
        obtain ⟨i, hX, hi, hs⟩ := hP2.ex
        unfold prc at hX
        refine wl (ro_assign rfl) ?_
        refine wl_nil (x_then (hK7 _ _ ?_))
        clear hK7 K7
        refine c_seq (fun K11 hK11 => ?_)
        refine c_seq (fun K12 hK12 => ?_)
        refine c_reg ?_ -- region 5 parse.go:131
        refine wl (ro_move rfl) ?_
        refine wl (ro_eqPtrNil rfl pt_305 rfl) ?_
        refine wl_nil (x_then (hK12 _ _ ?_))
        clear hK12 K12
        refine wc_condF rfl ?_
        refine c_skip (x_then (hK11 _ _ ?_))
        clear hK11 K11
        refine forget [(0, _), (1, _), (5, _)] ⟨rfl, rfl, rfl, trivial⟩ (fun e => ?_)
        refine c_seq (fun K13 hK13 => ?_)
        refine c_reg ?_ -- region 7 parse.go:134
        refine wl (ro_move rfl) ?_
        refine wl (ro_nilCheck rfl) ?_
        refine wl (ro_fieldAddr (k := 7) rfl fo_186_3) ?_
        refine wl (ro_fieldAddr (k := 0) rfl fo_184_0) ?_
        refine wl (ro_loadB rfl sc_3 (by assumption) rfl) ?_
        refine wl (ro_arith rfl rfl rfl (Go.IntWalk.i64_in _ (by omega))) ?_
        refine wl (ro_nilCheck rfl) ?_
        refine wl (ro_fieldAddr (k := 7) rfl fo_186_3) ?_
        refine wl (ro_fieldAddr (k := 0) rfl fo_184_0) ?_
        refine wl_put rfl rfl rfl sz_3 hX (by simp) (rfl) (fun w1 hX F1 => ?_)
        replace hF := hF.thenDrew.thenO F1 (by first | exact .inr (by omega) | exact .inl rfl | exact .inl (by assumption) | assumption)
        replace h5 := F1.blkO h5 (by omega)
        refine wl_nil (x_then (hK13 _ _ ?_))
        clear hK13 K13
        refine forget [(0, _), (1, _), (5, _)] ⟨rfl, rfl, rfl, trivial⟩ (fun e => ?_)
        refine c_seq (fun K14 hK14 => ?_)
        rcases bdP_some hR with ⟨⟨ee, pp⟩, hq, rfl⟩ | ⟨t1, s1, hq, hR⟩
        · skip
          have hP3 : PrV _ pb tb cap L { s.adv.adv with al := s.adv.adv.al + 1 } := ⟨⟨i, hX, hi, hs⟩, hal2, hP.lo, hP.fu⟩
          have hpe3 : Pe { s.adv.adv with al := s.adv.adv.al + 1 } := ⟨hpe00.tk, hpe00.fu⟩
          have hG3 := hG.at (lv1 := lv) (ρ1 := ρ) hF hP3 hpe3 hl13 hglo hρ
          refine c_reg ?_ -- region 8 parse.go:135
          refine wl (ro_move rfl) ?_
          refine wl (ro_move rfl) ?_
          refine wl (ro_move rfl) ?_
          refine wl (ro_nilCheck rfl) ?_
          refine wl (ro_fieldAddr (k := 0) rfl fo_349_0) ?_
          refine wl (ro_loadB rfl sc_3 (by assumption) rfl) ?_
          refine wl_call rfl en_220 (ih.f12 (p := p5) hG3 hlv (by show s.fu < 12; omega) hq) ?_
          rintro v u3 ⟨F9, rfl, hE⟩
          replace hF := hF.trans' F9 (fun _ _ h => h)
          replace h5 := F9.blkO h5 (by omega)
          refine wl (ro_assign rfl) ?_
          refine wl_nil (x_then (hK14 _ _ ?_))
          clear hK14 K14
          refine c_seq (fun K15 hK15 => ?_)
          refine c_seq (fun K16 hK16 => ?_)
          refine c_reg ?_ -- region 9 parse.go:136
          refine wl (ro_move rfl) ?_
          refine wl (ro_eqPtrNil rfl pt_346 rfl) ?_
          refine wl_nil (x_then (hK16 _ _ ?_))
          clear hK16 K16
          refine wc_condT rfl ?_
          refine c_seq (fun K17 hK17 => ?_)
          refine c_reg ?_ -- region 10 parse.go:137
          refine wl (ro_assign rfl) ?_
          refine wl_nil (x_then (hK17 _ _ ?_))
          clear hK17 K17
          refine c_ret (x_thenR (x_thenR ?_))
          refine bp_ret Tryz.results177 rfl ?_
          exact ⟨hF, rfl, hE⟩
        · skip
          have hP3 : PrV _ pb tb cap L { s.adv.adv with al := s.adv.adv.al + 1 } := ⟨⟨i, hX, hi, hs⟩, hal2, hP.lo, hP.fu⟩
          have hpe3 : Pe { s.adv.adv with al := s.adv.adv.al + 1 } := ⟨hpe00.tk, hpe00.fu⟩
          have hG3 := hG.at (lv1 := lv) (ρ1 := ρ) hF hP3 hpe3 hl13 hglo hρ
          refine c_reg ?_ -- region 8 parse.go:135
          refine wl (ro_move rfl) ?_
          refine wl (ro_move rfl) ?_
          refine wl (ro_move rfl) ?_
          refine wl (ro_nilCheck rfl) ?_
          refine wl (ro_fieldAddr (k := 0) rfl fo_349_0) ?_
          refine wl (ro_loadB rfl sc_3 (by assumption) rfl) ?_
          refine wl_call rfl en_220 (ih.f12 (p := p5) hG3 hlv (by show s.fu < 12; omega) hq) ?_
          rintro v u3 hr3
          have F9 := hr3.1
          obtain ⟨hF9, b6, rfl, hT6, hP6⟩ := hr3.thru hF
          obtain ⟨k6, ps6, a6, rfl, _⟩ := (par_q f).i12 hpe3 hlv (by show s.fu < 12; omega) t1 s1 hq
          replace hF := hF.trans' F9 (fun _ _ h => h)
          replace h5 := F9.blkO h5 (by omega)
          refine wl (ro_assign rfl) ?_
          refine wl_nil (x_then (hK14 _ _ ?_))
          clear hK14 K14
          refine c_seq (fun K18 hK18 => ?_)
          refine c_seq (fun K19 hK19 => ?_)
          refine c_reg ?_ -- region 9 parse.go:136
          refine wl (ro_move rfl) ?_
          refine wl (ro_eqPtrNil rfl pt_346 rfl) ?_
          refine wl_nil (x_then (hK19 _ _ ?_))
          clear hK19 K19
          refine wc_condF rfl ?_
          refine c_skip (x_then (hK18 _ _ ?_))
          clear hK18 K18
          refine forget [(5, _), (6, _)] ⟨rfl, rfl, trivial⟩ (fun e => ?_)
          refine c_seq (fun K20 hK20 => ?_)
          refine c_reg ?_ -- region 11 parse.go:139
          refine wl (ro_move rfl) ?_
          refine wl (ro_move rfl) ?_
          refine wl (ro_build rfl bld_352_0_1) ?_
          refine wl_box rfl rfl (fun b47 w2 hbb47 h47 F2 => ?_)
          have hbsb47 := Nat.le_trans hF.size hbb47
          have hneb5b47 : b5 < b47 := Nat.lt_of_lt_of_le h5.lt hbb47
          replace hF := hF.thenDrew.thenN F2
          replace h5 := F2.blkN h5
          replace hT6 := hT6.thruN ((Fram.refl none' _).thenDrew.thenN F2)
          replace hP6 := hP6.farN (F2)
          refine wl (ro_mkIface rfl (by kernel_rfl)) ?_
          refine wl (ro_assign rfl) ?_
          refine wl_nil (x_then (hK20 _ _ ?_))
          clear hK20 K20
          refine c_ret (x_thenR ?_)
          refine bp_ret Tryz.results177 rfl ?_
          cases okP_inj hR
          obtain ⟨b6', p6, V6, U6, ns6, us6, e6, g1, g2, g3, g4, g5⟩ := TrM_func.1 hT6
          injection e6 with e6 _
          injection e6 with _ e6
          cases e6
          exact ⟨hF, TrM_locFn.2 ⟨b47, b5, p5, b6, p6, V6, U6, ns6, us6, rfl, ⟨h47, nw_new hbsb47⟩, ⟨h5, nw_new hbw5⟩, g1, g2, g3, g4, g5⟩, hP6⟩
  · try simp only [decide_eq_true_eq, decide_eq_false_iff_not, Bool.not_eq_true', Bool.not_eq_false', Bool.not_eq_eq_eq_not, Bool.not_true, Bool.not_false, beq_iff_eq, bne_iff_ne, ne_eq, beq_eq_false_iff_ne, bne_eq_false_iff_eq, gt_iff_lt, ge_iff_le, Int.not_lt, Int.not_le] at hc18
    rw [if_neg (by omega)] at hR
    refine c_skip (x_then (hK2 _ _ ?_))
    clear hK2 K2
    refine forget [(0, _), (1, _)] ⟨rfl, rfl, trivial⟩ (fun e => ?_)
    refine c_seq (fun K21 hK21 => ?_)
    rcases nameP_or hR with ⟨ee, pp, rfl, hNF⟩ | ⟨hNK, hR⟩
    · skip
      refine c_reg ?_ -- region 12 parse.go:141
      refine wl (ro_move rfl) ?_
      refine wl_call rfl en_219 (name219F (x := 1) hNF hP hG.cx.tk hne (by decide)) ?_
      rintro _ u2 ⟨F9, rfl, hE⟩
      replace hF := hF.trans' F9 (fun _ _ h => h)
      refine wl (ro_assign rfl) ?_
      refine wl_nil (x_then (hK21 _ _ ?_))
      clear hK21 K21
      refine c_seq (fun K22 hK22 => ?_)
      refine c_seq (fun K23 hK23 => ?_)
      refine c_reg ?_ -- region 13 parse.go:142
      refine wl (ro_move rfl) ?_
      refine wl (ro_eqPtrNil rfl pt_305 rfl) ?_
      refine wl_nil (x_then (hK23 _ _ ?_))
      clear hK23 K23
      refine wc_condT rfl ?_
      refine c_seq (fun K24 hK24 => ?_)
      refine c_reg ?_ -- region 14 parse.go:143
      refine wl (ro_assign rfl) ?_
      refine wl_nil (x_then (hK24 _ _ ?_))
      clear hK24 K24
      refine c_ret (x_thenR ?_)
      refine bp_ret Tryz.results177 rfl ?_
      exact ⟨hF, rfl, hE⟩
    · skip
      refine c_reg ?_ -- region 12 parse.go:141
      refine wl (ro_move rfl) ?_
      refine wl_call rfl en_219 (name219K (x := 1) hNK hP hG.cx.tk hne (by decide)) ?_
      rintro _ u2 ⟨F9, b7, p7, rfl, hb7, h7, hP2⟩
      have hal1 : s.al + 1 ≤ 12 := by have := hNK.2; omega
      replace hF := hF.trans' F9 (fun _ _ h => h)
      have hN7 : NB u2 (N63 w ow) b7 [i64c p7, S s.cur.s] 349 := ⟨h7, nw_new hb7⟩
      have hl7 := h7.lt
      refine wl (ro_assign rfl) ?_
      refine wl_nil (x_then (hK21 _ _ ?_))
      clear hK21 K21
      refine c_seq (fun K25 hK25 => ?_)
      refine c_seq (fun K26 hK26 => ?_)
      refine c_reg ?_ -- region 13 parse.go:142
      refine wl (ro_move rfl) ?_
      refine wl (ro_eqPtrNil rfl pt_305 rfl) ?_
      refine wl_nil (x_then (hK26 _ _ ?_))
      clear hK26 K26
      refine wc_condF rfl ?_
      refine c_skip (x_then (hK25 _ _ ?_))
      clear hK25 K25
      refine c_seq (fun K27 hK27 => ?_)
      refine c_seq (fun K28 hK28 => ?_)
      refine c_reg ?_ -- region 15 parse.go:145
      refine wl (ro_move rfl) ?_
      refine wl_call rfl en_221 (accept221 hP2 (hG.cx.go hF).tk hne (by decide)) ?_
      rintro _ u3 ⟨rfl, hq3, F9⟩
      have hcx_ := hcxf hF
      replace hF := hF.trans' F9 (fun _ _ h => h)
      replace hN7 := hN7.thru hcx_ F9
      refine wl_nil (x_then (hK28 _ _ ?_))
      clear hK28 K28
      refine wc_cond rfl (fun hc54 => ?_) (fun hc54 => ?_)
      · try simp only [decide_eq_true_eq, decide_eq_false_iff_not, Bool.not_eq_true', Bool.not_eq_false', Bool.not_eq_eq_eq_not, Bool.not_true, Bool.not_false, beq_iff_eq, bne_iff_ne, ne_eq, beq_eq_false_iff_ne, bne_eq_false_iff_eq, gt_iff_lt, ge_iff_le, Int.not_lt, Int.not_le] at hc54
        rw [if_pos (by omega)] at hR hq3
        refine c_seq (fun K29 hK29 => ?_)
        rcases nameP_or hR with ⟨ee, pp, rfl, hNF⟩ | ⟨hNK2, hR⟩
        · skip
          refine c_reg ?_ -- region 16 parse.go:146
          refine wl (ro_move rfl) ?_
          refine wl_call rfl en_219 (name219F (x := 2) hNF hq3 (hG.cx.go hF).tk hne (by decide)) ?_
          rintro _ u4 ⟨F9, rfl, hE⟩
          have hcx_ := hcxf hF
          replace hF := hF.trans' F9 (fun _ _ h => h)
          replace hN7 := hN7.thru hcx_ F9
          refine wl (ro_assign rfl) ?_
          refine wl_nil (x_then (hK29 _ _ ?_))
          clear hK29 K29
          refine c_seq (fun K30 hK30 => ?_)
          refine c_seq (fun K31 hK31 => ?_)
          refine c_reg ?_ -- region 17 parse.go:147
          refine wl (ro_move rfl) ?_
          refine wl (ro_eqPtrNil rfl pt_305 rfl) ?_
          refine wl (ro_move rfl) ?_
          refine wlg_no rfl ?_
          refine wlg_no rfl ?_
          refine wlg_no rfl ?_
          refine wl (ro_pick rfl rfl rfl) ?_
          refine wl_nil (x_then (hK31 _ _ ?_))
          clear hK31 K31
          refine wc_condT rfl ?_
          refine c_seq (fun K32 hK32 => ?_)
          refine c_reg ?_ -- region 18 parse.go:148
          refine wl (ro_assign rfl) ?_
          refine wl_nil (x_then (hK32 _ _ ?_))
          clear hK32 K32
          refine c_ret (x_thenR (x_thenR ?_))
          refine bp_ret Tryz.results177 rfl ?_
          exact ⟨hF, rfl, hE⟩
        · skip
          refine c_reg ?_ -- region 16 parse.go:146
          refine wl (ro_move rfl) ?_
          refine wl_call rfl en_219 (name219K (x := 2) hNK2 hq3 (hG.cx.go hF).tk hne (by decide)) ?_
          rintro _ u4 ⟨F9, b8, p8, rfl, hb8, h8, hP4⟩
          have hbw8 := Nat.le_trans hF.size hb8
          have hal2 : s.al + 2 ≤ 12 := by have := hNK2.2; have e : s.adv.adv.al = s.al := rfl; omega
          have hcx_ := hcxf hF
          replace hF := hF.trans' F9 (fun _ _ h => h)
          replace hN7 := hN7.thru hcx_ F9
          have hN8 : NB u4 (N63 w ow) b8 [i64c p8, S s.adv.adv.cur.s] 349 := ⟨h8, nw_new hbw8⟩
          refine wl (ro_assign rfl) ?_
          refine wl_nil (x_then (hK29 _ _ ?_))
          clear hK29 K29
          refine c_seq (fun K33 hK33 => ?_)
          refine c_seq (fun K34 hK34 => ?_)
          refine c_reg ?_ -- region 17 parse.go:147
          refine wl (ro_move rfl) ?_
          refine wl (ro_eqPtrNil rfl pt_305 rfl) ?_
          refine wl (ro_move rfl) ?_
          refine wlg_yes rfl (ro_move rfl) ?_
          refine wlg_call rfl rfl en_222 (expect222 hP4 (hG.cx.go hF).tk hne (by decide)) ?_
          rintro _ u5 ⟨rfl, hq5, F9⟩
          have hcx_ := hcxf hF
          replace hF := hF.trans' F9 (fun _ _ h => h)
          replace hN7 := hN7.thru hcx_ F9
          replace hN8 := hN8.thru hcx_ F9
          refine wlg_yes rfl (ro_not rfl) ?_
          refine wl (ro_pick rfl rfl rfl) ?_
          refine wl_nil (x_then (hK34 _ _ ?_))
          clear hK34 K34
          refine wc_cond rfl (fun hc63 => ?_) (fun hc63 => ?_)
          · try simp only [decide_eq_true_eq, decide_eq_false_iff_not, Bool.not_eq_true', Bool.not_eq_false', Bool.not_eq_eq_eq_not, Bool.not_true, Bool.not_false, beq_iff_eq, bne_iff_ne, ne_eq, beq_eq_false_iff_ne, bne_eq_false_iff_eq, gt_iff_lt, ge_iff_le, Int.not_lt, Int.not_le] at hc63
            refine c_seq (fun K35 hK35 => ?_)
            refine c_reg ?_ -- region 18 parse.go:148
            refine wl (ro_assign rfl) ?_
            refine wl_nil (x_then (hK35 _ _ ?_))
            clear hK35 K35
            refine c_ret (x_thenR (x_thenR ?_))
            refine bp_ret Tryz.results177 rfl ?_
            rw [if_neg (by omega)] at hR hq5
            cases failP_inj hR
            exact ⟨hF, rfl, hq5⟩
          · try simp only [decide_eq_true_eq, decide_eq_false_iff_not, Bool.not_eq_true', Bool.not_eq_false', Bool.not_eq_eq_eq_not, Bool.not_true, Bool.not_false, beq_iff_eq, bne_iff_ne, ne_eq, beq_eq_false_iff_ne, bne_eq_false_iff_eq, gt_iff_lt, ge_iff_le, Int.not_lt, Int.not_le] at hc63
            rw [if_pos (by omega)] at hR hq5
            have hpe3 := hpe00.cm (Cm.adv hpe00)
            have hpe4 := hpe3.cm (Cm.adv hpe3)
            have hG5 := hG.at (lv1 := lv + 1) (ρ1 := ρ - 1) hF hq5 hpe4 (by omega) (by show s.lo ≤ lv + 1; omega) (by omega)
            refine c_skip (x_then (hK33 _ _ ?_))
            clear hK33 K33
            refine forget [(0, _), (1, _), (7, _), (8, _)] ⟨rfl, rfl, rfl, rfl, trivial⟩ (fun e => ?_)
            refine c_seq (fun K36 hK36 => ?_)
            rcases bdP_some hR with ⟨⟨ee, pp⟩, hq, rfl⟩ | ⟨t1, s1, hq, hR⟩
            · skip
              refine c_reg ?_ -- region 19 parse.go:150
              refine wl (ro_move rfl) ?_
              refine wl (ro_move rfl) ?_
              refine wl (ro_arith rfl rfl rfl (Go.IntWalk.i64_in _ (by omega))) ?_
              refine wl_call rfl en_180 (ih.e0 (r := 1) hG5 (by decide) (by decide) hq) ?_
              rintro v u6 ⟨F9, rfl, hE⟩
              have hcx_ := hcxf hF
              replace hF := hF.trans' F9 (fun _ _ h => h)
              replace hN7 := hN7.thru hcx_ F9
              replace hN8 := hN8.thru hcx_ F9
              refine wl (ro_assign rfl) ?_
              refine wl_nil (x_then (hK36 _ _ ?_))
              clear hK36 K36
              refine c_seq (fun K37 hK37 => ?_)
              refine c_seq (fun K38 hK38 => ?_)
              refine c_reg ?_ -- region 20 parse.go:151
              refine wl (ro_move rfl) ?_
              refine wl (ro_eqNilN rfl ifc_290) ?_
              refine wl_nil (x_then (hK38 _ _ ?_))
              clear hK38 K38
              refine wc_condT rfl ?_
              refine c_seq (fun K39 hK39 => ?_)
              refine c_reg ?_ -- region 21 parse.go:152
              refine wl (ro_assign rfl) ?_
              refine wl_nil (x_then (hK39 _ _ ?_))
              clear hK39 K39
              refine c_ret (x_thenR (x_thenR ?_))
              refine bp_ret Tryz.results177 rfl ?_
              exact ⟨hF, rfl, hE⟩
            · skip
              refine c_reg ?_ -- region 19 parse.go:150
              refine wl (ro_move rfl) ?_
              refine wl (ro_move rfl) ?_
              refine wl (ro_arith rfl rfl rfl (Go.IntWalk.i64_in _ (by omega))) ?_
              refine wl_call rfl en_180 (ih.e0 (r := 1) hG5 (by decide) (by decide) hq) ?_
              rintro v u6 hr6
              have F9 := hr6.1
              obtain ⟨hF9, hT6, hP6⟩ := hr6.thru hF
              obtain ⟨TT, bb, rfl⟩ := hT6.ifc (.inl rfl)
              obtain ⟨_, hSm1, _, hlv1⟩ := (par_q f).i0 hpe4 t1 s1 hq
              have hal6 : s1.al = s.al := hSm1.al
              have hcx_ := hcxf hF
              replace hF := hF.trans' F9 (fun _ _ h => h)
              replace hN7 := hN7.thru hcx_ F9
              replace hN8 := hN8.thru hcx_ F9
              have hkd := hT6.kd
              refine wl (ro_assign rfl) ?_
              refine wl_nil (x_then (hK36 _ _ ?_))
              clear hK36 K36
              refine c_seq (fun K40 hK40 => ?_)
              refine c_seq (fun K41 hK41 => ?_)
              refine c_reg ?_ -- region 20 parse.go:151
              refine wl (ro_move rfl) ?_
              refine wl (ro_eqNilI rfl ifc_290) ?_
              refine wl_nil (x_then (hK41 _ _ ?_))
              clear hK41 K41
              refine wc_condF rfl ?_
              refine c_skip (x_then (hK40 _ _ ?_))
              clear hK40 K40
              refine c_seq (fun K42 hK42 => ?_)
              refine c_seq (fun K43 hK43 => ?_)
              rcases hkd with ⟨b', a', c', e', rfl⟩ | ⟨b', s', e', rfl⟩ | ⟨b', a', c', e', rfl⟩ | ⟨T', b', e', g3, g5, g6, x3, x4, x5⟩
              · skip
                cases e'
                rw [if_pos (by rfl)] at hR
                refine c_reg ?_ -- region 22 parse.go:154
                refine wl (ro_move rfl) ?_
                refine wl (ro_taY rfl nif_300) ?_
                refine wl (ro_move rfl) ?_
                refine wl (ro_extract rfl rfl) ?_
                refine wl (ro_extract rfl rfl) ?_
                refine wl (ro_assign rfl) ?_
                refine wl (ro_assign rfl) ?_
                refine wl_nil (x_then (hK43 _ _ ?_))
                clear hK43 K43
                refine forget [(0, _), (7, _), (8, _), (9, _), (11, _)] ⟨rfl, rfl, rfl, rfl, rfl, trivial⟩ (fun e => ?_)
                refine c_seq (fun K44 hK44 => ?_)
                refine c_reg ?_ -- region 23 parse.go:154
                refine wl (ro_move rfl) ?_
                refine wl (ro_not rfl) ?_
                refine wl_nil (x_then (hK44 _ _ ?_))
                clear hK44 K44
                refine wc_condF rfl ?_
                refine c_skip (x_then (hK42 _ _ ?_))
                clear hK42 K42
                refine forget [(0, _), (7, _), (8, _), (9, _)] ⟨rfl, rfl, rfl, rfl, trivial⟩ (fun e => ?_)
                refine c_seq (fun K45 hK45 => ?_)
                obtain ⟨i, hX, hi, hs⟩ := hP6.ex
                unfold prc at hX
                refine c_reg ?_ -- region 26 parse.go:158
                refine wl (ro_move rfl) ?_
                refine wl (ro_nilCheck rfl) ?_
                refine wl (ro_fieldAddr (k := 7) rfl fo_186_3) ?_
                refine wl (ro_fieldAddr (k := 0) rfl fo_184_0) ?_
                refine wl (ro_loadB rfl sc_3 (by assumption) rfl) ?_
                refine wl (ro_arith rfl rfl rfl (Go.IntWalk.i64_in _ (by omega))) ?_
                refine wl (ro_nilCheck rfl) ?_
                refine wl (ro_fieldAddr (k := 7) rfl fo_186_3) ?_
                refine wl (ro_fieldAddr (k := 0) rfl fo_184_0) ?_
                refine wl_put rfl rfl rfl sz_3 hX (by simp) (rfl) (fun w3 hX F3 => ?_)
                have hcx_ := hcxf hF
                replace hF := hF.thenDrew.thenO F3 (by first | exact .inr (by omega) | exact .inl rfl | exact .inl (by assumption) | assumption)
                replace hN7 := hN7.thru hcx_ ((Fram.refl (one pb) _).thenDrew.thenO F3 (.inl rfl))
                replace hN8 := hN8.thru hcx_ ((Fram.refl (one pb) _).thenDrew.thenO F3 (.inl rfl))
                replace hT6 := hT6.thru hcx_ ((Fram.refl (one pb) _).thenDrew.thenO F3 (.inl rfl))
                refine wl_nil (x_then (hK45 _ _ ?_))
                clear hK45 K45
                refine forget [(7, _), (8, _), (9, _)] ⟨rfl, rfl, rfl, trivial⟩ (fun e => ?_)
                refine c_seq (fun K46 hK46 => ?_)
                have hP7 : PrV _ pb tb cap L { s1 with al := s1.al + 2 } := ⟨⟨i, hX, hi, hs⟩, by show s1.al + 2 ≤ 12; omega, hP6.lo, hP6.fu⟩
                refine c_reg ?_ -- region 27 parse.go:159
                refine wl (ro_move rfl) ?_
                refine wl (ro_mkIface rfl (by kernel_rfl)) ?_
                refine wl (ro_move rfl) ?_
                refine wl (ro_mkIface rfl (by kernel_rfl)) ?_
                refine wl_bs2 rfl rfl rfl rfl se_188 zx_242 (fun bs u8 hbs hon F8 => ?_)
                have hV : SlM u8 (N63 w ow) (.slice (some ⟨bs, 0, none⟩) 2 2) [.iface 305 (ptr b7), .iface 305 (ptr b8)] := ⟨hon, fun c hc => by have hc : some bs = some c := hc; injection hc with hc; subst hc; exact nw_new (by have := hF.size; omega)⟩
                replace hP7 := hP7.farN F8
                replace hF := hF.thenDrew.thenN F8
                replace hN7 := hN7.thruN ((Fram.refl none' _).thenDrew.thenN F8)
                replace hN8 := hN8.thruN ((Fram.refl none' _).thenDrew.thenN F8)
                replace hT6 := hT6.thruN ((Fram.refl none' _).thenDrew.thenN F8)
                refine wl (ro_move rfl) ?_
                refine wl (ro_build rfl bld_356_0_1) ?_
                refine wl_box rfl rfl (fun b95 w4 hbb95 h95 F4 => ?_)
                have hbsb95 := Nat.le_trans hF.size hbb95
                replace hF := hF.thenDrew.thenN F4
                replace hN7 := hN7.thruN ((Fram.refl none' _).thenDrew.thenN F4)
                replace hN8 := hN8.thruN ((Fram.refl none' _).thenDrew.thenN F4)
                replace hT6 := hT6.thruN ((Fram.refl none' _).thenDrew.thenN F4)
                replace hV := hV.thruN ((Fram.refl none' _).thenDrew.thenN F4)
                replace hP7 := hP7.farN (F4)
                refine wl (ro_mkIface rfl (by kernel_rfl)) ?_
                refine wl (ro_assign rfl) ?_
                refine wl_nil (x_then (hK46 _ _ ?_))
                clear hK46 K46
                refine c_ret (x_thenR ?_)
                refine bp_ret Tryz.results177 rfl ?_
                cases okP_inj hR
                obtain ⟨b6', p6, x6, U6, us6, e6, g1, g2, g3, g4⟩ := TrM_call.1 hT6
                injection e6 with e6 _
                injection e6 with _ e6
                cases e6
                exact ⟨hF, TrM_loc2.2 ⟨b95, _, _, _, p6, x6, U6, us6, rfl, ⟨h95, nw_new hbsb95⟩, hV, ⟨b7, p7, _, rfl, hN7, b8, p8, _, rfl, hN8, rfl⟩, g1, g2, g3, g4⟩, hP7⟩
              · skip
                cases e'
                rw [if_neg (Nat.ne_of_beq_eq_false rfl)] at hR
                refine c_reg ?_ -- region 22 parse.go:154
                refine wl (ro_move rfl) ?_
                refine wl (ro_taN rfl nif_300 rfl zi_300) ?_
                refine wl (ro_move rfl) ?_
                refine wl (ro_extract rfl rfl) ?_
                refine wl (ro_extract rfl rfl) ?_
                refine wl (ro_assign rfl) ?_
                refine wl (ro_assign rfl) ?_
                refine wl_nil (x_then (hK43 _ _ ?_))
                clear hK43 K43
                refine forget [(0, _), (7, _), (8, _), (9, _), (11, _)] ⟨rfl, rfl, rfl, rfl, rfl, trivial⟩ (fun e => ?_)
                refine c_seq (fun K47 hK47 => ?_)
                refine c_reg ?_ -- region 23 parse.go:154
                refine wl (ro_move rfl) ?_
                refine wl (ro_not rfl) ?_
                refine wl_nil (x_then (hK47 _ _ ?_))
                clear hK47 K47
                refine wc_condT rfl ?_
                refine c_seq (fun K48 hK48 => ?_)
                refine c_reg ?_ -- region 24 parse.go:155
                refine wl (ro_move rfl) ?_
                refine wl_call rfl en_77 (fail77 (e := 15) hP6) ?_
                rintro _ u7 ⟨rfl, hE, F9⟩
                have hcx_ := hcxf hF
                replace hF := hF.trans' F9 (fun _ _ h => h)
                replace hN7 := hN7.thru hcx_ F9
                replace hN8 := hN8.thru hcx_ F9
                replace hT6 := hT6.thru hcx_ F9
                refine wl_nil (x_then (hK48 _ _ ?_))
                clear hK48 K48
                refine forget [] trivial (fun e => ?_)
                refine c_seq (fun K49 hK49 => ?_)
                refine c_reg ?_ -- region 25 parse.go:156
                refine wl (ro_assign rfl) ?_
                refine wl_nil (x_then (hK49 _ _ ?_))
                clear hK49 K49
                refine c_ret (x_thenR (x_thenR ?_))
                refine bp_ret Tryz.results177 rfl ?_
                cases failP_inj hR
                exact ⟨hF, rfl, hE⟩
              · skip
                cases e'
                rw [if_neg (Nat.ne_of_beq_eq_false rfl)] at hR
                refine c_reg ?_ -- region 22 parse.go:154
                refine wl (ro_move rfl) ?_
                refine wl (ro_taN rfl nif_300 rfl zi_300) ?_
                refine wl (ro_move rfl) ?_
                refine wl (ro_extract rfl rfl) ?_
                refine wl (ro_extract rfl rfl) ?_
                refine wl (ro_assign rfl) ?_
                refine wl (ro_assign rfl) ?_
                refine wl_nil (x_then (hK43 _ _ ?_))
                clear hK43 K43
                refine forget [(0, _), (7, _), (8, _), (9, _), (11, _)] ⟨rfl, rfl, rfl, rfl, rfl, trivial⟩ (fun e => ?_)
                refine c_seq (fun K50 hK50 => ?_)
                refine c_reg ?_ -- region 23 parse.go:154
                refine wl (ro_move rfl) ?_
                refine wl (ro_not rfl) ?_
                refine wl_nil (x_then (hK50 _ _ ?_))
                clear hK50 K50
                refine wc_condT rfl ?_
                refine c_seq (fun K51 hK51 => ?_)
                refine c_reg ?_ -- region 24 parse.go:155
                refine wl (ro_move rfl) ?_
                refine wl_call rfl en_77 (fail77 (e := 15) hP6) ?_
                rintro _ u7 ⟨rfl, hE, F9⟩
                have hcx_ := hcxf hF
                replace hF := hF.trans' F9 (fun _ _ h => h)
                replace hN7 := hN7.thru hcx_ F9
                replace hN8 := hN8.thru hcx_ F9
                replace hT6 := hT6.thru hcx_ F9
                refine wl_nil (x_then (hK51 _ _ ?_))
                clear hK51 K51
                refine forget [] trivial (fun e => ?_)
                refine c_seq (fun K52 hK52 => ?_)
                refine c_reg ?_ -- region 25 parse.go:156
                refine wl (ro_assign rfl) ?_
                refine wl_nil (x_then (hK52 _ _ ?_))
                clear hK52 K52
                refine c_ret (x_thenR (x_thenR ?_))
                refine bp_ret Tryz.results177 rfl ?_
                cases failP_inj hR
                exact ⟨hF, rfl, hE⟩
              · skip
                cases e'
                rw [if_neg x5] at hR
                refine c_reg ?_ -- region 22 parse.go:154
                refine wl (ro_move rfl) ?_
                refine wl (ro_taN rfl nif_300 g3 zi_300) ?_
                refine wl (ro_move rfl) ?_
                refine wl (ro_extract rfl rfl) ?_
                refine wl (ro_extract rfl rfl) ?_
                refine wl (ro_assign rfl) ?_
                refine wl (ro_assign rfl) ?_
                refine wl_nil (x_then (hK43 _ _ ?_))
                clear hK43 K43
                refine forget [(0, _), (7, _), (8, _), (9, _), (11, _)] ⟨rfl, rfl, rfl, rfl, rfl, trivial⟩ (fun e => ?_)
                refine c_seq (fun K53 hK53 => ?_)
                refine c_reg ?_ -- region 23 parse.go:154
                refine wl (ro_move rfl) ?_
                refine wl (ro_not rfl) ?_
                refine wl_nil (x_then (hK53 _ _ ?_))
                clear hK53 K53
                refine wc_condT rfl ?_
                refine c_seq (fun K54 hK54 => ?_)
                refine c_reg ?_ -- region 24 parse.go:155
                refine wl (ro_move rfl) ?_
                refine wl_call rfl en_77 (fail77 (e := 15) hP6) ?_
                rintro _ u7 ⟨rfl, hE, F9⟩
                have hcx_ := hcxf hF
                replace hF := hF.trans' F9 (fun _ _ h => h)
                replace hN7 := hN7.thru hcx_ F9
                replace hN8 := hN8.thru hcx_ F9
                replace hT6 := hT6.thru hcx_ F9
                refine wl_nil (x_then (hK54 _ _ ?_))
                clear hK54 K54
                refine forget [] trivial (fun e => ?_)
                refine c_seq (fun K55 hK55 => ?_)
                refine c_reg ?_ -- region 25 parse.go:156
                refine wl (ro_assign rfl) ?_
                refine wl_nil (x_then (hK55 _ _ ?_))
                clear hK55 K55
                refine c_ret (x_thenR (x_thenR ?_))
                refine bp_ret Tryz.results177 rfl ?_
                cases failP_inj hR
                exact ⟨hF, rfl, hE⟩
      · try simp only [decide_eq_true_eq, decide_eq_false_iff_not, Bool.not_eq_true', Bool.not_eq_false', Bool.not_eq_eq_eq_not, Bool.not_true, Bool.not_false, beq_iff_eq, bne_iff_ne, ne_eq, beq_eq_false_iff_ne, bne_eq_false_iff_eq, gt_iff_lt, ge_iff_le, Int.not_lt, Int.not_le] at hc54
        rw [if_neg (by omega)] at hR hq3
        subst hq3
        refine c_skip (x_then (hK27 _ _ ?_))
        clear hK27 K27
        refine forget [(0, _), (1, _), (7, _)] ⟨rfl, rfl, rfl, trivial⟩ (fun e => ?_)
        refine c_seq (fun K56 hK56 => ?_)
        refine c_reg ?_ -- region 28 parse.go:161
        refine wl (ro_move rfl) ?_
        refine wl (ro_mkIface rfl (by kernel_rfl)) ?_
        refine wl_bs1 rfl rfl se_188 zx_242 (fun bs u8 hbs hon F8 => ?_)
        have hV0 : SlM u8 (N63 w ow) (.slice (some ⟨bs, 0, none⟩) 1 1) [.iface 305 (ptr b7)] := ⟨hon, fun c hc => by have hc : some bs = some c := hc; injection hc with hc; subst hc; exact nw_new (by have := hF.size; omega)⟩
        replace hP2 := hP2.farN F8
        have hl8 := hon.lt (b := bs) rfl
        have hl7' : b7 < u8.heap.size := (hN7.thruN F8).1.lt
        have hwbs : w.heap.size ≤ bs := by have := hF.size; omega
        replace hF := hF.thenDrew.thenN F8
        replace hN7 := hN7.thruN ((Fram.refl none' _).thenDrew.thenN F8)
        refine wl (ro_build rfl bld_356_0) ?_
        refine wl_box rfl rfl (fun b101 w5 hbb101 h101 F5 => ?_)
        have hbsb101 := Nat.le_trans hF.size hbb101
        replace hF := hF.thenDrew.thenN F5
        replace hP2 := hP2.farN (F5)
        replace hV0 := hV0.thruN (F5)
        replace hN7 := hN7.thruN (F5)
        have hV : SlM _ (HB b101 (N63 w ow)) (.slice (some ⟨bs, 0, none⟩) 1 1) [.iface 305 (ptr b7)] := ⟨hV0.o, fun c hc => by have hc : some bs = some c := hc; injection hc with hc; subst hc; exact HB.new hwbs (by omega)⟩
        replace hN7 := hN7.tohb (b := b101) (by omega)
        replace hcxf := fun {u : World} (g : Fram (one pb) w u) => hG.cx.hb hbsb101 g
        refine wl (ro_assign rfl) ?_
        refine wl_nil (x_then (hK56 _ _ ?_))
        clear hK56 K56
        refine c_seq (fun K57 hK57 => ?_)
        refine c_seq (fun K58 hK58 => ?_)
        refine c_reg ?_ -- region 29 parse.go:162
        refine wl (ro_move rfl) ?_
        refine wl_call rfl en_221 (accept221 hP2 (hcxf hF).tk hne (by decide)) ?_
        rintro _ u9 ⟨rfl, hq9, F9⟩
        have hcx_ := hcxf hF
        replace hF := hF.trans' F9 (fun _ _ h => h)
        replace h101 := F9.blkO h101 (by omega)
        replace hV := hV.thru hcx_ F9
        replace hN7 := hN7.thru hcx_ F9
        refine wl_nil (x_then (hK58 _ _ ?_))
        clear hK58 K58
        refine wc_cond rfl (fun hc103 => ?_) (fun hc103 => ?_)
        · try simp only [decide_eq_true_eq, decide_eq_false_iff_not, Bool.not_eq_true', Bool.not_eq_false', Bool.not_eq_eq_eq_not, Bool.not_true, Bool.not_false, beq_iff_eq, bne_iff_ne, ne_eq, beq_eq_false_iff_ne, bne_eq_false_iff_eq, gt_iff_lt, ge_iff_le, Int.not_lt, Int.not_le] at hc103
          rw [if_pos (by omega)] at hR hq9
          refine c_seq (fun K59 hK59 => ?_)
          rcases bdP_some hR with ⟨⟨ee, pp⟩, hq, rfl⟩ | ⟨t1, s1, hq, hR⟩
          · skip
            have hG9 := hG.hb (lv1 := lv + 1) (ρ1 := ρ - 1) hbsb101 hF hq9 hpe00 (by omega) (by show s.lo ≤ lv + 1; omega) (by omega)
            refine c_reg ?_ -- region 30 parse.go:163
            refine wl (ro_move rfl) ?_
            refine wl (ro_move rfl) ?_
            refine wl (ro_move rfl) ?_
            refine wl (ro_arith rfl rfl rfl (Go.IntWalk.i64_in _ (by omega))) ?_
            refine wl_call rfl en_180 (ih.e0 (r := 1) hG9 (by decide) (by decide) hq) ?_
            rintro v u10 ⟨F9, rfl, hE⟩
            have hcx_ := hcxf hF
            replace hF := hF.trans' F9 (fun _ _ h => h)
            replace h101 := F9.blkO h101 (by omega)
            replace hV := hV.thru hcx_ F9
            replace hN7 := hN7.thru hcx_ F9
            refine wl (ro_nilCheck rfl) ?_
            refine wl (ro_fieldAddr (k := 1) rfl fo_356_1) ?_
            refine wl_put rfl rfl rfl sz_290 h101 (by simp) (rfl) (fun w6 h101 F6 => ?_)
            have hcx_ := hcxf hF
            replace hF := hF.thenDrew.thenO F6 (by first | exact .inr (by omega) | exact .inl rfl | exact .inl (by assumption) | assumption)
            replace hV := hV.hbput ((Fram.refl (one b101) _).thenDrew.thenO F6 (.inl rfl))
            replace hN7 := hN7.hbput ((Fram.refl (one b101) _).thenDrew.thenO F6 (.inl rfl))
            have hE4 := hE.far F6 (fun q => by have q : pb = b101 := q; omega)
            refine wl_nil (x_then (hK59 _ _ ?_))
            clear hK59 K59
            refine forget [(0, _), (12, _)] ⟨rfl, rfl, trivial⟩ (fun e => ?_)
            refine c_seq (fun K60 hK60 => ?_)
            refine c_reg ?_ -- region 31 parse.go:164
            refine wl (ro_move rfl) ?_
            refine wl (ro_nilCheck rfl) ?_
            refine wl (ro_fieldAddr (k := 1) rfl fo_356_1) ?_
            refine wl (ro_loadB rfl sc_290 (by assumption) rfl) ?_
            refine wl (ro_eqNilN rfl ifc_290) ?_
            refine wl_nil (x_then (hK60 _ _ ?_))
            clear hK60 K60
            refine wc_condT rfl ?_
            refine c_seq (fun K61 hK61 => ?_)
            refine c_reg ?_ -- region 32 parse.go:165
            refine wl (ro_assign rfl) ?_
            refine wl_nil (x_then (hK61 _ _ ?_))
            clear hK61 K61
            refine c_ret (x_thenR ?_)
            refine bp_ret Tryz.results177 rfl ?_
            exact ⟨hF, rfl, hE4⟩
          · skip
            have hG9 := hG.hb (lv1 := lv + 1) (ρ1 := ρ - 1) hbsb101 hF hq9 hpe00 (by omega) (by show s.lo ≤ lv + 1; omega) (by omega)
            refine c_reg ?_ -- region 30 parse.go:163
            refine wl (ro_move rfl) ?_
            refine wl (ro_move rfl) ?_
            refine wl (ro_move rfl) ?_
            refine wl (ro_arith rfl rfl rfl (Go.IntWalk.i64_in _ (by omega))) ?_
            refine wl_call rfl en_180 (ih.e0 (r := 1) hG9 (by decide) (by decide) hq) ?_
            rintro v u10 ⟨F9, hT1, hP9⟩
            obtain ⟨T1, b1, rfl⟩ := hT1.ifc (.inl rfl)
            rw [HB.n63 hF.size h101.lt] at hT1
            obtain ⟨_, hSm1, _, hlv1⟩ := (par_q f).i0 hpe00 t1 s1 hq
            have hal6 : s1.al = s.al := hSm1.al
            have hcx_ := hcxf hF
            replace hF := hF.trans' F9 (fun _ _ h => h)
            replace h101 := F9.blkO h101 (by omega)
            replace hV := hV.thru hcx_ F9
            replace hN7 := hN7.thru hcx_ F9
            refine wl (ro_nilCheck rfl) ?_
            refine wl (ro_fieldAddr (k := 1) rfl fo_356_1) ?_
            refine wl_put rfl rfl rfl sz_290 h101 (by simp) (rfl) (fun w7 h101 F7 => ?_)
            have hcx_ := hcxf hF
            replace hF := hF.thenDrew.thenO F7 (by first | exact .inr (by omega) | exact .inl rfl | exact .inl (by assumption) | assumption)
            replace hV := hV.hbput ((Fram.refl (one b101) _).thenDrew.thenO F7 (.inl rfl))
            replace hN7 := hN7.hbput ((Fram.refl (one b101) _).thenDrew.thenO F7 (.inl rfl))
            replace hT1 := hT1.hbput ((Fram.refl (one b101) _).thenDrew.thenO F7 (.inl rfl))
            have hP10 := hP9.far F7 (fun q => by have q : pb = b101 := q; omega)
            refine wl_nil (x_then (hK59 _ _ ?_))
            clear hK59 K59
            refine forget [(0, _), (12, _)] ⟨rfl, rfl, trivial⟩ (fun e => ?_)
            refine c_seq (fun K62 hK62 => ?_)
            refine c_reg ?_ -- region 31 parse.go:164
            refine wl (ro_move rfl) ?_
            refine wl (ro_nilCheck rfl) ?_
            refine wl (ro_fieldAddr (k := 1) rfl fo_356_1) ?_
            refine wl (ro_loadB rfl sc_290 (by assumption) rfl) ?_
            refine wl (ro_eqNilI rfl ifc_290) ?_
            refine wl_nil (x_then (hK62 _ _ ?_))
            clear hK62 K62
            refine wc_condF rfl ?_
            refine c_skip (x_then (hK57 _ _ ?_))
            clear hK57 K57
            refine forget [(0, _), (12, _)] ⟨rfl, rfl, trivial⟩ (fun e => ?_)
            refine c_seq (fun K63 hK63 => ?_)
            obtain ⟨i, hX, hi, hs⟩ := hP10.ex
            unfold prc at hX
            refine c_reg ?_ -- region 33 parse.go:168
            refine wl (ro_move rfl) ?_
            refine wl (ro_nilCheck rfl) ?_
            refine wl (ro_fieldAddr (k := 7) rfl fo_186_3) ?_
            refine wl (ro_fieldAddr (k := 0) rfl fo_184_0) ?_
            refine wl (ro_loadB rfl sc_3 (by assumption) rfl) ?_
            refine wl (ro_arith rfl rfl rfl (Go.IntWalk.i64_in _ (by omega))) ?_
            refine wl (ro_nilCheck rfl) ?_
            refine wl (ro_fieldAddr (k := 7) rfl fo_186_3) ?_
            refine wl (ro_fieldAddr (k := 0) rfl fo_184_0) ?_
            refine wl_put rfl rfl rfl sz_3 hX (by simp) (rfl) (fun w8 hX F8 => ?_)
            have hcx_ := hcxf hF
            replace hF := hF.thenDrew.thenO F8 (by first | exact .inr (by omega) | exact .inl rfl | exact .inl (by assumption) | assumption)
            replace h101 := F8.blkO h101 (by omega)
            replace hV := hV.thru hcx_ ((Fram.refl (one pb) _).thenDrew.thenO F8 (.inl rfl))
            replace hN7 := hN7.thru hcx_ ((Fram.refl (one pb) _).thenDrew.thenO F8 (.inl rfl))
            replace hT1 := hT1.thru hcx_ ((Fram.refl (one pb) _).thenDrew.thenO F8 (.inl rfl))
            refine wl_nil (x_then (hK63 _ _ ?_))
            clear hK63 K63
            refine forget [(12, _)] ⟨rfl, trivial⟩ (fun e => ?_)
            refine c_seq (fun K64 hK64 => ?_)
            refine c_reg ?_ -- region 34 parse.go:169
            refine wl (ro_move rfl) ?_
            refine wl (ro_mkIface rfl (by kernel_rfl)) ?_
            refine wl (ro_assign rfl) ?_
            refine wl_nil (x_then (hK64 _ _ ?_))
            clear hK64 K64
            refine c_ret ?_
            refine bp_ret Tryz.results177 rfl ?_
            cases okP_inj hR
            exact ⟨hF, TrM_locV.2 ⟨b101, _, _, _, rfl, ⟨h101, nw_new hbsb101⟩, hV.hbdone, ⟨b7, p7, _, rfl, hN7.hbdone, rfl⟩, hT1.hbdone⟩, ⟨⟨i, hX, hi, hs⟩, by show s1.al + 1 ≤ 12; omega, hP10.lo, hP10.fu⟩⟩
        · try simp only [decide_eq_true_eq, decide_eq_false_iff_not, Bool.not_eq_true', Bool.not_eq_false', Bool.not_eq_eq_eq_not, Bool.not_true, Bool.not_false, beq_iff_eq, bne_iff_ne, ne_eq, beq_eq_false_iff_ne, bne_eq_false_iff_eq, gt_iff_lt, ge_iff_le, Int.not_lt, Int.not_le] at hc103
          rw [if_neg (by omega)] at hR hq9
          subst hq9
          refine c_skip (x_then (hK57 _ _ ?_))
          clear hK57 K57
          refine forget [(0, _), (12, _)] ⟨rfl, rfl, trivial⟩ (fun e => ?_)
          refine c_seq (fun K65 hK65 => ?_)
          obtain ⟨i, hX, hi, hs⟩ := hP2.ex
          unfold prc at hX
          refine c_reg ?_ -- region 33 parse.go:168
          refine wl (ro_move rfl) ?_
          refine wl (ro_nilCheck rfl) ?_
          refine wl (ro_fieldAddr (k := 7) rfl fo_186_3) ?_
          refine wl (ro_fieldAddr (k := 0) rfl fo_184_0) ?_
          refine wl (ro_loadB rfl sc_3 (by assumption) rfl) ?_
          refine wl (ro_arith rfl rfl rfl (Go.IntWalk.i64_in _ (by omega))) ?_
          refine wl (ro_nilCheck rfl) ?_
          refine wl (ro_fieldAddr (k := 7) rfl fo_186_3) ?_
          refine wl (ro_fieldAddr (k := 0) rfl fo_184_0) ?_
          refine wl_put rfl rfl rfl sz_3 hX (by simp) (rfl) (fun w9 hX F9 => ?_)
          have hcx_ := hcxf hF
          replace hF := hF.thenDrew.thenO F9 (by first | exact .inr (by omega) | exact .inl rfl | exact .inl (by assumption) | assumption)
          replace h101 := F9.blkO h101 (by omega)
          replace hV := hV.thru hcx_ ((Fram.refl (one pb) _).thenDrew.thenO F9 (.inl rfl))
          replace hN7 := hN7.thru hcx_ ((Fram.refl (one pb) _).thenDrew.thenO F9 (.inl rfl))
          refine wl_nil (x_then (hK65 _ _ ?_))
          clear hK65 K65
          refine forget [(12, _)] ⟨rfl, trivial⟩ (fun e => ?_)
          refine c_seq (fun K66 hK66 => ?_)
          refine c_reg ?_ -- region 34 parse.go:169
          refine wl (ro_move rfl) ?_
          refine wl (ro_mkIface rfl (by kernel_rfl)) ?_
          refine wl (ro_assign rfl) ?_
          refine wl_nil (x_then (hK66 _ _ ?_))
          clear hK66 K66
          refine c_ret ?_
          refine bp_ret Tryz.results177 rfl ?_
          cases okP_inj hR
          exact ⟨hF, TrM_loc.2 ⟨b101, _, _, rfl, ⟨h101, nw_new hbsb101⟩, hV.hbdone, ⟨b7, p7, _, rfl, hN7.hbdone, rfl⟩⟩, ⟨⟨i, hX, hi, hs⟩, hal1, hP2.lo, hP2.fu⟩⟩
end Go.Proofs.Qxb6500568aGreatDoor
