import Derived.Test.Qxb6500569aGreatMb
/- The model heap: the occurs check. -/
namespace Go.Proofs.Qxb6500569aGreat
set_option linter.unusedVariables false
set_option linter.unusedSimpArgs false

theorem kidsOf_get {hp : List Nd} {a : Nat} {nd : Nd} (h4 : A4 hp) (wf : WFH hp) (h : hp[a]? = some nd) : (kidsOf hp a).length = ar nd.h ∧ ar nd.h ≤ 4 ∧ ∀ i, i < ar nd.h → nd.a[i]? = (kidsOf hp a)[i]? := by
  have hl := h4 nd (List.mem_of_getElem? h)
  have har : ar nd.h ≤ 4 := by
    rcases wfh_hd wf h with h | ⟨f, d, h, h1, h2⟩
    · rw [h]; simp [ar]
    · rw [h]; simp [ar]; omega
  simp only [kidsOf, h]
  refine ⟨by simp; omega, har, ?_⟩
  intro i hi
  rw [List.getElem?_take, if_pos hi]

theorem kids_lt {hp : List Nd} (wf : WFH hp) {a : Nat} {nd : Nd} (h : hp[a]? = some nd) {x : Nat} (hx : x ∈ kidsOf hp a) : x < hp.length := by
  by_cases h0 : nd.h = []
  · simp [kidsOf, h, h0, ar] at hx
  · obtain ⟨_, _, h3⟩ := wf.str a nd h h0
    simp only [kidsOf, h] at hx
    obtain ⟨i, hi⟩ := List.getElem?_of_mem hx
    rw [List.getElem?_take] at hi
    split at hi
    · rename_i hlt; exact h3 i x hi hlt
    · cases hi

def OccOK (hp : List Nd) (v t n : Nat) (r : Value) : Prop :=
  ∃ m e, r = .tuple #[i64c m, i64c e] ∧ n < m ∧ m ≤ 41 ∧ (e = 0 → m ≤ 40) ∧ ∀ st, occS hp v (t :: st) n = if e = 0 then occS hp v st m else (m, e)

theorem occurs123 {hb : Nat} {V : Value} {hp : List Nd} (wf : WFH hp) (h64 : hp.length ≤ 64) {v : Nat} : ∀ (k n t : Nat) (w : World), MH w.heap hb V hp → n ≤ 40 → 41 - n ≤ k → t < hp.length →
    Ret Tryz.prog 123 [ptr hb, i64c v, i64c t, i64c n] w (fun r w' => OccOK hp v t n r ∧ w' = w) := by
  intro k
  induction k with
  | zero => intro n t w M hn hk; omega
  | succ k IH =>
  intro n t w M hn hk ht
  have hdl := deref_lt wf ht
  obtain ⟨nd, hnd⟩ : ∃ nd, hp[deref hp t]? = some nd := ⟨_, List.getElem?_eq_getElem hdl⟩
  obtain ⟨hk1, hk2, hk3⟩ := kidsOf_get M.a4 wf hnd
  have hkb : ∀ x ∈ kidsOf hp (deref hp t), x < hp.length := fun x hx => kids_lt wf hnd hx
  have hcons := fun st => occS_cons hp v t n st hn
  obtain ⟨g, cap, l, rfl, hBl, hc1, hc2, hl1, hl2⟩ := M.own.pos (by omega)
  have hB := M.blk
  have hch := own_cell hl2 (ndcs_get M.a4 hnd (ndc_h nd))
  have hhd := wfh_hd wf hnd
  refine ret_of Tryz.func123 rfl Tryz.ntmps123 rfl ?_
  refine c_seq (fun K1 hK1 => ?_)
  refine c_reg ?_ -- region 0 heapm.go:203
  refine wl (ro_assign rfl) ?_
  refine wl (ro_assign rfl) ?_
  refine wl_nil (x_then (hK1 _ _ ?_))
  clear hK1 K1
  refine forget [(0, _), (1, _), (2, _), (3, _)] ⟨rfl, rfl, rfl, rfl, trivial⟩ (fun e => ?_)
  refine c_seq (fun K2 hK2 => ?_)
  refine c_reg ?_ -- region 1 heapm.go:204
  refine wl (ro_move rfl) ?_
  refine wl (ro_arith rfl rfl rfl (Go.IntWalk.i64_in _ (by omega))) ?_
  refine wl (ro_assign rfl) ?_
  refine wl_nil (x_then (hK2 _ _ ?_))
  clear hK2 K2
  refine c_seq (fun K3 hK3 => ?_)
  refine c_seq (fun K4 hK4 => ?_)
  refine c_reg ?_ -- region 2 heapm.go:205
  refine wl (ro_move rfl) ?_
  refine wl (ro_cmp rfl rfl rfl) ?_
  refine wl_nil (x_then (hK4 _ _ ?_))
  clear hK4 K4
  refine wc_cond rfl (fun hc15 => ?_) (fun hc15 => ?_)
  · try simp only [decide_eq_true_eq, decide_eq_false_iff_not, Bool.not_eq_true', Bool.not_eq_false', Bool.not_eq_eq_eq_not, Bool.not_true, Bool.not_false, beq_iff_eq, bne_iff_ne, ne_eq, beq_eq_false_iff_ne, bne_eq_false_iff_eq, gt_iff_lt, ge_iff_le, Int.not_lt, Int.not_le] at hc15
    have hn40 : n = 40 := by omega
    refine c_seq (fun K5 hK5 => ?_)
    refine c_reg ?_ -- region 3 heapm.go:206
    refine wl (ro_move rfl) ?_
    refine wl (ro_assign rfl) ?_
    refine wl (ro_assign rfl) ?_
    refine wl_nil (x_then (hK5 _ _ ?_))
    clear hK5 K5
    refine c_ret (x_thenR ?_)
    refine bp_ret Tryz.results123 rfl ?_
    refine ⟨⟨41, 8, by rw [hn40]; rfl, by omega, by omega, by omega, ?_⟩, rfl⟩
    intro st
    rw [hn40, occS_big]; rfl
  · try simp only [decide_eq_true_eq, decide_eq_false_iff_not, Bool.not_eq_true', Bool.not_eq_false', Bool.not_eq_eq_eq_not, Bool.not_true, Bool.not_false, beq_iff_eq, bne_iff_ne, ne_eq, beq_eq_false_iff_ne, bne_eq_false_iff_eq, gt_iff_lt, ge_iff_le, Int.not_lt, Int.not_le] at hc15
    have hn40 : n < 40 := by omega
    simp only [show ¬ 40 < n + 1 by omega, if_false] at hcons
    refine c_skip (x_then (hK3 _ _ ?_))
    clear hK3 K3
    refine forget [(0, _), (1, _), (2, _), (3, _)] ⟨rfl, rfl, rfl, rfl, trivial⟩ (fun e => ?_)
    refine c_seq (fun K6 hK6 => ?_)
    refine c_reg ?_ -- region 4 heapm.go:208
    refine wl (ro_move rfl) ?_
    refine wl (ro_move rfl) ?_
    refine wl_call rfl en_105 (Deref105 M wf ht h64) ?_
    rintro _ w ⟨rfl, rfl⟩
    generalize deref hp t = x at *
    refine wl (ro_assign rfl) ?_
    refine wl_nil (x_then (hK6 _ _ ?_))
    clear hK6 K6
    refine c_seq (fun K7 hK7 => ?_)
    refine c_seq (fun K8 hK8 => ?_)
    refine c_reg ?_ -- region 5 heapm.go:209
    refine wl (ro_move rfl) ?_
    refine wl (ro_move rfl) ?_
    refine wl (ro_cmp (r := decide (x = v)) rfl rfl (congrArg some (beqc _ _))) ?_
    refine wl_nil (x_then (hK8 _ _ ?_))
    clear hK8 K8
    refine wc_cond rfl (fun hc22 => ?_) (fun hc22 => ?_)
    · try simp only [decide_eq_true_eq, decide_eq_false_iff_not, Bool.not_eq_true', Bool.not_eq_false', Bool.not_eq_eq_eq_not, Bool.not_true, Bool.not_false, beq_iff_eq, bne_iff_ne, ne_eq, beq_eq_false_iff_ne, bne_eq_false_iff_eq, gt_iff_lt, ge_iff_le, Int.not_lt, Int.not_le] at hc22
      have hxv : x = v := by simpa using hc22
      refine c_seq (fun K9 hK9 => ?_)
      refine c_reg ?_ -- region 6 heapm.go:210
      refine wl (ro_move rfl) ?_
      refine wl (ro_assign rfl) ?_
      refine wl (ro_assign rfl) ?_
      refine wl_nil (x_then (hK9 _ _ ?_))
      clear hK9 K9
      refine c_ret (x_thenR ?_)
      refine bp_ret Tryz.results123 rfl ?_
      refine ⟨⟨n + 1, 7, rfl, by omega, by omega, by omega, ?_⟩, rfl⟩
      intro st
      rw [hcons st, if_pos hxv]; rfl
    · try simp only [decide_eq_true_eq, decide_eq_false_iff_not, Bool.not_eq_true', Bool.not_eq_false', Bool.not_eq_eq_eq_not, Bool.not_true, Bool.not_false, beq_iff_eq, bne_iff_ne, ne_eq, beq_eq_false_iff_ne, bne_eq_false_iff_eq, gt_iff_lt, ge_iff_le, Int.not_lt, Int.not_le] at hc22
      have hxv : ¬ x = v := by simpa using hc22
      simp only [hxv, if_false] at hcons
      generalize hks : kidsOf hp x = ks at *
      refine c_skip (x_then (hK7 _ _ ?_))
      clear hK7 K7
      refine forget [(0, _), (1, _), (2, _), (3, _)] ⟨rfl, rfl, rfl, rfl, trivial⟩ (fun e => ?_)
      refine c_seq (fun K10 hK10 => ?_)
      refine c_reg ?_ -- region 7 heapm.go:212
      refine wl (ro_assign rfl) ?_
      refine wl_nil (x_then (hK10 _ _ ?_))
      clear hK10 K10
      refine c_seq (fun K11 hK11 => ?_)
      refine c_seq (fun K12 hK12 => ?_)
      refine c_reg ?_ -- region 8 heapm.go:213
      refine wl (ro_assign rfl) ?_
      refine wl_nil (x_then (hK12 _ _ ?_))
      clear hK12 K12
      refine c_block ?_
      -- loop@r9: live slots [0, 1, 2, 3, 10, 11]
      refine c_loopG (fun q a' w' => ∃ i m e, q = ks.length - i ∧ i ≤ ks.length ∧ n < m ∧ m ≤ 41 ∧ (e = 0 → m ≤ 40) ∧ (∀ st, occS hp v (t :: st) n = if e = 0 then occS hp v (ks.drop i ++ st) m else (m, e)) ∧ w' = w ∧ ∃ e', a' = Fr 60 (upds e' [(0, ptr hb), (1, i64c v), (2, i64c x), (3, i64c m), (10, i64c e), (11, i64c i)]) []) ks.length ⟨0, n + 1, 0, rfl, by omega, by omega, by omega, by omega, fun st => by rw [hcons st]; rfl, rfl, kp _ ⟨rfl, rfl, rfl, rfl, rfl, rfl, trivial⟩⟩ ?_
      rintro q a' w' ⟨i, m, ec, rfl, hi, hm1, hm2, hm3, hinv, rfl, e', rfl⟩
      refine c_seq (fun K13 hK13 => ?_)
      refine c_seq (fun K14 hK14 => ?_)
      by_cases hia : i < ks.length
      · skip
        refine c_reg ?_ -- region 9 heapm.go:213
        refine wl (ro_move rfl) ?_
        refine wl (ro_move rfl) ?_
        refine wl (ro_nilCheck rfl) ?_
        refine wl (ro_fieldAddr (k := 0) rfl fo_121_0) ?_
        refine wl (ro_loadB rfl sc_118 (by assumption) rfl) ?_
        refine wl (ro_move rfl) ?_
        refine wl (ro_indexAddr (et := 184) (k := 6) rfl rfl se_118 rfl (hdl)) ?_
        refine wl (ro_fieldAddr (k := 0) rfl fo_184_0) ?_
        refine wl (ro_loadB rfl sc_9 (hBl) ((by rw [show 0 + x * 6 + 0 = x * 6 + 0 by omega]; exact hch))) ?_
        refine wl_call rfl en_104 (arity104 hhd) ?_
        rintro _ w ⟨rfl, rfl⟩
        refine wl (ro_cmp (r := true) rfl rfl (by simp; omega)) ?_
        refine wl (ro_move rfl) ?_
        refine wlg_yes rfl (ro_move rfl) ?_
        refine wlg_yes rfl (ro_cmp (r := decide (ec = 0)) rfl rfl (congrArg some (beqc ec 0))) ?_
        refine wl (ro_pick rfl rfl rfl) ?_
        refine wl_nil (x_then (hK14 _ _ ?_))
        clear hK14 K14
        refine wc_cond rfl (fun hc38 => ?_) (fun hc38 => ?_)
        · try simp only [decide_eq_true_eq, decide_eq_false_iff_not, Bool.not_eq_true', Bool.not_eq_false', Bool.not_eq_eq_eq_not, Bool.not_true, Bool.not_false, beq_iff_eq, bne_iff_ne, ne_eq, beq_eq_false_iff_ne, bne_eq_false_iff_eq, gt_iff_lt, ge_iff_le, Int.not_lt, Int.not_le] at hc38
          have he : ec = 0 := by simpa using hc38
          subst he
          have hm40 := hm3 rfl
          obtain ⟨z, hz⟩ : ∃ z, ks[i]? = some z := ⟨_, List.getElem?_eq_getElem hia⟩
          have hza : nd.a[i]? = some z := by rw [hk3 i (by omega)]; exact hz
          have hca := own_cell hl2 (ndcs_get M.a4 hnd (ndc_a hza))
          have hdi : ks.drop i = z :: ks.drop (i + 1) := by
            rw [List.drop_eq_getElem_cons hia, (List.getElem?_eq_some_iff.1 hz).2]
          refine c_skip (x_then (hK13 _ _ ?_))
          clear hK13 K13
          refine forget [(0, _), (1, _), (2, _), (3, _), (11, _), (36, _), (37, _)] ⟨rfl, rfl, rfl, rfl, rfl, rfl, rfl, trivial⟩ (fun e => ?_)
          refine c_seq (fun K15 hK15 => ?_)
          refine c_block ?_
          refine c_reg ?_ -- region 11 heapm.go:214
          refine wl (ro_move rfl) ?_
          refine wl (ro_move rfl) ?_
          refine wl (ro_move rfl) ?_
          refine wl (ro_nilCheck rfl) ?_
          refine wl (ro_fieldAddr (k := 0) rfl fo_121_0) ?_
          refine wl (ro_loadB rfl sc_118 (by assumption) rfl) ?_
          refine wl (ro_move rfl) ?_
          refine wl (ro_move rfl) ?_
          refine wl (ro_indexAddr (et := 184) (k := 6) rfl rfl se_118 rfl (hdl)) ?_
          refine wl (ro_fieldAddr (k := 2) rfl fo_184_2) ?_
          refine wl (ro_indexAddrA (et := 3) (k := 1) rfl rfl ar_182 rfl ((by omega))) ?_
          refine wl (ro_loadB rfl sc_3 (hBl) ((by rw [show 0 + x * 6 + 2 + i * 1 = x * 6 + (2 + i) by omega]; exact hca))) ?_
          refine wl (ro_move rfl) ?_
          refine wl_call rfl en_123 (IH m z _ M (by omega) (by omega) (hkb z (List.mem_of_getElem? hz))) ?_
          rintro _ w ⟨⟨m2, e2, rfl, g1, g2, g3, g4⟩, rfl⟩
          refine wl (ro_move rfl) ?_
          refine wl (ro_extract rfl rfl) ?_
          refine wl (ro_extract rfl rfl) ?_
          refine wl (ro_assign rfl) ?_
          refine wl (ro_assign rfl) ?_
          refine wl_nil (x_blk (x_then (hK15 _ _ ?_)))
          clear hK15 K15
          refine c_reg ?_ -- region 10 heapm.go:213
          refine wl (ro_move rfl) ?_
          refine wl (ro_arith rfl rfl rfl (Go.IntWalk.i64_in _ (by omega))) ?_
          refine wl (ro_assign rfl) ?_
          refine wl_nil (x_then ?_)
          refine ⟨ks.length - (i + 1), by omega, i + 1, m2, e2, rfl, by omega, by omega, g2, g3, ?_, rfl, kp _ ⟨rfl, rfl, rfl, rfl, rfl, rfl, trivial⟩⟩
          intro st
          rw [hinv st, if_pos rfl, hdi, List.cons_append]
          exact g4 _
        · try simp only [decide_eq_true_eq, decide_eq_false_iff_not, Bool.not_eq_true', Bool.not_eq_false', Bool.not_eq_eq_eq_not, Bool.not_true, Bool.not_false, beq_iff_eq, bne_iff_ne, ne_eq, beq_eq_false_iff_ne, bne_eq_false_iff_eq, gt_iff_lt, ge_iff_le, Int.not_lt, Int.not_le] at hc38
          have he : ¬ ec = 0 := by simpa using hc38
          refine c_exit (x_thenX (x_thenX (x_blkX (x_then (hK11 _ _ ?_)))))
          clear hK13 K13 hK11 K11
          refine forget [(3, _), (10, _)] ⟨rfl, rfl, trivial⟩ (fun e => ?_)
          refine c_seq (fun K16 hK16 => ?_)
          refine c_reg ?_ -- region 12 heapm.go:216
          refine wl (ro_move rfl) ?_
          refine wl (ro_move rfl) ?_
          refine wl (ro_assign rfl) ?_
          refine wl (ro_assign rfl) ?_
          refine wl_nil (x_then (hK16 _ _ ?_))
          clear hK16 K16
          refine c_ret ?_
          refine bp_ret Tryz.results123 rfl ?_
          refine ⟨⟨m, ec, rfl, hm1, hm2, hm3, ?_⟩, rfl⟩
          intro st
          rw [hinv st, if_neg he, if_neg he]
      · skip
        refine c_reg ?_ -- region 9 heapm.go:213
        refine wl (ro_move rfl) ?_
        refine wl (ro_move rfl) ?_
        refine wl (ro_nilCheck rfl) ?_
        refine wl (ro_fieldAddr (k := 0) rfl fo_121_0) ?_
        refine wl (ro_loadB rfl sc_118 (by assumption) rfl) ?_
        refine wl (ro_move rfl) ?_
        refine wl (ro_indexAddr (et := 184) (k := 6) rfl rfl se_118 rfl (hdl)) ?_
        refine wl (ro_fieldAddr (k := 0) rfl fo_184_0) ?_
        refine wl (ro_loadB rfl sc_9 (hBl) ((by rw [show 0 + x * 6 + 0 = x * 6 + 0 by omega]; exact hch))) ?_
        refine wl_call rfl en_104 (arity104 hhd) ?_
        rintro _ w ⟨rfl, rfl⟩
        refine wl (ro_cmp (r := false) rfl rfl (by simp; omega)) ?_
        refine wl (ro_move rfl) ?_
        refine wlg_no rfl ?_
        refine wlg_no rfl ?_
        refine wl (ro_pick rfl rfl rfl) ?_
        refine wl_nil (x_then (hK14 _ _ ?_))
        clear hK14 K14
        refine wc_condF rfl ?_
        refine c_exit (x_thenX (x_thenX (x_blkX (x_then (hK11 _ _ ?_)))))
        clear hK13 K13 hK11 K11
        refine forget [(3, _), (10, _)] ⟨rfl, rfl, trivial⟩ (fun e => ?_)
        refine c_seq (fun K17 hK17 => ?_)
        refine c_reg ?_ -- region 12 heapm.go:216
        refine wl (ro_move rfl) ?_
        refine wl (ro_move rfl) ?_
        refine wl (ro_assign rfl) ?_
        refine wl (ro_assign rfl) ?_
        refine wl_nil (x_then (hK17 _ _ ?_))
        clear hK17 K17
        refine c_ret ?_
        refine bp_ret Tryz.results123 rfl ?_
        refine ⟨⟨m, ec, rfl, hm1, hm2, hm3, ?_⟩, rfl⟩
        intro st
        rw [hinv st, List.drop_of_length_le (by omega)]; rfl

end Go.Proofs.Qxb6500569aGreat
