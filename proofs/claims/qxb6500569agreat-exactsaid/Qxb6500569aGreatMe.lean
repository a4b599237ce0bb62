import Derived.Test.Qxb6500569aGreatMd
/- The model heap: codes, the count, the building. -/
namespace Go.Proofs.Qxb6500569aGreat
set_option linter.unusedVariables false
set_option linter.unusedSimpArgs false

theorem isVar103 {w : World} (c : UInt8) : Ret Tryz.prog 103 [u8c c] w (fun r w' => r = .bool (isV c) ∧ w' = w) := by
  by_cases h : 65 ≤ c.toNat
  · skip
    refine ret_of Tryz.func103 rfl Tryz.ntmps103 rfl ?_
    refine c_seq (fun K1 hK1 => ?_)
    refine c_reg ?_ -- region 0 heapm.go:72
    refine wl (ro_assign rfl) ?_
    refine wl_nil (x_then (hK1 _ _ ?_))
    clear hK1 K1
    refine forget [(0, _)] ⟨rfl, trivial⟩ (fun e => ?_)
    refine c_seq (fun K2 hK2 => ?_)
    refine c_reg ?_ -- region 1 heapm.go:72
    refine wl (ro_move rfl) ?_
    refine wl (ro_cmp (r := true) rfl rfl (by simp; omega)) ?_
    refine wl (ro_move rfl) ?_
    refine wlg_yes rfl (ro_move rfl) ?_
    refine wlg_yes rfl (ro_cmp rfl rfl rfl) ?_
    refine wl (ro_pick rfl rfl rfl) ?_
    refine wl (ro_assign rfl) ?_
    refine wl_nil (x_then (hK2 _ _ ?_))
    clear hK2 K2
    refine c_ret ?_
    refine bp_ret Tryz.results103 rfl ?_
    refine ⟨?_, rfl⟩
    simp only [isV, h, decide_true, Bool.true_and]
    congr 1
    simp
    omega
  · skip
    refine ret_of Tryz.func103 rfl Tryz.ntmps103 rfl ?_
    refine c_seq (fun K1 hK1 => ?_)
    refine c_reg ?_ -- region 0 heapm.go:72
    refine wl (ro_assign rfl) ?_
    refine wl_nil (x_then (hK1 _ _ ?_))
    clear hK1 K1
    refine forget [(0, _)] ⟨rfl, trivial⟩ (fun e => ?_)
    refine c_seq (fun K2 hK2 => ?_)
    refine c_reg ?_ -- region 1 heapm.go:72
    refine wl (ro_move rfl) ?_
    refine wl (ro_cmp (r := false) rfl rfl (by simp; omega)) ?_
    refine wl (ro_move rfl) ?_
    refine wlg_no rfl ?_
    refine wlg_no rfl ?_
    refine wl (ro_pick rfl rfl rfl) ?_
    refine wl (ro_assign rfl) ?_
    refine wl_nil (x_then (hK2 _ _ ?_))
    clear hK2 K2
    refine c_ret ?_
    refine bp_ret Tryz.results103 rfl ?_
    exact ⟨by simp [isV, h], rfl⟩

theorem isF_cases {c : UInt8} (h : isF c = true) : (97 ≤ c.toNat ∧ c.toNat ≤ 122) ∨ c.toNat = 33 ∨ c.toNat = 58 ∨ c.toNat = 63 := by
  simp only [isF, Bool.or_eq_true, Bool.and_eq_true, decide_eq_true_eq] at h
  rcases h with ((h | h) | h) | h
  · exact .inl h
  · exact .inr (.inl h)
  · exact .inr (.inr (.inl h))
  · exact .inr (.inr (.inr h))

def snR (l : List Value) (env : List (Option Nat)) : Prop := l.length = 6 ∧ ∀ k : Nat, k < 6 → l[k]? = some (.bool (env.getD k none).isSome)

theorem snR_set {l : List Value} {env : List (Option Nat)} (h : snR l env) {k b : Nat} (hk : k < 6) (he : env.length = 6) : snR (l.set k (.bool true)) (env.set k (some b)) := by
  refine ⟨by simpa using h.1, fun j hj => ?_⟩
  rw [List.getD_eq_getElem?_getD, List.getElem?_set, List.getElem?_set]
  by_cases hjk : k = j
  · subst hjk; simp [he, hk, h.1]
  · simp only [hjk, if_false]
    rw [h.2 j hj, List.getD_eq_getElem?_getD]

theorem snR_same {l : List Value} {env : List (Option Nat)} (h : snR l env) {k a : Nat} (hk : k < 6) (ha : env.getD k none = some a) : snR (l.set k (.bool true)) env := by
  refine ⟨by simpa using h.1, fun j hj => ?_⟩
  rw [List.getElem?_set]
  by_cases hjk : k = j
  · subst hjk; rw [ha]; simp [hk, h.1]
  · simp only [hjk, if_false]
    exact h.2 j hj

set_option maxHeartbeats 800000 in
theorem need60 {w : World} {code : List UInt8} {b : Nat} {ns : List Nd} (hl : Lays code b ns) (hc : code.length ≤ 48) : Ret Tryz.prog 60 [S code] w (fun r w' => r = i64c ns.length ∧ Fram none' w w') := by
  obtain ⟨k0, env9, hld⟩ := hl
  have hns := (hld.facts (envLt0 b)).2.2.2.2.2
  simp only [List.length_nil, Nat.add_zero] at hns
  refine ret_of Tryz.func60 rfl Tryz.ntmps60 rfl ?_
  refine c_seq (fun K1 hK1 => ?_)
  refine c_reg ?_ -- region 0 heapm.go:75
  refine wl (ro_assign rfl) ?_
  refine wl_nil (x_then (hK1 _ _ ?_))
  clear hK1 K1
  refine forget [(0, _)] ⟨rfl, trivial⟩ (fun e => ?_)
  refine c_seq (fun K2 hK2 => ?_)
  refine c_reg ?_ -- region 1 heapm.go:76
  refine wle (eo_alloc ze_181) ?_
  refine wl_nil (x_then (hK2 _ _ ?_))
  clear hK2 K2
  refine forget [(0, _), (3, _)] ⟨rfl, rfl, trivial⟩ (fun e => ?_)
  refine c_seq (fun K3 hK3 => ?_)
  refine c_reg ?_ -- region 2 heapm.go:77
  refine wl (ro_assign rfl) ?_
  refine wl (ro_assign rfl) ?_
  refine wl (ro_assign rfl) ?_
  refine wl_nil (x_then (hK3 _ _ ?_))
  clear hK3 K3
  refine forget [(0, _), (3, _), (4, _), (5, _), (6, _)] ⟨rfl, rfl, rfl, rfl, rfl, trivial⟩ (fun e => ?_)
  refine c_seq (fun K4 hK4 => ?_)
  refine c_block ?_
  -- loop@r3: live slots [0, 3, 4, 5, 6]
  refine c_loopG (fun m a' w' => ∃ want p nn l env b ks env' ns', m = (code.drop p).length ∧ Ld want (code.drop p) env b ks [] env' ns' ∧ envLt env b ∧ env.length = 6 ∧ nn + ns'.length = ns.length ∧ snR l env ∧ p ≤ code.length ∧ Blk w'.heap w.heap.size l 181 ∧ Fram none' w w' ∧ ∃ e, a' = Fr 88 (upds e [(0, S code), (3, ptr w.heap.size), (4, i64c want), (5, i64c p), (6, i64c nn)]) []) code.length ⟨1, 0, 0, _, env0, b, _, _, ns, rfl, hld, envLt0 b, rfl, by simp, ⟨rfl, fun k hk => by match k, hk with | 0, _ | 1, _ | 2, _ | 3, _ | 4, _ | 5, _ => rfl⟩, by omega, Blk.new w _ _, Fram.alloc _ _ _, kp _ ⟨rfl, rfl, rfl, rfl, rfl, trivial⟩⟩ ?_
  rintro m a' w1 ⟨want, p, nn, l, env, b, ks, env', ns', rfl, hL, hE, hEl, hn, hs, hp, hB, hF0, e, rfl⟩
  obtain ⟨f1, f2, f3, f4, f5, f6⟩ := hL.facts hE
  have hdl : (code.drop p).length = code.length - p := by simp
  refine c_seq (fun K5 hK5 => ?_)
  refine c_seq (fun K6 hK6 => ?_)
  refine c_reg ?_ -- region 3 heapm.go:78
  refine wl (ro_move rfl) ?_
  refine wl (ro_cmp rfl rfl rfl) ?_
  refine wl_nil (x_then (hK6 _ _ ?_))
  clear hK6 K6
  refine wc_cond rfl (fun hc9 => ?_) (fun hc9 => ?_)
  · try simp only [decide_eq_true_eq, decide_eq_false_iff_not, Bool.not_eq_true', Bool.not_eq_false', Bool.not_eq_eq_eq_not, Bool.not_true, Bool.not_false, beq_iff_eq, bne_iff_ne, ne_eq, beq_eq_false_iff_ne, bne_eq_false_iff_eq, gt_iff_lt, ge_iff_le, Int.not_lt, Int.not_le] at hc9
    obtain ⟨want, rfl⟩ : ∃ k, want = k + 1 := ⟨want - 1, by omega⟩
    obtain ⟨c, rest, hrest⟩ := hL.ne
    obtain ⟨hcp, hdr, hpl⟩ := drop_cons hrest
    rw [hrest] at hL
    refine c_skip (x_then (hK5 _ _ ?_))
    clear hK5 K5
    refine c_block ?_
    refine c_seq (fun K7 hK7 => ?_)
    refine c_seq (fun K8 hK8 => ?_)
    refine c_reg ?_ -- region 4 heapm.go:79
    refine wl (ro_move rfl) ?_
    refine wl (ro_move rfl) ?_
    refine wl (ro_lenS rfl st_9) ?_
    refine wl (ro_cmp (r := false) rfl rfl (by simp; omega)) ?_
    refine wl_nil (x_then (hK8 _ _ ?_))
    clear hK8 K8
    refine wc_condF rfl ?_
    refine c_skip (x_then (hK7 _ _ ?_))
    clear hK7 K7
    refine forget [(0, _), (3, _), (4, _), (5, _), (6, _)] ⟨rfl, rfl, rfl, rfl, rfl, trivial⟩ (fun e => ?_)
    refine c_seq (fun K9 hK9 => ?_)
    refine c_reg ?_ -- region 6 heapm.go:82
    refine wl (ro_move rfl) ?_
    refine wl (ro_move rfl) ?_
    refine wl (ro_indexS rfl rfl st_9 rfl (hcp)) ?_
    refine wl (ro_assign rfl) ?_
    refine wl_nil (x_then (hK9 _ _ ?_))
    clear hK9 K9
    refine c_seq (fun K10 hK10 => ?_)
    refine c_seq (fun K11 hK11 => ?_)
    refine c_reg ?_ -- region 7 heapm.go:83
    refine wl (ro_move rfl) ?_
    refine wl_call rfl en_103 (isVar103 c) ?_
    rintro _ w1 ⟨rfl, rfl⟩
    refine wl_nil (x_then (hK11 _ _ ?_))
    clear hK11 K11
    refine wc_cond rfl (fun hc18 => ?_) (fun hc18 => ?_)
    · try simp only [decide_eq_true_eq, decide_eq_false_iff_not, Bool.not_eq_true', Bool.not_eq_false', Bool.not_eq_eq_eq_not, Bool.not_true, Bool.not_false, beq_iff_eq, bne_iff_ne, ne_eq, beq_eq_false_iff_ne, bne_eq_false_iff_eq, gt_iff_lt, ge_iff_le, Int.not_lt, Int.not_le] at hc18
      have hvr : 65 ≤ c.toNat ∧ c.toNat < 71 := by simpa [isV] using hc18
      obtain ⟨v, hv⟩ : ∃ v, v = c.toNat - 65 := ⟨_, rfl⟩
      have hv6 : v < 6 := by omega
      have hcase := hL.var hc18
      rw [← hv] at hcase
      refine c_seq (fun K12 hK12 => ?_)
      refine c_seq (fun K13 hK13 => ?_)
      refine c_reg ?_ -- region 8 heapm.go:84
      refine wl (ro_move rfl) ?_
      refine wl (ro_arith rfl rfl rfl (Go.IntWalk.u8_in _ (by omega))) ?_
      refine wl (ro_indexAddrA (et := 4) (k := 1) rfl rfl ar_181 ((by show (_ : Int) = ((v : Nat) : Int); omega)) (hv6)) ?_
      refine wl (ro_loadB rfl sc_4 (hB) ((by rw [Nat.zero_add, Nat.mul_one]; exact hs.2 v hv6))) ?_
      refine wl (ro_not rfl) ?_
      refine wl_nil (x_then (hK13 _ _ ?_))
      clear hK13 K13
      refine wc_cond rfl (fun hc23 => ?_) (fun hc23 => ?_)
      · try simp only [decide_eq_true_eq, decide_eq_false_iff_not, Bool.not_eq_true', Bool.not_eq_false', Bool.not_eq_eq_eq_not, Bool.not_true, Bool.not_false, beq_iff_eq, bne_iff_ne, ne_eq, beq_eq_false_iff_ne, bne_eq_false_iff_eq, gt_iff_lt, ge_iff_le, Int.not_lt, Int.not_le] at hc23
        have hnone : env.getD v none = none := by cases hx : env.getD v none with | none => rfl | some a => rw [hx] at hc23; cases hc23
        have hcase : ∃ ks' ns1, ks = b :: ks' ∧ ns' = vnd b :: ns1 ∧ Ld want rest (env.set v (some b)) (b + 1) ks' [] env' ns1 := by
          rcases hcase with ⟨a, ks1, ha, _⟩ | ⟨ks1, ns1, ha, h1, h2, h3⟩
          · rw [hnone] at ha; cases ha
          · exact ⟨ks1, ns1, h1, h2, h3⟩
        obtain ⟨ks1, ns1, rfl, rfl, hL1⟩ := hcase
        refine c_reg ?_ -- region 9 heapm.go:85
        refine wl (ro_move rfl) ?_
        refine wl (ro_arith rfl rfl rfl (Go.IntWalk.i64_in _ (by omega))) ?_
        refine wl (ro_assign rfl) ?_
        refine wl_nil (x_then (hK12 _ _ ?_))
        clear hK12 K12
        refine forget [(0, _), (3, _), (4, _), (5, _), (6, _), (7, _)] ⟨rfl, rfl, rfl, rfl, rfl, rfl, trivial⟩ (fun e => ?_)
        refine c_seq (fun K14 hK14 => ?_)
        refine c_reg ?_ -- region 10 heapm.go:87
        refine wl (ro_move rfl) ?_
        refine wl (ro_arith rfl rfl rfl (Go.IntWalk.u8_in _ (by omega))) ?_
        refine wl (ro_indexAddrA (et := 4) (k := 1) rfl rfl ar_181 ((by show (_ : Int) = ((v : Nat) : Int); omega)) (hv6)) ?_
        refine wls (so_storeB rfl rfl rfl sz_4 (hB) (by rw [hs.1]; omega)) ?_
        refine wl_nil (x_then (hK14 _ _ ?_))
        clear hK14 K14
        refine forget [(0, _), (3, _), (4, _), (5, _), (6, _)] ⟨rfl, rfl, rfl, rfl, rfl, trivial⟩ (fun e => ?_)
        refine c_seq (fun K15 hK15 => ?_)
        refine c_reg ?_ -- region 11 heapm.go:88
        refine wl (ro_move rfl) ?_
        refine wl (ro_arith rfl rfl rfl (Go.IntWalk.i64_in _ (by omega))) ?_
        refine wl (ro_assign rfl) ?_
        refine wl_nil (x_then (hK15 _ _ ?_))
        clear hK15 K15
        refine forget [(0, _), (3, _), (4, _), (5, _), (6, _)] ⟨rfl, rfl, rfl, rfl, rfl, trivial⟩ (fun e => ?_)
        refine c_seq (fun K16 hK16 => ?_)
        refine c_reg ?_ -- region 12 heapm.go:89
        refine wl (ro_move rfl) ?_
        refine wl (ro_arith rfl rfl rfl (Go.IntWalk.i64_in _ (by omega))) ?_
        refine wl (ro_assign rfl) ?_
        refine wl_nil (x_then (hK16 _ _ ?_))
        clear hK16 K16
        refine c_exit (x_thenX (x_blkX (x_then ?_)))
        refine ⟨rest.length, by rw [hrest]; simp, want, p + 1, nn + 1, l.set v (.bool true), env.set v (some b), b + 1, ks1, env', ns1, by rw [hdr], by rw [hdr]; exact hL1, envLt_set hE, by simpa using hEl, by simp at hn; omega, snR_set hs hv6 hEl, by omega, ?_, hF0.thenSet (.inr (Nat.le_refl _)), kp _ ⟨rfl, rfl, ?_, rfl, rfl, trivial⟩⟩
        · have := hB.set (l.set (0 + v * 1) (.bool true))
          rw [Nat.zero_add, Nat.mul_one] at this ⊢
          exact this
        · show some (Value.int .i64 (((want + 1 : Nat) : Int) - 1)) = some (.int .i64 (want : Int))
          congr 2; omega
      · try simp only [decide_eq_true_eq, decide_eq_false_iff_not, Bool.not_eq_true', Bool.not_eq_false', Bool.not_eq_eq_eq_not, Bool.not_true, Bool.not_false, beq_iff_eq, bne_iff_ne, ne_eq, beq_eq_false_iff_ne, bne_eq_false_iff_eq, gt_iff_lt, ge_iff_le, Int.not_lt, Int.not_le] at hc23
        have hsome : ∃ a, env.getD v none = some a := by cases hx : env.getD v none with | none => rw [hx] at hc23; cases hc23 | some a => exact ⟨a, rfl⟩
        obtain ⟨a, ha⟩ := hsome
        have hcase : ∃ ks', Ld want rest env b ks' [] env' ns' := by
          rcases hcase with ⟨a, ks1, _, _, h3⟩ | ⟨ks1, ns1, hx, _⟩
          · exact ⟨ks1, h3⟩
          · rw [ha] at hx; cases hx
        obtain ⟨ks1, hL1⟩ := hcase
        refine c_skip (x_then (hK12 _ _ ?_))
        clear hK12 K12
        refine forget [(0, _), (3, _), (4, _), (5, _), (6, _), (7, _)] ⟨rfl, rfl, rfl, rfl, rfl, rfl, trivial⟩ (fun e => ?_)
        refine c_seq (fun K17 hK17 => ?_)
        refine c_reg ?_ -- region 10 heapm.go:87
        refine wl (ro_move rfl) ?_
        refine wl (ro_arith rfl rfl rfl (Go.IntWalk.u8_in _ (by omega))) ?_
        refine wl (ro_indexAddrA (et := 4) (k := 1) rfl rfl ar_181 ((by show (_ : Int) = ((v : Nat) : Int); omega)) (hv6)) ?_
        refine wls (so_storeB rfl rfl rfl sz_4 (hB) (by rw [hs.1]; omega)) ?_
        refine wl_nil (x_then (hK17 _ _ ?_))
        clear hK17 K17
        refine forget [(0, _), (3, _), (4, _), (5, _), (6, _)] ⟨rfl, rfl, rfl, rfl, rfl, trivial⟩ (fun e => ?_)
        refine c_seq (fun K18 hK18 => ?_)
        refine c_reg ?_ -- region 11 heapm.go:88
        refine wl (ro_move rfl) ?_
        refine wl (ro_arith rfl rfl rfl (Go.IntWalk.i64_in _ (by omega))) ?_
        refine wl (ro_assign rfl) ?_
        refine wl_nil (x_then (hK18 _ _ ?_))
        clear hK18 K18
        refine forget [(0, _), (3, _), (4, _), (5, _), (6, _)] ⟨rfl, rfl, rfl, rfl, rfl, trivial⟩ (fun e => ?_)
        refine c_seq (fun K19 hK19 => ?_)
        refine c_reg ?_ -- region 12 heapm.go:89
        refine wl (ro_move rfl) ?_
        refine wl (ro_arith rfl rfl rfl (Go.IntWalk.i64_in _ (by omega))) ?_
        refine wl (ro_assign rfl) ?_
        refine wl_nil (x_then (hK19 _ _ ?_))
        clear hK19 K19
        refine c_exit (x_thenX (x_blkX (x_then ?_)))
        refine ⟨rest.length, by rw [hrest]; simp, want, p + 1, nn, l.set v (.bool true), env, b, ks1, env', ns', by rw [hdr], by rw [hdr]; exact hL1, hE, hEl, hn, snR_same hs hv6 ha, by omega, ?_, hF0.thenSet (.inr (Nat.le_refl _)), kp _ ⟨rfl, rfl, ?_, rfl, rfl, trivial⟩⟩
        · have := hB.set (l.set (0 + v * 1) (.bool true))
          rw [Nat.zero_add, Nat.mul_one] at this ⊢
          exact this
        · show some (Value.int .i64 (((want + 1 : Nat) : Int) - 1)) = some (.int .i64 (want : Int))
          congr 2; omega
    · try simp only [decide_eq_true_eq, decide_eq_false_iff_not, Bool.not_eq_true', Bool.not_eq_false', Bool.not_eq_eq_eq_not, Bool.not_true, Bool.not_false, beq_iff_eq, bne_iff_ne, ne_eq, beq_eq_false_iff_ne, bne_eq_false_iff_eq, gt_iff_lt, ge_iff_le, Int.not_lt, Int.not_le] at hc18
      obtain ⟨d, code1, ks1, r1, env1, ns1, ks2, ns2, hF, rfl, hD, hL1, hL2, rfl, rfl⟩ := hL.str hc18
      obtain ⟨hdp, hdr2, hpl2⟩ := drop_cons hdr
      have hdd : 48 ≤ d.toNat ∧ d.toNat ≤ 52 := by simpa [isD] using hD
      have hLL := hL1.append hL2
      refine c_skip (x_then (hK10 _ _ ?_))
      clear hK10 K10
      refine c_seq (fun K20 hK20 => ?_)
      refine c_seq (fun K21 hK21 => ?_)
      rcases isF_cases hF with hf | hf | hf | hf
      · skip
        refine c_reg ?_ -- region 13 heapm.go:92
        refine wl (ro_move rfl) ?_
        refine wl (ro_cmp (r := false) rfl rfl (by simp; omega)) ?_
        refine wl (ro_move rfl) ?_
        refine wlg_yes rfl (ro_move rfl) ?_
        refine wlg_yes rfl (ro_cmp (r := false) rfl rfl (by simp; omega)) ?_
        refine wl (ro_pick rfl rfl rfl) ?_
        refine wl (ro_move rfl) ?_
        refine wlg_no rfl ?_
        refine wlg_no rfl ?_
        refine wl (ro_pick rfl rfl rfl) ?_
        refine wl (ro_move rfl) ?_
        refine wlg_no rfl ?_
        refine wlg_no rfl ?_
        refine wl (ro_pick rfl rfl rfl) ?_
        refine wl (ro_move rfl) ?_
        refine wlg_no rfl ?_
        refine wlg_no rfl ?_
        refine wl (ro_pick rfl rfl rfl) ?_
        refine wl_nil (x_then (hK21 _ _ ?_))
        clear hK21 K21
        refine wc_condF rfl ?_
        refine c_skip (x_then (hK20 _ _ ?_))
        clear hK20 K20
        refine c_seq (fun K22 hK22 => ?_)
        refine c_seq (fun K23 hK23 => ?_)
        refine c_reg ?_ -- region 15 heapm.go:95
        refine wl (ro_move rfl) ?_
        refine wl (ro_arith rfl rfl rfl (Go.IntWalk.i64_in _ (by omega))) ?_
        refine wl (ro_move rfl) ?_
        refine wl (ro_lenS rfl st_9) ?_
        refine wl (ro_cmp (r := false) rfl rfl (by simp; omega)) ?_
        refine wl (ro_move rfl) ?_
        refine wlg_yes rfl (ro_move rfl) ?_
        refine wlg_yes rfl (ro_move rfl) ?_
        refine wlg_yes rfl (ro_arith rfl rfl rfl (Go.IntWalk.i64_in _ (by omega))) ?_
        refine wlg_yes rfl (ro_indexS rfl rfl st_9 ((by show (_ : Int) = ((p + 1 : Nat) : Int); omega)) (hdp)) ?_
        refine wlg_yes rfl (ro_cmp (r := false) rfl rfl (by simp; omega)) ?_
        refine wl (ro_pick rfl rfl rfl) ?_
        refine wl (ro_move rfl) ?_
        refine wlg_yes rfl (ro_move rfl) ?_
        refine wlg_yes rfl (ro_move rfl) ?_
        refine wlg_yes rfl (ro_arith rfl rfl rfl (Go.IntWalk.i64_in _ (by omega))) ?_
        refine wlg_yes rfl (ro_indexS rfl rfl st_9 ((by show (_ : Int) = ((p + 1 : Nat) : Int); omega)) (hdp)) ?_
        refine wlg_yes rfl (ro_cmp (r := false) rfl rfl (by simp; omega)) ?_
        refine wl (ro_pick rfl rfl rfl) ?_
        refine wl_nil (x_then (hK23 _ _ ?_))
        clear hK23 K23
        refine wc_condF rfl ?_
        refine c_skip (x_then (hK22 _ _ ?_))
        clear hK22 K22
        refine forget [(0, _), (3, _), (4, _), (5, _), (6, _), (36, _), (37, _), (57, _), (58, _), (59, _), (60, _), (61, _), (64, _), (65, _), (66, _), (67, _), (68, _)] ⟨rfl, rfl, rfl, rfl, rfl, rfl, rfl, rfl, rfl, rfl, rfl, rfl, rfl, rfl, rfl, rfl, rfl, trivial⟩ (fun e => ?_)
        refine c_seq (fun K24 hK24 => ?_)
        refine c_reg ?_ -- region 17 heapm.go:98
        refine wl (ro_move rfl) ?_
        refine wl (ro_move rfl) ?_
        refine wl (ro_move rfl) ?_
        refine wl (ro_arith rfl rfl rfl (Go.IntWalk.i64_in _ (by omega))) ?_
        refine wl (ro_indexS rfl rfl st_9 ((by show (_ : Int) = ((p + 1 : Nat) : Int); omega)) (hdp)) ?_
        refine wl (ro_arith rfl rfl rfl (Go.IntWalk.u8_in _ (by omega))) ?_
        refine wl (ro_conv rfl sc_5 in_3 (Go.IntWalk.i64_in _ (by omega))) ?_
        refine wl (ro_arith rfl rfl rfl (Go.IntWalk.i64_in _ (by omega))) ?_
        refine wl (ro_arith rfl rfl rfl (Go.IntWalk.i64_in _ (by omega))) ?_
        refine wl (ro_assign rfl) ?_
        refine wl_nil (x_then (hK24 _ _ ?_))
        clear hK24 K24
        refine forget [(0, _), (3, _), (4, _), (5, _), (6, _), (36, _), (37, _), (57, _), (58, _), (59, _), (60, _), (61, _), (64, _), (65, _), (66, _), (67, _), (68, _)] ⟨rfl, rfl, rfl, rfl, rfl, rfl, rfl, rfl, rfl, rfl, rfl, rfl, rfl, rfl, rfl, rfl, rfl, trivial⟩ (fun e => ?_)
        refine c_seq (fun K25 hK25 => ?_)
        refine c_reg ?_ -- region 18 heapm.go:99
        refine wl (ro_move rfl) ?_
        refine wl (ro_arith rfl rfl rfl (Go.IntWalk.i64_in _ (by omega))) ?_
        refine wl (ro_assign rfl) ?_
        refine wl_nil (x_then (hK25 _ _ ?_))
        clear hK25 K25
        refine c_reg ?_ -- region 19 heapm.go:100
        refine wl (ro_move rfl) ?_
        refine wl (ro_arith rfl rfl rfl (Go.IntWalk.i64_in _ (by omega))) ?_
        refine wl (ro_assign rfl) ?_
        refine wl_nil (x_blk (x_then ?_))
        refine ⟨code1.length, by rw [hrest]; simp; omega, d.toNat - 48 + want, p + 1 + 1, nn + 1, l, env, b + 1, ks1 ++ ks2, env', ns1 ++ ns2, by rw [hdr2], by rw [hdr2]; exact hLL, (fun i a ha => by have := hE i a ha; omega), hEl, by simp at hn ⊢; omega, hs, by omega, hB, hF0, kp _ ⟨rfl, rfl, ?_, ?_, rfl, trivial⟩⟩
        · show some (Value.int .i64 (((want + 1 : Nat) : Int) + (((d.toNat : Int) - 48) - 1))) = some (.int .i64 ((d.toNat - 48 + want : Nat) : Int))
          congr 2; omega
        · show some (Value.int .i64 ((p : Int) + 2)) = some (.int .i64 ((p + 1 + 1 : Nat) : Int))
          congr 2
      · skip
        refine c_reg ?_ -- region 13 heapm.go:92
        refine wl (ro_move rfl) ?_
        refine wl (ro_cmp (r := true) rfl rfl (by simp; omega)) ?_
        refine wl (ro_move rfl) ?_
        refine wlg_no rfl ?_
        refine wlg_no rfl ?_
        refine wl (ro_pick rfl rfl rfl) ?_
        refine wl (ro_move rfl) ?_
        refine wlg_yes rfl (ro_move rfl) ?_
        refine wlg_yes rfl (ro_cmp (r := false) rfl rfl (by simp [hf])) ?_
        refine wl (ro_pick rfl rfl rfl) ?_
        refine wl (ro_move rfl) ?_
        refine wlg_no rfl ?_
        refine wlg_no rfl ?_
        refine wl (ro_pick rfl rfl rfl) ?_
        refine wl (ro_move rfl) ?_
        refine wlg_no rfl ?_
        refine wlg_no rfl ?_
        refine wl (ro_pick rfl rfl rfl) ?_
        refine wl_nil (x_then (hK21 _ _ ?_))
        clear hK21 K21
        refine wc_condF rfl ?_
        refine c_skip (x_then (hK20 _ _ ?_))
        clear hK20 K20
        refine c_seq (fun K26 hK26 => ?_)
        refine c_seq (fun K27 hK27 => ?_)
        refine c_reg ?_ -- region 15 heapm.go:95
        refine wl (ro_move rfl) ?_
        refine wl (ro_arith rfl rfl rfl (Go.IntWalk.i64_in _ (by omega))) ?_
        refine wl (ro_move rfl) ?_
        refine wl (ro_lenS rfl st_9) ?_
        refine wl (ro_cmp (r := false) rfl rfl (by simp; omega)) ?_
        refine wl (ro_move rfl) ?_
        refine wlg_yes rfl (ro_move rfl) ?_
        refine wlg_yes rfl (ro_move rfl) ?_
        refine wlg_yes rfl (ro_arith rfl rfl rfl (Go.IntWalk.i64_in _ (by omega))) ?_
        refine wlg_yes rfl (ro_indexS rfl rfl st_9 ((by show (_ : Int) = ((p + 1 : Nat) : Int); omega)) (hdp)) ?_
        refine wlg_yes rfl (ro_cmp (r := false) rfl rfl (by simp; omega)) ?_
        refine wl (ro_pick rfl rfl rfl) ?_
        refine wl (ro_move rfl) ?_
        refine wlg_yes rfl (ro_move rfl) ?_
        refine wlg_yes rfl (ro_move rfl) ?_
        refine wlg_yes rfl (ro_arith rfl rfl rfl (Go.IntWalk.i64_in _ (by omega))) ?_
        refine wlg_yes rfl (ro_indexS rfl rfl st_9 ((by show (_ : Int) = ((p + 1 : Nat) : Int); omega)) (hdp)) ?_
        refine wlg_yes rfl (ro_cmp (r := false) rfl rfl (by simp; omega)) ?_
        refine wl (ro_pick rfl rfl rfl) ?_
        refine wl_nil (x_then (hK27 _ _ ?_))
        clear hK27 K27
        refine wc_condF rfl ?_
        refine c_skip (x_then (hK26 _ _ ?_))
        clear hK26 K26
        refine forget [(0, _), (3, _), (4, _), (5, _), (6, _), (40, _), (41, _), (57, _), (58, _), (59, _), (60, _), (61, _), (64, _), (65, _), (66, _), (67, _), (68, _)] ⟨rfl, rfl, rfl, rfl, rfl, rfl, rfl, rfl, rfl, rfl, rfl, rfl, rfl, rfl, rfl, rfl, rfl, trivial⟩ (fun e => ?_)
        refine c_seq (fun K28 hK28 => ?_)
        refine c_reg ?_ -- region 17 heapm.go:98
        refine wl (ro_move rfl) ?_
        refine wl (ro_move rfl) ?_
        refine wl (ro_move rfl) ?_
        refine wl (ro_arith rfl rfl rfl (Go.IntWalk.i64_in _ (by omega))) ?_
        refine wl (ro_indexS rfl rfl st_9 ((by show (_ : Int) = ((p + 1 : Nat) : Int); omega)) (hdp)) ?_
        refine wl (ro_arith rfl rfl rfl (Go.IntWalk.u8_in _ (by omega))) ?_
        refine wl (ro_conv rfl sc_5 in_3 (Go.IntWalk.i64_in _ (by omega))) ?_
        refine wl (ro_arith rfl rfl rfl (Go.IntWalk.i64_in _ (by omega))) ?_
        refine wl (ro_arith rfl rfl rfl (Go.IntWalk.i64_in _ (by omega))) ?_
        refine wl (ro_assign rfl) ?_
        refine wl_nil (x_then (hK28 _ _ ?_))
        clear hK28 K28
        refine forget [(0, _), (3, _), (4, _), (5, _), (6, _), (40, _), (41, _), (57, _), (58, _), (59, _), (60, _), (61, _), (64, _), (65, _), (66, _), (67, _), (68, _)] ⟨rfl, rfl, rfl, rfl, rfl, rfl, rfl, rfl, rfl, rfl, rfl, rfl, rfl, rfl, rfl, rfl, rfl, trivial⟩ (fun e => ?_)
        refine c_seq (fun K29 hK29 => ?_)
        refine c_reg ?_ -- region 18 heapm.go:99
        refine wl (ro_move rfl) ?_
        refine wl (ro_arith rfl rfl rfl (Go.IntWalk.i64_in _ (by omega))) ?_
        refine wl (ro_assign rfl) ?_
        refine wl_nil (x_then (hK29 _ _ ?_))
        clear hK29 K29
        refine c_reg ?_ -- region 19 heapm.go:100
        refine wl (ro_move rfl) ?_
        refine wl (ro_arith rfl rfl rfl (Go.IntWalk.i64_in _ (by omega))) ?_
        refine wl (ro_assign rfl) ?_
        refine wl_nil (x_blk (x_then ?_))
        refine ⟨code1.length, by rw [hrest]; simp; omega, d.toNat - 48 + want, p + 1 + 1, nn + 1, l, env, b + 1, ks1 ++ ks2, env', ns1 ++ ns2, by rw [hdr2], by rw [hdr2]; exact hLL, (fun i a ha => by have := hE i a ha; omega), hEl, by simp at hn ⊢; omega, hs, by omega, hB, hF0, kp _ ⟨rfl, rfl, ?_, ?_, rfl, trivial⟩⟩
        · show some (Value.int .i64 (((want + 1 : Nat) : Int) + (((d.toNat : Int) - 48) - 1))) = some (.int .i64 ((d.toNat - 48 + want : Nat) : Int))
          congr 2; omega
        · show some (Value.int .i64 ((p : Int) + 2)) = some (.int .i64 ((p + 1 + 1 : Nat) : Int))
          congr 2
      · skip
        refine c_reg ?_ -- region 13 heapm.go:92
        refine wl (ro_move rfl) ?_
        refine wl (ro_cmp (r := true) rfl rfl (by simp; omega)) ?_
        refine wl (ro_move rfl) ?_
        refine wlg_no rfl ?_
        refine wlg_no rfl ?_
        refine wl (ro_pick rfl rfl rfl) ?_
        refine wl (ro_move rfl) ?_
        refine wlg_yes rfl (ro_move rfl) ?_
        refine wlg_yes rfl (ro_cmp (r := true) rfl rfl (by simp; omega)) ?_
        refine wl (ro_pick rfl rfl rfl) ?_
        refine wl (ro_move rfl) ?_
        refine wlg_yes rfl (ro_move rfl) ?_
        refine wlg_yes rfl (ro_cmp (r := false) rfl rfl (by simp [hf])) ?_
        refine wl (ro_pick rfl rfl rfl) ?_
        refine wl (ro_move rfl) ?_
        refine wlg_no rfl ?_
        refine wlg_no rfl ?_
        refine wl (ro_pick rfl rfl rfl) ?_
        refine wl_nil (x_then (hK21 _ _ ?_))
        clear hK21 K21
        refine wc_condF rfl ?_
        refine c_skip (x_then (hK20 _ _ ?_))
        clear hK20 K20
        refine c_seq (fun K30 hK30 => ?_)
        refine c_seq (fun K31 hK31 => ?_)
        refine c_reg ?_ -- region 15 heapm.go:95
        refine wl (ro_move rfl) ?_
        refine wl (ro_arith rfl rfl rfl (Go.IntWalk.i64_in _ (by omega))) ?_
        refine wl (ro_move rfl) ?_
        refine wl (ro_lenS rfl st_9) ?_
        refine wl (ro_cmp (r := false) rfl rfl (by simp; omega)) ?_
        refine wl (ro_move rfl) ?_
        refine wlg_yes rfl (ro_move rfl) ?_
        refine wlg_yes rfl (ro_move rfl) ?_
        refine wlg_yes rfl (ro_arith rfl rfl rfl (Go.IntWalk.i64_in _ (by omega))) ?_
        refine wlg_yes rfl (ro_indexS rfl rfl st_9 ((by show (_ : Int) = ((p + 1 : Nat) : Int); omega)) (hdp)) ?_
        refine wlg_yes rfl (ro_cmp (r := false) rfl rfl (by simp; omega)) ?_
        refine wl (ro_pick rfl rfl rfl) ?_
        refine wl (ro_move rfl) ?_
        refine wlg_yes rfl (ro_move rfl) ?_
        refine wlg_yes rfl (ro_move rfl) ?_
        refine wlg_yes rfl (ro_arith rfl rfl rfl (Go.IntWalk.i64_in _ (by omega))) ?_
        refine wlg_yes rfl (ro_indexS rfl rfl st_9 ((by show (_ : Int) = ((p + 1 : Nat) : Int); omega)) (hdp)) ?_
        refine wlg_yes rfl (ro_cmp (r := false) rfl rfl (by simp; omega)) ?_
        refine wl (ro_pick rfl rfl rfl) ?_
        refine wl_nil (x_then (hK31 _ _ ?_))
        clear hK31 K31
        refine wc_condF rfl ?_
        refine c_skip (x_then (hK30 _ _ ?_))
        clear hK30 K30
        refine forget [(0, _), (3, _), (4, _), (5, _), (6, _), (40, _), (41, _), (44, _), (45, _), (57, _), (58, _), (59, _), (60, _), (61, _), (64, _), (65, _), (66, _), (67, _), (68, _)] ⟨rfl, rfl, rfl, rfl, rfl, rfl, rfl, rfl, rfl, rfl, rfl, rfl, rfl, rfl, rfl, rfl, rfl, rfl, rfl, trivial⟩ (fun e => ?_)
        refine c_seq (fun K32 hK32 => ?_)
        refine c_reg ?_ -- region 17 heapm.go:98
        refine wl (ro_move rfl) ?_
        refine wl (ro_move rfl) ?_
        refine wl (ro_move rfl) ?_
        refine wl (ro_arith rfl rfl rfl (Go.IntWalk.i64_in _ (by omega))) ?_
        refine wl (ro_indexS rfl rfl st_9 ((by show (_ : Int) = ((p + 1 : Nat) : Int); omega)) (hdp)) ?_
        refine wl (ro_arith rfl rfl rfl (Go.IntWalk.u8_in _ (by omega))) ?_
        refine wl (ro_conv rfl sc_5 in_3 (Go.IntWalk.i64_in _ (by omega))) ?_
        refine wl (ro_arith rfl rfl rfl (Go.IntWalk.i64_in _ (by omega))) ?_
        refine wl (ro_arith rfl rfl rfl (Go.IntWalk.i64_in _ (by omega))) ?_
        refine wl (ro_assign rfl) ?_
        refine wl_nil (x_then (hK32 _ _ ?_))
        clear hK32 K32
        refine forget [(0, _), (3, _), (4, _), (5, _), (6, _), (40, _), (41, _), (44, _), (45, _), (57, _), (58, _), (59, _), (60, _), (61, _), (64, _), (65, _), (66, _), (67, _), (68, _)] ⟨rfl, rfl, rfl, rfl, rfl, rfl, rfl, rfl, rfl, rfl, rfl, rfl, rfl, rfl, rfl, rfl, rfl, rfl, rfl, trivial⟩ (fun e => ?_)
        refine c_seq (fun K33 hK33 => ?_)
        refine c_reg ?_ -- region 18 heapm.go:99
        refine wl (ro_move rfl) ?_
        refine wl (ro_arith rfl rfl rfl (Go.IntWalk.i64_in _ (by omega))) ?_
        refine wl (ro_assign rfl) ?_
        refine wl_nil (x_then (hK33 _ _ ?_))
        clear hK33 K33
        refine c_reg ?_ -- region 19 heapm.go:100
        refine wl (ro_move rfl) ?_
        refine wl (ro_arith rfl rfl rfl (Go.IntWalk.i64_in _ (by omega))) ?_
        refine wl (ro_assign rfl) ?_
        refine wl_nil (x_blk (x_then ?_))
        refine ⟨code1.length, by rw [hrest]; simp; omega, d.toNat - 48 + want, p + 1 + 1, nn + 1, l, env, b + 1, ks1 ++ ks2, env', ns1 ++ ns2, by rw [hdr2], by rw [hdr2]; exact hLL, (fun i a ha => by have := hE i a ha; omega), hEl, by simp at hn ⊢; omega, hs, by omega, hB, hF0, kp _ ⟨rfl, rfl, ?_, ?_, rfl, trivial⟩⟩
        · show some (Value.int .i64 (((want + 1 : Nat) : Int) + (((d.toNat : Int) - 48) - 1))) = some (.int .i64 ((d.toNat - 48 + want : Nat) : Int))
          congr 2; omega
        · show some (Value.int .i64 ((p : Int) + 2)) = some (.int .i64 ((p + 1 + 1 : Nat) : Int))
          congr 2
      · skip
        refine c_reg ?_ -- region 13 heapm.go:92
        refine wl (ro_move rfl) ?_
        refine wl (ro_cmp (r := true) rfl rfl (by simp; omega)) ?_
        refine wl (ro_move rfl) ?_
        refine wlg_no rfl ?_
        refine wlg_no rfl ?_
        refine wl (ro_pick rfl rfl rfl) ?_
        refine wl (ro_move rfl) ?_
        refine wlg_yes rfl (ro_move rfl) ?_
        refine wlg_yes rfl (ro_cmp (r := true) rfl rfl (by simp; omega)) ?_
        refine wl (ro_pick rfl rfl rfl) ?_
        refine wl (ro_move rfl) ?_
        refine wlg_yes rfl (ro_move rfl) ?_
        refine wlg_yes rfl (ro_cmp (r := true) rfl rfl (by simp; omega)) ?_
        refine wl (ro_pick rfl rfl rfl) ?_
        refine wl (ro_move rfl) ?_
        refine wlg_yes rfl (ro_move rfl) ?_
        refine wlg_yes rfl (ro_cmp (r := false) rfl rfl (by simp [hf])) ?_
        refine wl (ro_pick rfl rfl rfl) ?_
        refine wl_nil (x_then (hK21 _ _ ?_))
        clear hK21 K21
        refine wc_condF rfl ?_
        refine c_skip (x_then (hK20 _ _ ?_))
        clear hK20 K20
        refine c_seq (fun K34 hK34 => ?_)
        refine c_seq (fun K35 hK35 => ?_)
        refine c_reg ?_ -- region 15 heapm.go:95
        refine wl (ro_move rfl) ?_
        refine wl (ro_arith rfl rfl rfl (Go.IntWalk.i64_in _ (by omega))) ?_
        refine wl (ro_move rfl) ?_
        refine wl (ro_lenS rfl st_9) ?_
        refine wl (ro_cmp (r := false) rfl rfl (by simp; omega)) ?_
        refine wl (ro_move rfl) ?_
        refine wlg_yes rfl (ro_move rfl) ?_
        refine wlg_yes rfl (ro_move rfl) ?_
        refine wlg_yes rfl (ro_arith rfl rfl rfl (Go.IntWalk.i64_in _ (by omega))) ?_
        refine wlg_yes rfl (ro_indexS rfl rfl st_9 ((by show (_ : Int) = ((p + 1 : Nat) : Int); omega)) (hdp)) ?_
        refine wlg_yes rfl (ro_cmp (r := false) rfl rfl (by simp; omega)) ?_
        refine wl (ro_pick rfl rfl rfl) ?_
        refine wl (ro_move rfl) ?_
        refine wlg_yes rfl (ro_move rfl) ?_
        refine wlg_yes rfl (ro_move rfl) ?_
        refine wlg_yes rfl (ro_arith rfl rfl rfl (Go.IntWalk.i64_in _ (by omega))) ?_
        refine wlg_yes rfl (ro_indexS rfl rfl st_9 ((by show (_ : Int) = ((p + 1 : Nat) : Int); omega)) (hdp)) ?_
        refine wlg_yes rfl (ro_cmp (r := false) rfl rfl (by simp; omega)) ?_
        refine wl (ro_pick rfl rfl rfl) ?_
        refine wl_nil (x_then (hK35 _ _ ?_))
        clear hK35 K35
        refine wc_condF rfl ?_
        refine c_skip (x_then (hK34 _ _ ?_))
        clear hK34 K34
        refine forget [(0, _), (3, _), (4, _), (5, _), (6, _), (40, _), (41, _), (44, _), (45, _), (48, _), (49, _), (57, _), (58, _), (59, _), (60, _), (61, _), (64, _), (65, _), (66, _), (67, _), (68, _)] ⟨rfl, rfl, rfl, rfl, rfl, rfl, rfl, rfl, rfl, rfl, rfl, rfl, rfl, rfl, rfl, rfl, rfl, rfl, rfl, rfl, rfl, trivial⟩ (fun e => ?_)
        refine c_seq (fun K36 hK36 => ?_)
        refine c_reg ?_ -- region 17 heapm.go:98
        refine wl (ro_move rfl) ?_
        refine wl (ro_move rfl) ?_
        refine wl (ro_move rfl) ?_
        refine wl (ro_arith rfl rfl rfl (Go.IntWalk.i64_in _ (by omega))) ?_
        refine wl (ro_indexS rfl rfl st_9 ((by show (_ : Int) = ((p + 1 : Nat) : Int); omega)) (hdp)) ?_
        refine wl (ro_arith rfl rfl rfl (Go.IntWalk.u8_in _ (by omega))) ?_
        refine wl (ro_conv rfl sc_5 in_3 (Go.IntWalk.i64_in _ (by omega))) ?_
        refine wl (ro_arith rfl rfl rfl (Go.IntWalk.i64_in _ (by omega))) ?_
        refine wl (ro_arith rfl rfl rfl (Go.IntWalk.i64_in _ (by omega))) ?_
        refine wl (ro_assign rfl) ?_
        refine wl_nil (x_then (hK36 _ _ ?_))
        clear hK36 K36
        refine forget [(0, _), (3, _), (4, _), (5, _), (6, _), (40, _), (41, _), (44, _), (45, _), (48, _), (49, _), (57, _), (58, _), (59, _), (60, _), (61, _), (64, _), (65, _), (66, _), (67, _), (68, _)] ⟨rfl, rfl, rfl, rfl, rfl, rfl, rfl, rfl, rfl, rfl, rfl, rfl, rfl, rfl, rfl, rfl, rfl, rfl, rfl, rfl, rfl, trivial⟩ (fun e => ?_)
        refine c_seq (fun K37 hK37 => ?_)
        refine c_reg ?_ -- region 18 heapm.go:99
        refine wl (ro_move rfl) ?_
        refine wl (ro_arith rfl rfl rfl (Go.IntWalk.i64_in _ (by omega))) ?_
        refine wl (ro_assign rfl) ?_
        refine wl_nil (x_then (hK37 _ _ ?_))
        clear hK37 K37
        refine c_reg ?_ -- region 19 heapm.go:100
        refine wl (ro_move rfl) ?_
        refine wl (ro_arith rfl rfl rfl (Go.IntWalk.i64_in _ (by omega))) ?_
        refine wl (ro_assign rfl) ?_
        refine wl_nil (x_blk (x_then ?_))
        refine ⟨code1.length, by rw [hrest]; simp; omega, d.toNat - 48 + want, p + 1 + 1, nn + 1, l, env, b + 1, ks1 ++ ks2, env', ns1 ++ ns2, by rw [hdr2], by rw [hdr2]; exact hLL, (fun i a ha => by have := hE i a ha; omega), hEl, by simp at hn ⊢; omega, hs, by omega, hB, hF0, kp _ ⟨rfl, rfl, ?_, ?_, rfl, trivial⟩⟩
        · show some (Value.int .i64 (((want + 1 : Nat) : Int) + (((d.toNat : Int) - 48) - 1))) = some (.int .i64 ((d.toNat - 48 + want : Nat) : Int))
          congr 2; omega
        · show some (Value.int .i64 ((p : Int) + 2)) = some (.int .i64 ((p + 1 + 1 : Nat) : Int))
          congr 2
  · try simp only [decide_eq_true_eq, decide_eq_false_iff_not, Bool.not_eq_true', Bool.not_eq_false', Bool.not_eq_eq_eq_not, Bool.not_true, Bool.not_false, beq_iff_eq, bne_iff_ne, ne_eq, beq_eq_false_iff_ne, bne_eq_false_iff_eq, gt_iff_lt, ge_iff_le, Int.not_lt, Int.not_le] at hc9
    have hw0 : want = 0 := by omega
    subst hw0
    obtain ⟨rfl, h2, rfl, rfl⟩ := hL.inv0
    have hpe : p = code.length := by have := congrArg List.length h2; simp at this; omega
    refine c_exit (x_thenX (x_thenX (x_blkX (x_then (hK4 _ _ ?_)))))
    clear hK5 K5 hK4 K4
    refine c_seq (fun K38 hK38 => ?_)
    refine c_seq (fun K39 hK39 => ?_)
    refine c_reg ?_ -- region 20 heapm.go:102
    refine wl (ro_move rfl) ?_
    refine wl (ro_move rfl) ?_
    refine wl (ro_lenS rfl st_9) ?_
    refine wl (ro_cmp (r := false) rfl rfl (by simp [hpe])) ?_
    refine wl_nil (x_then (hK39 _ _ ?_))
    clear hK39 K39
    refine wc_condF rfl ?_
    refine c_skip (x_then (hK38 _ _ ?_))
    clear hK38 K38
    refine forget [(6, _)] ⟨rfl, trivial⟩ (fun e => ?_)
    refine c_seq (fun K40 hK40 => ?_)
    refine c_reg ?_ -- region 22 heapm.go:105
    refine wl (ro_move rfl) ?_
    refine wl (ro_assign rfl) ?_
    refine wl_nil (x_then (hK40 _ _ ?_))
    clear hK40 K40
    refine c_ret ?_
    refine bp_ret Tryz.results60 rfl ?_
    refine ⟨?_, hF0⟩
    simp at hn
    rw [← hn]

end Go.Proofs.Qxb6500569aGreat
