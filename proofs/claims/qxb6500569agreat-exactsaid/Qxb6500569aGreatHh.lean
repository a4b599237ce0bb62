import Derived.Test.Qxb6500569aGreatHg
import Derived.Test.Qxb6500569aGreatFq
import Derived.Test.Qxb6500569aGreatPe
/- The real heap: codes, the count. -/
namespace Go.Proofs.Qxb6500569aGreat
set_option linter.unusedVariables false
set_option linter.unusedSimpArgs false

theorem ro_shlR {P : Program} {n : Nat} {e : Nat → Option Value} {w : World} {t t' : TypeId} {x y : Operand} {k k' : IntKind} {a b r : Int} (hx : evO n e x = some (.int k a)) (hy : evO n e y = some (.int k' b)) (hb : 0 ≤ b) (hr : k.wrap (a * 2 ^ (min b.toNat k.bits)) = r) :
    RO P n e w (.binOp .shl t x y t') (.int k r) := by rw [← hr]; exact ro_shl hx hy hb

theorem and6 : ∀ s : Nat, s < 64 → ∀ k : Nat, k < 6 → IntKind.u8.wrap (BitVec.ofInt 8 (s : Int) &&& BitVec.ofInt 8 ((2 ^ k : Nat) : Int)).toNat = (((if s.testBit k then 2 ^ k else 0) : Nat) : Int) := by decide +kernel
theorem or6 : ∀ s : Nat, s < 64 → ∀ k : Nat, k < 6 → IntKind.u8.wrap (BitVec.ofInt 8 (s : Int) ||| BitVec.ofInt 8 ((2 ^ k : Nat) : Int)).toNat = (((s ||| 2 ^ k) : Nat) : Int) := by decide +kernel
theorem orb6 : ∀ s : Nat, s < 64 → ∀ k : Nat, k < 6 → s ||| 2 ^ k < 64 ∧ ∀ j, j < 6 → (s ||| 2 ^ k).testBit j = (s.testBit j || decide (j = k)) := by decide +kernel
theorem shl6 : ∀ k : Nat, k < 6 → IntKind.u8.wrap (1 * 2 ^ (min k 8)) = ((2 ^ k : Nat) : Int) := by decide +kernel
theorem pow6 : ∀ k : Nat, k < 6 → 2 ^ k ≠ 0 ∧ 2 ^ k < 64 := by decide +kernel

theorem isVar99 {w : World} (c : UInt8) : Ret Tryz.prog 99 [u8c c] w (fun r w' => r = .bool (isV c) ∧ w' = w) := by
  by_cases h : 65 ≤ c.toNat
  · skip
    refine ret_of Tryz.func99 rfl Tryz.ntmps99 rfl ?_
    refine c_seq (fun K1 hK1 => ?_)
    refine c_reg ?_ -- region 0 load.go:7
    refine wl (ro_assign rfl) ?_
    refine wl_nil (x_then (hK1 _ _ ?_))
    clear hK1 K1
    refine forget [(0, _)] ⟨rfl, trivial⟩ (fun e => ?_)
    refine c_seq (fun K2 hK2 => ?_)
    refine c_reg ?_ -- region 1 load.go:7
    refine wl (ro_move rfl) ?_
    refine wl (ro_cmp (r := true) rfl rfl (by simp; omega)) ?_
    refine wl (ro_move rfl) ?_
    refine wlg_yes rfl (ro_move rfl) ?_
    refine wlg_yes rfl (ro_cmp rfl rfl rfl) ?_
    refine wl (ro_pick rfl rfl rfl) ?_
    refine wl (ro_assign rfl) ?_
    refine wl_nil (x_then (hK2 _ _ ?_))
    clear hK2 K2
    refine c_ret ?_
    refine bp_ret Tryz.results99 rfl ?_
    refine ⟨?_, rfl⟩
    simp only [isV, h, decide_true, Bool.true_and]
    congr 1
    simp
    omega
  · skip
    refine ret_of Tryz.func99 rfl Tryz.ntmps99 rfl ?_
    refine c_seq (fun K1 hK1 => ?_)
    refine c_reg ?_ -- region 0 load.go:7
    refine wl (ro_assign rfl) ?_
    refine wl_nil (x_then (hK1 _ _ ?_))
    clear hK1 K1
    refine forget [(0, _)] ⟨rfl, trivial⟩ (fun e => ?_)
    refine c_seq (fun K2 hK2 => ?_)
    refine c_reg ?_ -- region 1 load.go:7
    refine wl (ro_move rfl) ?_
    refine wl (ro_cmp (r := false) rfl rfl (by simp; omega)) ?_
    refine wl (ro_move rfl) ?_
    refine wlg_no rfl ?_
    refine wlg_no rfl ?_
    refine wl (ro_pick rfl rfl rfl) ?_
    refine wl (ro_assign rfl) ?_
    refine wl_nil (x_then (hK2 _ _ ?_))
    clear hK2 K2
    refine c_ret ?_
    refine bp_ret Tryz.results99 rfl ?_
    exact ⟨by simp [isV, h], rfl⟩

theorem isFunctor100 {w : World} (c : UInt8) : Ret Tryz.prog 100 [u8c c] w (fun r w' => r = .bool (isF c) ∧ w' = w) := by
  by_cases h1 : 97 ≤ c.toNat
  · by_cases h2 : c.toNat ≤ 122
    · skip
      refine ret_of Tryz.func100 rfl Tryz.ntmps100 rfl ?_
      refine c_seq (fun K1 hK1 => ?_)
      refine c_reg ?_ -- region 0 load.go:9
      refine wl (ro_assign rfl) ?_
      refine wl_nil (x_then (hK1 _ _ ?_))
      clear hK1 K1
      refine forget [(0, _)] ⟨rfl, trivial⟩ (fun e => ?_)
      refine c_seq (fun K2 hK2 => ?_)
      refine c_reg ?_ -- region 1 load.go:9
      refine wl (ro_move rfl) ?_
      refine wl (ro_cmp (r := true) rfl rfl (by simp; omega)) ?_
      refine wl (ro_move rfl) ?_
      refine wlg_yes rfl (ro_move rfl) ?_
      refine wlg_yes rfl (ro_cmp (r := true) rfl rfl (by simp; omega)) ?_
      refine wl (ro_pick rfl rfl rfl) ?_
      refine wl (ro_move rfl) ?_
      refine wlg_no rfl ?_
      refine wlg_no rfl ?_
      refine wl (ro_pick rfl rfl rfl) ?_
      refine wl (ro_move rfl) ?_
      refine wlg_no rfl ?_
      refine wlg_no rfl ?_
      refine wl (ro_pick rfl rfl rfl) ?_
      refine wl (ro_move rfl) ?_
      refine wlg_no rfl ?_
      refine wlg_no rfl ?_
      refine wl (ro_pick rfl rfl rfl) ?_
      refine wl (ro_assign rfl) ?_
      refine wl_nil (x_then (hK2 _ _ ?_))
      clear hK2 K2
      refine c_ret ?_
      refine bp_ret Tryz.results100 rfl ?_
      exact ⟨by simp [isF, h1, h2], rfl⟩
    · skip
      refine ret_of Tryz.func100 rfl Tryz.ntmps100 rfl ?_
      refine c_seq (fun K1 hK1 => ?_)
      refine c_reg ?_ -- region 0 load.go:9
      refine wl (ro_assign rfl) ?_
      refine wl_nil (x_then (hK1 _ _ ?_))
      clear hK1 K1
      refine forget [(0, _)] ⟨rfl, trivial⟩ (fun e => ?_)
      refine c_seq (fun K2 hK2 => ?_)
      refine c_reg ?_ -- region 1 load.go:9
      refine wl (ro_move rfl) ?_
      refine wl (ro_cmp (r := true) rfl rfl (by simp; omega)) ?_
      refine wl (ro_move rfl) ?_
      refine wlg_yes rfl (ro_move rfl) ?_
      refine wlg_yes rfl (ro_cmp (r := false) rfl rfl (by simp; omega)) ?_
      refine wl (ro_pick rfl rfl rfl) ?_
      refine wl (ro_move rfl) ?_
      refine wlg_yes rfl (ro_move rfl) ?_
      refine wlg_yes rfl (ro_cmp (r := false) rfl rfl (by simp; omega)) ?_
      refine wl (ro_pick rfl rfl rfl) ?_
      refine wl (ro_move rfl) ?_
      refine wlg_yes rfl (ro_move rfl) ?_
      refine wlg_yes rfl (ro_cmp (r := false) rfl rfl (by simp; omega)) ?_
      refine wl (ro_pick rfl rfl rfl) ?_
      refine wl (ro_move rfl) ?_
      refine wlg_yes rfl (ro_move rfl) ?_
      refine wlg_yes rfl (ro_cmp (r := false) rfl rfl (by simp; omega)) ?_
      refine wl (ro_pick rfl rfl rfl) ?_
      refine wl (ro_assign rfl) ?_
      refine wl_nil (x_then (hK2 _ _ ?_))
      clear hK2 K2
      refine c_ret ?_
      refine bp_ret Tryz.results100 rfl ?_
      exact ⟨by simp [isF, h1, h2]; omega, rfl⟩
  · by_cases h2 : c.toNat = 33
    · skip
      refine ret_of Tryz.func100 rfl Tryz.ntmps100 rfl ?_
      refine c_seq (fun K1 hK1 => ?_)
      refine c_reg ?_ -- region 0 load.go:9
      refine wl (ro_assign rfl) ?_
      refine wl_nil (x_then (hK1 _ _ ?_))
      clear hK1 K1
      refine forget [(0, _)] ⟨rfl, trivial⟩ (fun e => ?_)
      refine c_seq (fun K2 hK2 => ?_)
      refine c_reg ?_ -- region 1 load.go:9
      refine wl (ro_move rfl) ?_
      refine wl (ro_cmp (r := false) rfl rfl (by simp; omega)) ?_
      refine wl (ro_move rfl) ?_
      refine wlg_no rfl ?_
      refine wlg_no rfl ?_
      refine wl (ro_pick rfl rfl rfl) ?_
      refine wl (ro_move rfl) ?_
      refine wlg_yes rfl (ro_move rfl) ?_
      refine wlg_yes rfl (ro_cmp (r := true) rfl rfl (by simp; omega)) ?_
      refine wl (ro_pick rfl rfl rfl) ?_
      refine wl (ro_move rfl) ?_
      refine wlg_no rfl ?_
      refine wlg_no rfl ?_
      refine wl (ro_pick rfl rfl rfl) ?_
      refine wl (ro_move rfl) ?_
      refine wlg_no rfl ?_
      refine wlg_no rfl ?_
      refine wl (ro_pick rfl rfl rfl) ?_
      refine wl (ro_assign rfl) ?_
      refine wl_nil (x_then (hK2 _ _ ?_))
      clear hK2 K2
      refine c_ret ?_
      refine bp_ret Tryz.results100 rfl ?_
      exact ⟨by simp [isF, h1, h2], rfl⟩
    · by_cases h3 : c.toNat = 58
      · skip
        refine ret_of Tryz.func100 rfl Tryz.ntmps100 rfl ?_
        refine c_seq (fun K1 hK1 => ?_)
        refine c_reg ?_ -- region 0 load.go:9
        refine wl (ro_assign rfl) ?_
        refine wl_nil (x_then (hK1 _ _ ?_))
        clear hK1 K1
        refine forget [(0, _)] ⟨rfl, trivial⟩ (fun e => ?_)
        refine c_seq (fun K2 hK2 => ?_)
        refine c_reg ?_ -- region 1 load.go:9
        refine wl (ro_move rfl) ?_
        refine wl (ro_cmp (r := false) rfl rfl (by simp; omega)) ?_
        refine wl (ro_move rfl) ?_
        refine wlg_no rfl ?_
        refine wlg_no rfl ?_
        refine wl (ro_pick rfl rfl rfl) ?_
        refine wl (ro_move rfl) ?_
        refine wlg_yes rfl (ro_move rfl) ?_
        refine wlg_yes rfl (ro_cmp (r := false) rfl rfl (by simp; omega)) ?_
        refine wl (ro_pick rfl rfl rfl) ?_
        refine wl (ro_move rfl) ?_
        refine wlg_yes rfl (ro_move rfl) ?_
        refine wlg_yes rfl (ro_cmp (r := true) rfl rfl (by simp; omega)) ?_
        refine wl (ro_pick rfl rfl rfl) ?_
        refine wl (ro_move rfl) ?_
        refine wlg_no rfl ?_
        refine wlg_no rfl ?_
        refine wl (ro_pick rfl rfl rfl) ?_
        refine wl (ro_assign rfl) ?_
        refine wl_nil (x_then (hK2 _ _ ?_))
        clear hK2 K2
        refine c_ret ?_
        refine bp_ret Tryz.results100 rfl ?_
        exact ⟨by simp [isF, h1, h2, h3], rfl⟩
      · skip
        refine ret_of Tryz.func100 rfl Tryz.ntmps100 rfl ?_
        refine c_seq (fun K1 hK1 => ?_)
        refine c_reg ?_ -- region 0 load.go:9
        refine wl (ro_assign rfl) ?_
        refine wl_nil (x_then (hK1 _ _ ?_))
        clear hK1 K1
        refine forget [(0, _)] ⟨rfl, trivial⟩ (fun e => ?_)
        refine c_seq (fun K2 hK2 => ?_)
        refine c_reg ?_ -- region 1 load.go:9
        refine wl (ro_move rfl) ?_
        refine wl (ro_cmp (r := false) rfl rfl (by simp; omega)) ?_
        refine wl (ro_move rfl) ?_
        refine wlg_no rfl ?_
        refine wlg_no rfl ?_
        refine wl (ro_pick rfl rfl rfl) ?_
        refine wl (ro_move rfl) ?_
        refine wlg_yes rfl (ro_move rfl) ?_
        refine wlg_yes rfl (ro_cmp (r := false) rfl rfl (by simp; omega)) ?_
        refine wl (ro_pick rfl rfl rfl) ?_
        refine wl (ro_move rfl) ?_
        refine wlg_yes rfl (ro_move rfl) ?_
        refine wlg_yes rfl (ro_cmp (r := false) rfl rfl (by simp; omega)) ?_
        refine wl (ro_pick rfl rfl rfl) ?_
        refine wl (ro_move rfl) ?_
        refine wlg_yes rfl (ro_move rfl) ?_
        refine wlg_yes rfl (ro_cmp (r := decide (c.toNat = 63)) rfl rfl (congrArg some (beqc c.toNat 63))) ?_
        refine wl (ro_pick rfl rfl rfl) ?_
        refine wl (ro_assign rfl) ?_
        refine wl_nil (x_then (hK2 _ _ ?_))
        clear hK2 K2
        refine c_ret ?_
        refine bp_ret Tryz.results100 rfl ?_
        exact ⟨by simp [isF, h1, h2, h3], rfl⟩

/-- The set of the variables met. -/
def seenR (s : Nat) (env : List (Option Nat)) : Prop := s < 64 ∧ ∀ k, k < 6 → s.testBit k = (env.getD k none).isSome

theorem seen0 : seenR 0 env0 := ⟨by omega, fun k hk => by match k, hk with | 0, _ | 1, _ | 2, _ | 3, _ | 4, _ | 5, _ => rfl⟩

theorem seen_set {s : Nat} {env : List (Option Nat)} (h : seenR s env) {k b : Nat} (hk : k < 6) (hl : env.length = 6) : seenR (s ||| 2 ^ k) (env.set k (some b)) := by
  obtain ⟨h1, h2⟩ := orb6 s h.1 k hk
  refine ⟨h1, fun j hj => ?_⟩
  rw [h2 j hj, h.2 j hj, List.getD_eq_getElem?_getD, List.getD_eq_getElem?_getD, List.getElem?_set]
  by_cases hjk : k = j
  · subst hjk; simp [hl, hk]
  · have : ¬ j = k := fun h => hjk h.symm
    simp [hjk, this]

theorem drop_cons {code rest : List UInt8} {p : Nat} {c : UInt8} (h : code.drop p = c :: rest) : code[p]? = some c ∧ code.drop (p + 1) = rest ∧ p < code.length := by
  have h1 : p < code.length := by
    rcases Nat.lt_or_ge p code.length with h' | h'
    · exact h'
    · rw [List.drop_of_length_le h'] at h; cases h
  rw [List.drop_eq_getElem_cons h1] at h
  cases h
  exact ⟨List.getElem?_eq_getElem h1, rfl, h1⟩

theorem scan55 {w : World} {code : List UInt8} {b : Nat} {ns : List Nd} (hl : Lays code b ns) (hc : code.length ≤ 48) : Ret Tryz.prog 55 [S code] w (fun r w' => r = i64c ns.length ∧ w' = w) := by
  obtain ⟨k0, env9, hld⟩ := hl
  have hns := (hld.facts (envLt0 b)).2.2.2.2.2
  simp only [List.length_nil, Nat.add_zero] at hns
  refine ret_of Tryz.func55 rfl Tryz.ntmps55 rfl ?_
  refine c_seq (fun K1 hK1 => ?_)
  refine c_reg ?_ -- region 0 load.go:12
  refine wl (ro_assign rfl) ?_
  refine wl_nil (x_then (hK1 _ _ ?_))
  clear hK1 K1
  refine forget [(0, _)] ⟨rfl, trivial⟩ (fun e => ?_)
  refine c_seq (fun K2 hK2 => ?_)
  refine c_reg ?_ -- region 1 load.go:13
  refine wl (ro_assign rfl) ?_
  refine wl_nil (x_then (hK2 _ _ ?_))
  clear hK2 K2
  refine forget [(0, _), (3, _)] ⟨rfl, rfl, trivial⟩ (fun e => ?_)
  refine c_seq (fun K3 hK3 => ?_)
  refine c_reg ?_ -- region 2 load.go:14
  refine wl (ro_assign rfl) ?_
  refine wl (ro_assign rfl) ?_
  refine wl (ro_assign rfl) ?_
  refine wl_nil (x_then (hK3 _ _ ?_))
  clear hK3 K3
  refine forget [(0, _), (3, _), (4, _), (5, _), (6, _)] ⟨rfl, rfl, rfl, rfl, rfl, trivial⟩ (fun e => ?_)
  refine c_seq (fun K4 hK4 => ?_)
  refine c_block ?_
  -- loop@r3: live slots [0, 3, 4, 5, 6]
  refine c_loopG (fun m a' w' => ∃ want p nn s env b ks env' ns', m = (code.drop p).length ∧ Ld want (code.drop p) env b ks [] env' ns' ∧ envLt env b ∧ env.length = 6 ∧ nn + ns'.length = ns.length ∧ seenR s env ∧ p ≤ code.length ∧ w' = w ∧ ∃ e, a' = Fr 78 (upds e [(0, S code), (3, .int .u8 (s : Int)), (4, i64c want), (5, i64c nn), (6, i64c p)]) []) code.length ⟨1, 0, 0, 0, env0, b, _, _, ns, rfl, hld, envLt0 b, rfl, by simp, seen0, by omega, rfl, kp _ ⟨rfl, rfl, rfl, rfl, rfl, trivial⟩⟩ ?_
  rintro m a' w ⟨want, p, nn, s, env, b, ks, env', ns', rfl, hL, hE, hEl, hn, hs, hp, rfl, e, rfl⟩
  obtain ⟨f1, f2, f3, f4, f5, f6⟩ := hL.facts hE
  have hdl : (code.drop p).length = code.length - p := by simp
  refine c_seq (fun K5 hK5 => ?_)
  refine c_seq (fun K6 hK6 => ?_)
  refine c_reg ?_ -- region 3 load.go:15
  refine wl (ro_move rfl) ?_
  refine wl (ro_cmp rfl rfl rfl) ?_
  refine wl_nil (x_then (hK6 _ _ ?_))
  clear hK6 K6
  refine wc_cond rfl (fun hc10 => ?_) (fun hc10 => ?_)
  · try simp only [decide_eq_true_eq, decide_eq_false_iff_not, Bool.not_eq_true', Bool.not_eq_false', Bool.not_eq_eq_eq_not, Bool.not_true, Bool.not_false, beq_iff_eq, bne_iff_ne, ne_eq, beq_eq_false_iff_ne, bne_eq_false_iff_eq, gt_iff_lt, ge_iff_le, Int.not_lt, Int.not_le] at hc10
    obtain ⟨want, rfl⟩ : ∃ k, want = k + 1 := ⟨want - 1, by omega⟩
    obtain ⟨c, rest, hrest⟩ := hL.ne
    obtain ⟨hcp, hdr, hpl⟩ := drop_cons hrest
    rw [hrest] at hL
    refine c_skip (x_then (hK5 _ _ ?_))
    clear hK5 K5
    refine c_block ?_
    refine c_seq (fun K7 hK7 => ?_)
    refine c_seq (fun K8 hK8 => ?_)
    refine c_reg ?_ -- region 4 load.go:16
    refine wl (ro_move rfl) ?_
    refine wl (ro_move rfl) ?_
    refine wl (ro_lenS rfl st_9) ?_
    refine wl (ro_cmp (r := false) rfl rfl (by simp; omega)) ?_
    refine wl_nil (x_then (hK8 _ _ ?_))
    clear hK8 K8
    refine wc_condF rfl ?_
    refine c_skip (x_then (hK7 _ _ ?_))
    clear hK7 K7
    refine forget [(0, _), (3, _), (4, _), (5, _), (6, _)] ⟨rfl, rfl, rfl, rfl, rfl, trivial⟩ (fun e => ?_)
    refine c_seq (fun K9 hK9 => ?_)
    refine c_reg ?_ -- region 6 load.go:19
    refine wl (ro_move rfl) ?_
    refine wl (ro_move rfl) ?_
    refine wl (ro_indexS rfl rfl st_9 rfl (hcp)) ?_
    refine wl (ro_assign rfl) ?_
    refine wl_nil (x_then (hK9 _ _ ?_))
    clear hK9 K9
    refine c_seq (fun K10 hK10 => ?_)
    refine c_seq (fun K11 hK11 => ?_)
    refine c_reg ?_ -- region 7 load.go:20
    refine wl (ro_move rfl) ?_
    refine wl_call rfl en_99 (isVar99 c) ?_
    rintro _ w ⟨rfl, rfl⟩
    refine wl_nil (x_then (hK11 _ _ ?_))
    clear hK11 K11
    refine wc_cond rfl (fun hc19 => ?_) (fun hc19 => ?_)
    · try simp only [decide_eq_true_eq, decide_eq_false_iff_not, Bool.not_eq_true', Bool.not_eq_false', Bool.not_eq_eq_eq_not, Bool.not_true, Bool.not_false, beq_iff_eq, bne_iff_ne, ne_eq, beq_eq_false_iff_ne, bne_eq_false_iff_eq, gt_iff_lt, ge_iff_le, Int.not_lt, Int.not_le] at hc19
      have hvr : 65 ≤ c.toNat ∧ c.toNat < 71 := by simpa [isV] using hc19
      obtain ⟨v, hv⟩ : ∃ v, v = c.toNat - 65 := ⟨_, rfl⟩
      have hv6 : v < 6 := by omega
      have hvi : ((c.toNat : Int) - 65).toNat = v := by omega
      have hcase := hL.var hc19
      rw [← hv] at hcase
      refine c_seq (fun K12 hK12 => ?_)
      refine c_reg ?_ -- region 8 load.go:21
      refine wl (ro_move rfl) ?_
      refine wl (ro_arith rfl rfl rfl (Go.IntWalk.u8_in _ (by omega))) ?_
      refine wl (ro_shlR (r := ((2 ^ v : Nat) : Int)) rfl rfl (by show (0 : Int) ≤ (c.toNat : Int) - 65; omega) (by show IntKind.u8.wrap (1 * 2 ^ (min ((c.toNat : Int) - 65).toNat 8)) = _; rw [hvi]; exact shl6 v hv6)) ?_
      refine wl (ro_assign rfl) ?_
      refine wl_nil (x_then (hK12 _ _ ?_))
      clear hK12 K12
      refine c_seq (fun K13 hK13 => ?_)
      refine c_seq (fun K14 hK14 => ?_)
      refine c_reg ?_ -- region 9 load.go:22
      refine wl (ro_move rfl) ?_
      refine wl (ro_move rfl) ?_
      refine wl (ro_bits (r := (((if s.testBit v then 2 ^ v else 0) : Nat) : Int)) rfl rfl (congrArg some (and6 s hs.1 v hv6))) ?_
      refine wl (ro_cmp (r := !(env.getD v none).isSome) rfl rfl (by rw [← hs.2 v hv6]; have h0 := (pow6 v hv6).1; cases s.testBit v; rfl; exact congrArg some (beq_false_of_ne (by intro h; exact h0 (Int.ofNat_eq_zero.1 h))))) ?_
      refine wl_nil (x_then (hK14 _ _ ?_))
      clear hK14 K14
      refine wc_cond rfl (fun hc26 => ?_) (fun hc26 => ?_)
      · try simp only [decide_eq_true_eq, decide_eq_false_iff_not, Bool.not_eq_true', Bool.not_eq_false', Bool.not_eq_eq_eq_not, Bool.not_true, Bool.not_false, beq_iff_eq, bne_iff_ne, ne_eq, beq_eq_false_iff_ne, bne_eq_false_iff_eq, gt_iff_lt, ge_iff_le, Int.not_lt, Int.not_le] at hc26
        have hnone : env.getD v none = none := by cases hx : env.getD v none with | none => rfl | some a => rw [hx] at hc26; cases hc26
        have hcase : ∃ ks' ns1, ks = b :: ks' ∧ ns' = vnd b :: ns1 ∧ Ld want rest (env.set v (some b)) (b + 1) ks' [] env' ns1 := by
          rcases hcase with ⟨a, ks1, ha, _⟩ | ⟨ks1, ns1, ha, h1, h2, h3⟩
          · rw [hnone] at ha; cases ha
          · exact ⟨ks1, ns1, h1, h2, h3⟩
        obtain ⟨ks1, ns1, rfl, rfl, hL1⟩ := hcase
        refine c_reg ?_ -- region 10 load.go:23
        refine wl (ro_move rfl) ?_
        refine wl (ro_arith rfl rfl rfl (Go.IntWalk.i64_in _ (by omega))) ?_
        refine wl (ro_assign rfl) ?_
        refine wl_nil (x_then (hK13 _ _ ?_))
        clear hK13 K13
        refine forget [(0, _), (3, _), (4, _), (5, _), (6, _), (8, _)] ⟨rfl, rfl, rfl, rfl, rfl, rfl, trivial⟩ (fun e => ?_)
        refine c_seq (fun K15 hK15 => ?_)
        refine c_reg ?_ -- region 11 load.go:25
        refine wl (ro_move rfl) ?_
        refine wl (ro_move rfl) ?_
        refine wl (ro_bits (r := (((s ||| 2 ^ v) : Nat) : Int)) rfl rfl (congrArg some (or6 s hs.1 v hv6))) ?_
        refine wl (ro_assign rfl) ?_
        refine wl_nil (x_then (hK15 _ _ ?_))
        clear hK15 K15
        refine forget [(0, _), (3, _), (4, _), (5, _), (6, _)] ⟨rfl, rfl, rfl, rfl, rfl, trivial⟩ (fun e => ?_)
        refine c_seq (fun K16 hK16 => ?_)
        refine c_reg ?_ -- region 12 load.go:26
        refine wl (ro_move rfl) ?_
        refine wl (ro_arith rfl rfl rfl (Go.IntWalk.i64_in _ (by omega))) ?_
        refine wl (ro_assign rfl) ?_
        refine wl_nil (x_then (hK16 _ _ ?_))
        clear hK16 K16
        refine forget [(0, _), (3, _), (4, _), (5, _), (6, _)] ⟨rfl, rfl, rfl, rfl, rfl, trivial⟩ (fun e => ?_)
        refine c_seq (fun K17 hK17 => ?_)
        refine c_reg ?_ -- region 13 load.go:27
        refine wl (ro_move rfl) ?_
        refine wl (ro_arith rfl rfl rfl (Go.IntWalk.i64_in _ (by omega))) ?_
        refine wl (ro_assign rfl) ?_
        refine wl_nil (x_then (hK17 _ _ ?_))
        clear hK17 K17
        refine c_exit (x_thenX (x_blkX (x_then ?_)))
        refine ⟨rest.length, by rw [hrest]; simp, want, p + 1, nn + 1, s ||| 2 ^ v, env.set v (some b), b + 1, ks1, env', ns1, by rw [hdr], by rw [hdr]; exact hL1, envLt_set hE, by simpa using hEl, by simp at hn; omega, seen_set hs hv6 hEl, by omega, rfl, kp _ ⟨rfl, rfl, ?_, ?_, ?_, trivial⟩⟩
        · show some (Value.int .i64 (((want + 1 : Nat) : Int) - 1)) = some (.int .i64 (want : Int))
          congr 2; omega
        · rfl
        · rfl
      · try simp only [decide_eq_true_eq, decide_eq_false_iff_not, Bool.not_eq_true', Bool.not_eq_false', Bool.not_eq_eq_eq_not, Bool.not_true, Bool.not_false, beq_iff_eq, bne_iff_ne, ne_eq, beq_eq_false_iff_ne, bne_eq_false_iff_eq, gt_iff_lt, ge_iff_le, Int.not_lt, Int.not_le] at hc26
        have hsome : ∃ a, env.getD v none = some a := by cases hx : env.getD v none with | none => rw [hx] at hc26; cases hc26 | some a => exact ⟨a, rfl⟩
        obtain ⟨a, ha⟩ := hsome
        have hcase : ∃ ks', Ld want rest env b ks' [] env' ns' := by
          rcases hcase with ⟨a, ks1, _, _, h3⟩ | ⟨ks1, ns1, hx, _⟩
          · exact ⟨ks1, h3⟩
          · rw [ha] at hx; cases hx
        obtain ⟨ks1, hL1⟩ := hcase
        have hsv : s.testBit v = true := by rw [hs.2 v hv6, ha]; rfl
        have hor : s ||| 2 ^ v = s := by
          apply Nat.eq_of_testBit_eq
          intro j
          rw [Nat.testBit_or, Nat.testBit_two_pow]
          by_cases hj : v = j
          · subst hj; simp [hsv]
          · simp [hj]
        refine c_skip (x_then (hK13 _ _ ?_))
        clear hK13 K13
        refine forget [(0, _), (3, _), (4, _), (5, _), (6, _), (8, _)] ⟨rfl, rfl, rfl, rfl, rfl, rfl, trivial⟩ (fun e => ?_)
        refine c_seq (fun K18 hK18 => ?_)
        refine c_reg ?_ -- region 11 load.go:25
        refine wl (ro_move rfl) ?_
        refine wl (ro_move rfl) ?_
        refine wl (ro_bits (r := (((s ||| 2 ^ v) : Nat) : Int)) rfl rfl (congrArg some (or6 s hs.1 v hv6))) ?_
        refine wl (ro_assign rfl) ?_
        refine wl_nil (x_then (hK18 _ _ ?_))
        clear hK18 K18
        refine forget [(0, _), (3, _), (4, _), (5, _), (6, _)] ⟨rfl, rfl, rfl, rfl, rfl, trivial⟩ (fun e => ?_)
        refine c_seq (fun K19 hK19 => ?_)
        refine c_reg ?_ -- region 12 load.go:26
        refine wl (ro_move rfl) ?_
        refine wl (ro_arith rfl rfl rfl (Go.IntWalk.i64_in _ (by omega))) ?_
        refine wl (ro_assign rfl) ?_
        refine wl_nil (x_then (hK19 _ _ ?_))
        clear hK19 K19
        refine forget [(0, _), (3, _), (4, _), (5, _), (6, _)] ⟨rfl, rfl, rfl, rfl, rfl, trivial⟩ (fun e => ?_)
        refine c_seq (fun K20 hK20 => ?_)
        refine c_reg ?_ -- region 13 load.go:27
        refine wl (ro_move rfl) ?_
        refine wl (ro_arith rfl rfl rfl (Go.IntWalk.i64_in _ (by omega))) ?_
        refine wl (ro_assign rfl) ?_
        refine wl_nil (x_then (hK20 _ _ ?_))
        clear hK20 K20
        refine c_exit (x_thenX (x_blkX (x_then ?_)))
        refine ⟨rest.length, by rw [hrest]; simp, want, p + 1, nn, s, env, b, ks1, env', ns', by rw [hdr], by rw [hdr]; exact hL1, hE, hEl, hn, hs, by omega, rfl, kp _ ⟨rfl, ?_, ?_, rfl, rfl, trivial⟩⟩
        · show some (Value.int .u8 (((s ||| 2 ^ v : Nat)) : Int)) = some (.int .u8 (s : Int))
          rw [hor]
        · show some (Value.int .i64 (((want + 1 : Nat) : Int) - 1)) = some (.int .i64 (want : Int))
          congr 2; omega
    · try simp only [decide_eq_true_eq, decide_eq_false_iff_not, Bool.not_eq_true', Bool.not_eq_false', Bool.not_eq_eq_eq_not, Bool.not_true, Bool.not_false, beq_iff_eq, bne_iff_ne, ne_eq, beq_eq_false_iff_ne, bne_eq_false_iff_eq, gt_iff_lt, ge_iff_le, Int.not_lt, Int.not_le] at hc19
      obtain ⟨d, code1, ks1, r1, env1, ns1, ks2, ns2, hF, rfl, hD, hL1, hL2, rfl, rfl⟩ := hL.str hc19
      obtain ⟨hdp, hdr2, hpl2⟩ := drop_cons hdr
      have hdd : 48 ≤ d.toNat ∧ d.toNat ≤ 52 := by simpa [isD] using hD
      have hLL := hL1.append hL2
      refine c_skip (x_then (hK10 _ _ ?_))
      clear hK10 K10
      refine c_seq (fun K21 hK21 => ?_)
      refine c_seq (fun K22 hK22 => ?_)
      refine c_reg ?_ -- region 14 load.go:30
      refine wl (ro_move rfl) ?_
      refine wl_call rfl en_100 (isFunctor100 c) ?_
      rintro _ w ⟨rfl, rfl⟩
      rw [hF]
      refine wl (ro_not rfl) ?_
      refine wl (ro_move rfl) ?_
      refine wlg_yes rfl (ro_move rfl) ?_
      refine wlg_yes rfl (ro_arith rfl rfl rfl (Go.IntWalk.i64_in _ (by omega))) ?_
      refine wlg_yes rfl (ro_move rfl) ?_
      refine wlg_yes rfl (ro_lenS rfl st_9) ?_
      refine wlg_yes rfl (ro_cmp (r := false) rfl rfl (by simp; omega)) ?_
      refine wl (ro_pick rfl rfl rfl) ?_
      refine wl (ro_move rfl) ?_
      refine wlg_yes rfl (ro_move rfl) ?_
      refine wlg_yes rfl (ro_move rfl) ?_
      refine wlg_yes rfl (ro_arith rfl rfl rfl (Go.IntWalk.i64_in _ (by omega))) ?_
      refine wlg_yes rfl (ro_indexS rfl rfl st_9 ((by show (_ : Int) = ((p + 1 : Nat) : Int); omega)) (hdp)) ?_
      refine wlg_yes rfl (ro_cmp (r := false) rfl rfl (by simp; omega)) ?_
      refine wl (ro_pick rfl rfl rfl) ?_
      refine wl (ro_move rfl) ?_
      refine wlg_yes rfl (ro_move rfl) ?_
      refine wlg_yes rfl (ro_move rfl) ?_
      refine wlg_yes rfl (ro_arith rfl rfl rfl (Go.IntWalk.i64_in _ (by omega))) ?_
      refine wlg_yes rfl (ro_indexS rfl rfl st_9 ((by show (_ : Int) = ((p + 1 : Nat) : Int); omega)) (hdp)) ?_
      refine wlg_yes rfl (ro_cmp (r := false) rfl rfl (by simp; omega)) ?_
      refine wl (ro_pick rfl rfl rfl) ?_
      refine wl_nil (x_then (hK22 _ _ ?_))
      clear hK22 K22
      refine wc_condF rfl ?_
      refine c_skip (x_then (hK21 _ _ ?_))
      clear hK21 K21
      refine forget [(0, _), (3, _), (4, _), (5, _), (6, _), (40, _), (41, _), (42, _), (43, _), (44, _), (47, _), (48, _), (49, _), (50, _), (51, _), (54, _), (55, _), (56, _), (57, _), (58, _)] ⟨rfl, rfl, rfl, rfl, rfl, rfl, rfl, rfl, rfl, rfl, rfl, rfl, rfl, rfl, rfl, rfl, rfl, rfl, rfl, rfl, trivial⟩ (fun e => ?_)
      refine c_seq (fun K23 hK23 => ?_)
      refine c_reg ?_ -- region 16 load.go:33
      refine wl (ro_move rfl) ?_
      refine wl (ro_move rfl) ?_
      refine wl (ro_move rfl) ?_
      refine wl (ro_arith rfl rfl rfl (Go.IntWalk.i64_in _ (by omega))) ?_
      refine wl (ro_indexS rfl rfl st_9 ((by show (_ : Int) = ((p + 1 : Nat) : Int); omega)) (hdp)) ?_
      refine wl (ro_arith rfl rfl rfl (Go.IntWalk.u8_in _ (by omega))) ?_
      refine wl (ro_conv rfl sc_5 in_3 (Go.IntWalk.i64_in _ (by omega))) ?_
      refine wl (ro_arith rfl rfl rfl (Go.IntWalk.i64_in _ (by omega))) ?_
      refine wl (ro_arith rfl rfl rfl (Go.IntWalk.i64_in _ (by omega))) ?_
      refine wl (ro_assign rfl) ?_
      refine wl_nil (x_then (hK23 _ _ ?_))
      clear hK23 K23
      refine forget [(0, _), (3, _), (4, _), (5, _), (6, _), (40, _), (41, _), (42, _), (43, _), (44, _), (47, _), (48, _), (49, _), (50, _), (51, _), (54, _), (55, _), (56, _), (57, _), (58, _)] ⟨rfl, rfl, rfl, rfl, rfl, rfl, rfl, rfl, rfl, rfl, rfl, rfl, rfl, rfl, rfl, rfl, rfl, rfl, rfl, rfl, trivial⟩ (fun e => ?_)
      refine c_seq (fun K24 hK24 => ?_)
      refine c_reg ?_ -- region 17 load.go:34
      refine wl (ro_move rfl) ?_
      refine wl (ro_arith rfl rfl rfl (Go.IntWalk.i64_in _ (by omega))) ?_
      refine wl (ro_assign rfl) ?_
      refine wl_nil (x_then (hK24 _ _ ?_))
      clear hK24 K24
      refine c_reg ?_ -- region 18 load.go:35
      refine wl (ro_move rfl) ?_
      refine wl (ro_arith rfl rfl rfl (Go.IntWalk.i64_in _ (by omega))) ?_
      refine wl (ro_assign rfl) ?_
      refine wl_nil (x_blk (x_then ?_))
      refine ⟨code1.length, by rw [hrest]; simp; omega, d.toNat - 48 + want, p + 1 + 1, nn + 1, s, env, b + 1, ks1 ++ ks2, env', ns1 ++ ns2, by rw [hdr2], by rw [hdr2]; exact hLL, (fun i a ha => by have := hE i a ha; omega), hEl, by simp at hn ⊢; omega, hs, by omega, rfl, kp _ ⟨rfl, rfl, ?_, rfl, ?_, trivial⟩⟩
      · show some (Value.int .i64 (((want + 1 : Nat) : Int) + (((d.toNat : Int) - 48) - 1))) = some (.int .i64 ((d.toNat - 48 + want : Nat) : Int))
        congr 2; omega
      · show some (Value.int .i64 ((p : Int) + 2)) = some (.int .i64 ((p + 1 + 1 : Nat) : Int))
        congr 2
  · try simp only [decide_eq_true_eq, decide_eq_false_iff_not, Bool.not_eq_true', Bool.not_eq_false', Bool.not_eq_eq_eq_not, Bool.not_true, Bool.not_false, beq_iff_eq, bne_iff_ne, ne_eq, beq_eq_false_iff_ne, bne_eq_false_iff_eq, gt_iff_lt, ge_iff_le, Int.not_lt, Int.not_le] at hc10
    have hw0 : want = 0 := by omega
    subst hw0
    obtain ⟨rfl, h2, rfl, rfl⟩ := hL.inv0
    have hpe : p = code.length := by have := congrArg List.length h2; simp at this; omega
    refine c_exit (x_thenX (x_thenX (x_blkX (x_then (hK4 _ _ ?_)))))
    clear hK5 K5 hK4 K4
    refine c_seq (fun K25 hK25 => ?_)
    refine c_seq (fun K26 hK26 => ?_)
    refine c_reg ?_ -- region 19 load.go:37
    refine wl (ro_move rfl) ?_
    refine wl (ro_move rfl) ?_
    refine wl (ro_lenS rfl st_9) ?_
    refine wl (ro_cmp (r := false) rfl rfl (by simp [hpe])) ?_
    refine wl_nil (x_then (hK26 _ _ ?_))
    clear hK26 K26
    refine wc_condF rfl ?_
    refine c_skip (x_then (hK25 _ _ ?_))
    clear hK25 K25
    refine forget [(5, _)] ⟨rfl, trivial⟩ (fun e => ?_)
    refine c_seq (fun K27 hK27 => ?_)
    refine c_reg ?_ -- region 21 load.go:40
    refine wl (ro_move rfl) ?_
    refine wl (ro_assign rfl) ?_
    refine wl_nil (x_then (hK27 _ _ ?_))
    clear hK27 K27
    refine c_ret ?_
    refine bp_ret Tryz.results55 rfl ?_
    refine ⟨?_, rfl⟩
    simp at hn
    rw [← hn]

end Go.Proofs.Qxb6500569aGreat
