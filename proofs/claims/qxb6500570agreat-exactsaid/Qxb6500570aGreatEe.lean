import Derived.Test.Qxb6500570aGreatEd
import Derived.Test.Qxb6500570aGreatPw
/- The model's graph: what is cyclic, the order. -/
namespace Go.Proofs.Qxb6500570aGreat
set_option linter.unusedVariables false
set_option linter.unusedSimpArgs false

/-- The mask of the cyclic cells. -/
def CycM (R : Nat → Nat) (cy : Nat) : Prop := cy < 2 ^ 24 ∧ ∃ L, LvOK R L ∧ ∀ c, c < 24 → (cy.testBit c = true ↔ L c = -1)
set_option maxHeartbeats 2000000 in
theorem CyclicM122 {w : World} {gm rb lo hi : Nat} {R : Nat → Nat} (h : MGr w gm rb R) (hb : lo ≤ rb ∧ gm < hi) :
    Ret Tryz.prog 122 [ptr gm] w (fun v w' => (∃ cy, v = u32c cy ∧ CycM R cy) ∧ MGr w' gm rb R ∧ Fram (rng lo hi) w w') := by
  have hF : Fram (rng lo hi) w w := Fram.refl _ _
  obtain ⟨hlt, ⟨a, b, hB⟩, RL, hR, hrl, hRR, hRb⟩ := h
  have hm1 : rng lo hi gm := ⟨by omega, by omega⟩
  refine ret_of Tryz.func122 rfl Tryz.ntmps122 rfl ?_
  refine c_seq (fun K1 hK1 => ?_)
  refine c_reg ?_ -- region 0 graphm.go:74
  refine wl (ro_assign rfl) ?_
  refine wl_nil (x_then (hK1 _ _ ?_))
  clear hK1 K1
  refine forget [(0, _)] ⟨rfl, trivial⟩ (fun e => ?_)
  refine c_seq (fun K2 hK2 => ?_)
  refine c_reg ?_ -- region 1 graphm.go:75
  refine wl (ro_move rfl) ?_
  refine wl (ro_nilCheck rfl) ?_
  refine wl (ro_fieldAddr (k := 2) rfl fo_185_2) ?_
  refine wl (ro_loadB rfl sc_3 (by assumption) rfl) ?_
  refine wl (ro_arithW rfl rfl rfl) ?_
  refine wl (ro_nilCheck rfl) ?_
  refine wl (ro_fieldAddr (k := 2) rfl fo_185_2) ?_
  refine wl_put rfl rfl rfl sz_3 hB ((by simp)) ((show _ = [sl rb 24, icv a, icv (IntKind.i64.wrap (b + 1))] from rfl)) (fun w1 hB F1 => ?_)
  replace hF := hF.thenDrew.thenO F1 (by first | exact .inr (by omega) | exact .inl rfl | exact .inl (by assumption))
  replace hR := F1.blkO hR (by omega)
  refine wl_nil (x_then (hK2 _ _ ?_))
  clear hK2 K2
  refine forget [(0, _)] ⟨rfl, trivial⟩ (fun e => ?_)
  refine c_seq (fun K3 hK3 => ?_)
  refine c_reg ?_ -- region 2 graphm.go:76
  refine wl (ro_move rfl) ?_
  refine wl_call rfl en_148 (rounds148 ⟨hlt, ⟨_, _, hB⟩, RL, hR, hrl, hRR, hRb⟩) ?_
  rintro _ u1 ⟨lb, LL, rfl, hlb, hL, hll, hlv, G1⟩
  have hgl := hB.lt
  have hrbl := hR.lt
  replace hF := hF.transG G1 (by intro k hk h; simp only [one, none', rng] at h ⊢ <;> omega)
  replace hB := G1.blkF hB (by intro h; simp only [one, none', rng] at h <;> omega)
  replace hR := G1.blkF hR (by intro h; simp only [one, none', rng] at h <;> omega)
  refine wl (ro_assign rfl) ?_
  refine wl_nil (x_then (hK3 _ _ ?_))
  clear hK3 K3
  refine forget [(3, _)] ⟨rfl, trivial⟩ (fun e => ?_)
  refine c_seq (fun K4 hK4 => ?_)
  refine c_reg ?_ -- region 3 graphm.go:77
  refine wl (ro_assign rfl) ?_
  refine wl_nil (x_then (hK4 _ _ ?_))
  clear hK4 K4
  refine c_seq (fun K5 hK5 => ?_)
  refine c_seq (fun K6 hK6 => ?_)
  refine c_reg ?_ -- region 4 graphm.go:78
  refine wl (ro_assign rfl) ?_
  refine wl_nil (x_then (hK6 _ _ ?_))
  clear hK6 K6
  refine c_block ?_
  -- loop@r5: live slots [3, 4, 5]
  refine c_loopG (fun q a' w' => w' = u1 ∧ ∃ c m, q = 24 - c ∧ c ≤ 24 ∧ m < 2 ^ 24 ∧ (∀ x, x < 24 → (m.testBit x = true ↔ (x < c ∧ lF LL x = -1))) ∧ ∃ e, a' = Fr 29 (upds e [(3, sl lb 24), (4, u32c m), (5, i64c c)]) []) 24 ⟨rfl, 0, 0, rfl, by omega, by decide, fun x hx => ⟨fun q => by simp at q, fun q => by omega⟩, kp _ ⟨rfl, rfl, rfl, trivial⟩⟩ ?_
  rintro q a' w9 ⟨hw9, c, m, rfl, hc, hm, i1, e, rfl⟩
  obtain rfl := hw9.symm
  refine c_seq (fun K7 hK7 => ?_)
  refine c_seq (fun K8 hK8 => ?_)
  refine c_reg ?_ -- region 5 graphm.go:78
  refine wl (ro_move rfl) ?_
  refine wl (ro_cmp (r := decide (c < 24)) rfl rfl (congrArg some (decide_eq_decide.2 (by omega)))) ?_
  refine wl_nil (x_then (hK8 _ _ ?_))
  clear hK8 K8
  refine wc_cond rfl (fun hc16 => ?_) (fun hc16 => ?_)
  · try simp only [decide_eq_true_eq, decide_eq_false_iff_not, Bool.not_eq_true', Bool.not_eq_false', Bool.not_eq_eq_eq_not, Bool.not_true, Bool.not_false, beq_iff_eq, bne_iff_ne, ne_eq, beq_eq_false_iff_ne, bne_eq_false_iff_eq, gt_iff_lt, ge_iff_le, Int.not_lt, Int.not_le] at hc16
    have hbd := hlv.bd c hc16
    have hb2 := bit_lt hc16
    refine c_skip (x_then (hK7 _ _ ?_))
    clear hK7 K7
    refine forget [(3, _), (4, _), (5, _)] ⟨rfl, rfl, rfl, trivial⟩ (fun e => ?_)
    refine c_seq (fun K9 hK9 => ?_)
    refine c_block ?_
    refine c_seq (fun K10 hK10 => ?_)
    refine c_reg ?_ -- region 7 graphm.go:79
    refine wl (ro_move rfl) ?_
    refine wl (ro_move rfl) ?_
    refine wl (ro_indexAddr (et := 3) (k := 1) rfl rfl se_79 rfl (by omega)) ?_
    refine wl (ro_loadB rfl sc_3 (hL) ((rw_get ivc_len (lF_get (RL := LL) (c := c) (by omega)) (j := 0) (by omega) rfl))) ?_
    refine wl (ro_cmp rfl rfl rfl) ?_
    refine wl_nil (x_then (hK10 _ _ ?_))
    clear hK10 K10
    refine wc_cond rfl (fun hc23 => ?_) (fun hc23 => ?_)
    · try simp only [decide_eq_true_eq, decide_eq_false_iff_not, Bool.not_eq_true', Bool.not_eq_false', Bool.not_eq_eq_eq_not, Bool.not_true, Bool.not_false, beq_iff_eq, bne_iff_ne, ne_eq, beq_eq_false_iff_ne, bne_eq_false_iff_eq, gt_iff_lt, ge_iff_le, Int.not_lt, Int.not_le] at hc23
      refine c_reg ?_ -- region 8 graphm.go:80
      refine wl (ro_move rfl) ?_
      refine wl (ro_move rfl) ?_
      refine wl_call rfl en_66 (Bit66 hc16) ?_
      rintro _ w8 ⟨rfl, hw8⟩
      obtain rfl := hw8.symm
      refine wl (ro_or32 rfl rfl (by omega) (by omega)) ?_
      refine wl (ro_assign rfl) ?_
      refine wl_nil (x_blk (x_then (hK9 _ _ ?_)))
      clear hK9 K9
      refine c_reg ?_ -- region 6 graphm.go:78
      refine wl (ro_move rfl) ?_
      refine wl (ro_arith (r := ((c + 1 : Nat) : Int)) rfl rfl rfl (Go.IntWalk.i64_in _ (by omega))) ?_
      refine wl (ro_assign rfl) ?_
      refine wl_nil (x_then ?_)
      first
        | (refine ⟨24 - (c + 1), by omega, rfl, c + 1, m ||| 2 ^ c, rfl, by omega, or_lt hm hb2, fun x hx => ?_, kp _ ⟨rfl, rfl, rfl, trivial⟩⟩
           rw [Nat.testBit_or, Bool.or_eq_true, i1 x hx, bit_pow, decide_eq_true_eq]
           constructor
           · rintro (q | rfl)
             · exact ⟨by omega, q.2⟩
             · exact ⟨by omega, by omega⟩
           · rintro ⟨q1, q2⟩
             by_cases ex : x = c
             · exact .inr ex
             · exact .inl ⟨by omega, q2⟩)
        | (refine ⟨24 - (c + 1), by omega, rfl, c + 1, m, rfl, by omega, hm, fun x hx => ?_, kp _ ⟨rfl, rfl, rfl, trivial⟩⟩
           rw [i1 x hx]
           constructor
           · rintro ⟨q1, q2⟩; exact ⟨by omega, q2⟩
           · rintro ⟨q1, q2⟩
             by_cases ex : x = c
             · subst ex; omega
             · exact ⟨by omega, q2⟩)
    · try simp only [decide_eq_true_eq, decide_eq_false_iff_not, Bool.not_eq_true', Bool.not_eq_false', Bool.not_eq_eq_eq_not, Bool.not_true, Bool.not_false, beq_iff_eq, bne_iff_ne, ne_eq, beq_eq_false_iff_ne, bne_eq_false_iff_eq, gt_iff_lt, ge_iff_le, Int.not_lt, Int.not_le] at hc23
      refine c_skip (x_blk (x_then (hK9 _ _ ?_)))
      clear hK9 K9
      refine c_reg ?_ -- region 6 graphm.go:78
      refine wl (ro_move rfl) ?_
      refine wl (ro_arith (r := ((c + 1 : Nat) : Int)) rfl rfl rfl (Go.IntWalk.i64_in _ (by omega))) ?_
      refine wl (ro_assign rfl) ?_
      refine wl_nil (x_then ?_)
      first
        | (refine ⟨24 - (c + 1), by omega, rfl, c + 1, m ||| 2 ^ c, rfl, by omega, or_lt hm hb2, fun x hx => ?_, kp _ ⟨rfl, rfl, rfl, trivial⟩⟩
           rw [Nat.testBit_or, Bool.or_eq_true, i1 x hx, bit_pow, decide_eq_true_eq]
           constructor
           · rintro (q | rfl)
             · exact ⟨by omega, q.2⟩
             · exact ⟨by omega, by omega⟩
           · rintro ⟨q1, q2⟩
             by_cases ex : x = c
             · exact .inr ex
             · exact .inl ⟨by omega, q2⟩)
        | (refine ⟨24 - (c + 1), by omega, rfl, c + 1, m, rfl, by omega, hm, fun x hx => ?_, kp _ ⟨rfl, rfl, rfl, trivial⟩⟩
           rw [i1 x hx]
           constructor
           · rintro ⟨q1, q2⟩; exact ⟨by omega, q2⟩
           · rintro ⟨q1, q2⟩
             by_cases ex : x = c
             · subst ex; omega
             · exact ⟨by omega, q2⟩)
  · try simp only [decide_eq_true_eq, decide_eq_false_iff_not, Bool.not_eq_true', Bool.not_eq_false', Bool.not_eq_eq_eq_not, Bool.not_true, Bool.not_false, beq_iff_eq, bne_iff_ne, ne_eq, beq_eq_false_iff_ne, bne_eq_false_iff_eq, gt_iff_lt, ge_iff_le, Int.not_lt, Int.not_le] at hc16
    refine c_exit (x_thenX (x_thenX (x_blkX (x_then (hK5 _ _ ?_)))))
    clear hK7 K7 hK5 K5
    refine forget [(4, _)] ⟨rfl, trivial⟩ (fun e => ?_)
    refine c_seq (fun K11 hK11 => ?_)
    refine c_reg ?_ -- region 9 graphm.go:83
    refine wl (ro_move rfl) ?_
    refine wl (ro_assign rfl) ?_
    refine wl_nil (x_then (hK11 _ _ ?_))
    clear hK11 K11
    refine c_ret ?_
    refine bp_ret Tryz.results122 rfl ?_
    have hc24 : c = 24 := by omega
    subst hc24
    exact ⟨⟨m, rfl, hm, lF LL, hlv, fun x hx => by rw [i1 x hx]; exact ⟨fun q => q.2, fun q => ⟨hx, q⟩⟩⟩, ⟨hlt, ⟨_, _, hB⟩, RL, hR, hrl, hRR, hRb⟩, hF⟩

set_option maxHeartbeats 4000000 in
theorem OrderM123 {w : World} {gm rb lo hi s : Nat} {R : Nat → Nat} (h : MGr w gm rb R) (hb : lo ≤ rb ∧ gm < hi) (hs : s < 2 ^ 32) :
    Ret Tryz.prog 123 [ptr gm, u32c s] w (fun v w' => (∃ l L, LvOK R L ∧ OrdOK L s l ∧ Own w'.heap v 3 1 l.length (rws onc l) ∧ ∀ b, v.ownBlock = some b → w.heap.size ≤ b) ∧ MGr w' gm rb R ∧ Fram (rng lo hi) w w') := by
  have hF : Fram (rng lo hi) w w := Fram.refl _ _
  obtain ⟨hlt, ⟨a, b, hB⟩, RL, hR, hrl, hRR, hRb⟩ := h
  have hm1 : rng lo hi gm := ⟨by omega, by omega⟩
  have hgm0 := hB.lt
  have hrb0 := hR.lt
  refine ret_of Tryz.func123 rfl Tryz.ntmps123 rfl ?_
  refine c_seq (fun K1 hK1 => ?_)
  refine c_reg ?_ -- region 0 graphm.go:87
  refine wl (ro_assign rfl) ?_
  refine wl_nil (x_then (hK1 _ _ ?_))
  clear hK1 K1
  refine forget [(0, _), (1, _)] ⟨rfl, rfl, trivial⟩ (fun e => ?_)
  refine c_seq (fun K2 hK2 => ?_)
  refine c_reg ?_ -- region 1 graphm.go:88
  refine wl (ro_move rfl) ?_
  refine wl (ro_nilCheck rfl) ?_
  refine wl (ro_fieldAddr (k := 2) rfl fo_185_2) ?_
  refine wl (ro_loadB rfl sc_3 (by assumption) rfl) ?_
  refine wl (ro_arithW rfl rfl rfl) ?_
  refine wl (ro_nilCheck rfl) ?_
  refine wl (ro_fieldAddr (k := 2) rfl fo_185_2) ?_
  refine wl_put rfl rfl rfl sz_3 hB ((by simp)) ((show _ = [sl rb 24, icv a, icv (IntKind.i64.wrap (b + 1))] from rfl)) (fun w1 hB F1 => ?_)
  replace hF := hF.thenDrew.thenO F1 (by first | exact .inr (by omega) | exact .inl rfl | exact .inl (by assumption))
  replace hR := F1.blkO hR (by omega)
  refine wl_nil (x_then (hK2 _ _ ?_))
  clear hK2 K2
  refine forget [(0, _), (1, _)] ⟨rfl, rfl, trivial⟩ (fun e => ?_)
  refine c_seq (fun K3 hK3 => ?_)
  refine c_reg ?_ -- region 2 graphm.go:89
  refine wl (ro_move rfl) ?_
  refine wl_call rfl en_148 (rounds148 ⟨hlt, ⟨_, _, hB⟩, RL, hR, hrl, hRR, hRb⟩) ?_
  rintro _ u1 ⟨lb, LL, rfl, hlb, hL, hll, hlv, G1⟩
  have hgl := hB.lt
  have hrbl := hR.lt
  have hsz0 := hF.size
  replace hF := hF.transG G1 (by intro k hk h; simp only [one, none', rng] at h ⊢ <;> omega)
  replace hB := G1.blkF hB (by intro h; simp only [one, none', rng] at h <;> omega)
  replace hR := G1.blkF hR (by intro h; simp only [one, none', rng] at h <;> omega)
  refine wl (ro_assign rfl) ?_
  refine wl_nil (x_then (hK3 _ _ ?_))
  clear hK3 K3
  refine forget [(1, _), (5, _)] ⟨rfl, rfl, trivial⟩ (fun e => ?_)
  refine c_seq (fun K4 hK4 => ?_)
  refine c_reg ?_ -- region 3 graphm.go:90
  refine wl (ro_assign rfl) ?_
  refine wl_nil (x_then (hK4 _ _ ?_))
  clear hK4 K4
  refine c_seq (fun K5 hK5 => ?_)
  refine c_seq (fun K6 hK6 => ?_)
  refine c_reg ?_ -- region 4 graphm.go:91
  refine wl (ro_assign rfl) ?_
  refine wl_nil (x_then (hK6 _ _ ?_))
  clear hK6 K6
  refine c_block ?_
  -- loop@r5: live slots [1, 5, 6, 7]
  refine c_loopG (fun q a' w' => ∃ k l V, q = 24 - k ∧ k ≤ 24 ∧ l.length ≤ 24 * k ∧ (∀ x, x ∈ l ↔ (x < 24 ∧ s.testBit x = true ∧ 0 ≤ lF LL x ∧ lF LL x < k)) ∧ l.Pairwise (lexP (lF LL)) ∧ Own w'.heap V 3 1 l.length (rws onc l) ∧ (∀ b, V.ownBlock = some b → w.heap.size ≤ b) ∧ (∀ b, V.ownBlock = some b → b ≠ lb) ∧ Blk w'.heap lb (rws ivc LL) 3 ∧ Blk w'.heap gm [sl rb 24, icv a, icv (IntKind.i64.wrap (b + 1))] 185 ∧ Blk w'.heap rb (rws msc RL) 85 ∧ Fram (rng lo hi) w w' ∧ ∃ e, a' = Fr 44 (upds e [(1, u32c s), (5, sl lb 24), (6, V), (7, i64c k)]) []) 24 ⟨0, [], .slice none 0 0, rfl, by omega, by simp, fun x => ⟨fun q => by simp at q, fun q => by omega⟩, List.Pairwise.nil, Own.nil _ _ _, fun b hb => by simp [Value.ownBlock] at hb, fun b hb => by simp [Value.ownBlock] at hb, hL, hB, hR, hF, kp _ ⟨rfl, rfl, rfl, rfl, trivial⟩⟩ ?_
  clear hB hR hL hF
  rintro q a' u2 ⟨k, l, V, rfl, hk, hll2, i1, i2, hO, hob, hol, hL, hB, hR, hF, e, rfl⟩
  refine c_seq (fun K7 hK7 => ?_)
  refine c_seq (fun K8 hK8 => ?_)
  refine c_reg ?_ -- region 5 graphm.go:91
  refine wl (ro_move rfl) ?_
  refine wl (ro_cmp (r := decide (k < 24)) rfl rfl (congrArg some (decide_eq_decide.2 (by omega)))) ?_
  refine wl_nil (x_then (hK8 _ _ ?_))
  clear hK8 K8
  refine wc_cond rfl (fun hc19 => ?_) (fun hc19 => ?_)
  · try simp only [decide_eq_true_eq, decide_eq_false_iff_not, Bool.not_eq_true', Bool.not_eq_false', Bool.not_eq_eq_eq_not, Bool.not_true, Bool.not_false, beq_iff_eq, bne_iff_ne, ne_eq, beq_eq_false_iff_ne, bne_eq_false_iff_eq, gt_iff_lt, ge_iff_le, Int.not_lt, Int.not_le] at hc19
    refine c_skip (x_then (hK7 _ _ ?_))
    clear hK7 K7
    refine forget [(1, _), (5, _), (6, _), (7, _)] ⟨rfl, rfl, rfl, rfl, trivial⟩ (fun e => ?_)
    refine c_seq (fun K9 hK9 => ?_)
    refine c_block ?_
    refine c_seq (fun K10 hK10 => ?_)
    refine c_reg ?_ -- region 7 graphm.go:92
    refine wl (ro_assign rfl) ?_
    refine wl_nil (x_then (hK10 _ _ ?_))
    clear hK10 K10
    refine c_block ?_
    -- loop@r8: live slots [1, 5, 6, 7, 8]
    refine c_loopG (fun q a' w' => ∃ c l V, q = 24 - c ∧ c ≤ 24 ∧ l.length ≤ 24 * k + c ∧ (∀ x, x ∈ l ↔ (x < 24 ∧ s.testBit x = true ∧ 0 ≤ lF LL x ∧ (lF LL x < k ∨ (lF LL x = k ∧ x < c)))) ∧ l.Pairwise (lexP (lF LL)) ∧ Own w'.heap V 3 1 l.length (rws onc l) ∧ (∀ b, V.ownBlock = some b → w.heap.size ≤ b) ∧ (∀ b, V.ownBlock = some b → b ≠ lb) ∧ Blk w'.heap lb (rws ivc LL) 3 ∧ Blk w'.heap gm [sl rb 24, icv a, icv (IntKind.i64.wrap (b + 1))] 185 ∧ Blk w'.heap rb (rws msc RL) 85 ∧ Fram (rng lo hi) w w' ∧ ∃ e, a' = Fr 44 (upds e [(1, u32c s), (5, sl lb 24), (6, V), (7, i64c k), (8, i64c c)]) []) 24 ⟨0, l, V, rfl, by omega, by omega, fun x => by rw [i1]; constructor <;> (rintro ⟨q1, q2, q3, q4⟩; exact ⟨q1, q2, q3, by omega⟩), i2, hO, hob, hol, hL, hB, hR, hF, kp _ ⟨rfl, rfl, rfl, rfl, rfl, trivial⟩⟩ ?_
    clear hB hR hL hF hO hob hol i1 i2 hll2
    rintro q a' u3 ⟨c, l, V, rfl, hc, hll2, i1, i2, hO, hob, hol, hL, hB, hR, hF, e, rfl⟩
    have hsz3 := hF.size
    refine c_seq (fun K11 hK11 => ?_)
    refine c_seq (fun K12 hK12 => ?_)
    refine c_reg ?_ -- region 8 graphm.go:92
    refine wl (ro_move rfl) ?_
    refine wl (ro_cmp (r := decide (c < 24)) rfl rfl (congrArg some (decide_eq_decide.2 (by omega)))) ?_
    refine wl_nil (x_then (hK12 _ _ ?_))
    clear hK12 K12
    refine wc_cond rfl (fun hc23 => ?_) (fun hc23 => ?_)
    · try simp only [decide_eq_true_eq, decide_eq_false_iff_not, Bool.not_eq_true', Bool.not_eq_false', Bool.not_eq_eq_eq_not, Bool.not_true, Bool.not_false, beq_iff_eq, bne_iff_ne, ne_eq, beq_eq_false_iff_ne, bne_eq_false_iff_eq, gt_iff_lt, ge_iff_le, Int.not_lt, Int.not_le] at hc23
      have hlb9 := hL.lt
      refine c_skip (x_then (hK11 _ _ ?_))
      clear hK11 K11
      refine forget [(1, _), (5, _), (6, _), (7, _), (8, _)] ⟨rfl, rfl, rfl, rfl, rfl, trivial⟩ (fun e => ?_)
      refine c_seq (fun K13 hK13 => ?_)
      refine c_block ?_
      refine c_seq (fun K14 hK14 => ?_)
      refine c_reg ?_ -- region 10 graphm.go:93
      refine wl (ro_move rfl) ?_
      refine wl (ro_move rfl) ?_
      refine wl (ro_indexAddr (et := 3) (k := 1) rfl rfl se_79 rfl (by omega)) ?_
      refine wl (ro_loadB rfl sc_3 (hL) ((rw_get ivc_len (lF_get (RL := LL) (c := c) (by omega)) (j := 0) (by omega) rfl))) ?_
      refine wl (ro_move rfl) ?_
      refine wl (ro_cmp rfl rfl rfl) ?_
      refine wl_fork rfl (fun hg32 => ?_) (fun hg32 => ?_)
      · try simp only [decide_eq_true_eq, decide_eq_false_iff_not, Bool.not_eq_true', Bool.not_eq_false', Bool.not_eq_eq_eq_not, Bool.not_true, Bool.not_false, beq_iff_eq, bne_iff_ne, ne_eq, beq_eq_false_iff_ne, bne_eq_false_iff_eq, gt_iff_lt, ge_iff_le, Int.not_lt, Int.not_le] at hg32
        refine wlg_yes rfl (ro_move rfl) ?_
        refine wlg_yes rfl (ro_move rfl) ?_
        refine wlg_call rfl rfl en_66 (Bit66 hc23) ?_
        rintro _ w8 ⟨rfl, hw8⟩
        obtain rfl := hw8.symm
        refine wlg_yes rfl (ro_and32 rfl rfl hs (Nat.pow_lt_pow_right (by omega) (by omega))) ?_
        refine wlg_yes rfl (ro_cmp (r := s.testBit c) rfl rfl (congrArg some (bit_and s c))) ?_
        refine wl (ro_pick rfl rfl rfl) ?_
        refine wl_nil (x_then (hK14 _ _ ?_))
        clear hK14 K14
        refine wc_cond rfl (fun hc38 => ?_) (fun hc38 => ?_)
        · try simp only [decide_eq_true_eq, decide_eq_false_iff_not, Bool.not_eq_true', Bool.not_eq_false', Bool.not_eq_eq_eq_not, Bool.not_true, Bool.not_false, beq_iff_eq, bne_iff_ne, ne_eq, beq_eq_false_iff_ne, bne_eq_false_iff_eq, gt_iff_lt, ge_iff_le, Int.not_lt, Int.not_le] at hc38
          refine c_reg ?_ -- region 11 graphm.go:94
          refine wl (ro_move rfl) ?_
          refine wl (ro_move rfl) ?_
          skip
          refine wl_bsapp (cs := onc c) rfl rfl rfl rfl se_79 zx_3 by_3 rfl rfl (onc_len c) (by simp [Value.oneCell', i64c]) hO (by omega) (by omega) (fun VX u4 hO4 G4 hnb4 ↦ ?_)
          have hwn : ∀ b, V.ownBlock = some b → w.heap.size ≤ b := hob
          replace hL := G4.blkF hL (fun h => hol _ h rfl)
          replace hB := G4.blkF hB (fun h => by have := hob _ h; omega)
          replace hR := G4.blkF hR (fun h => by have := hob _ h; omega)
          replace hF := hF.trans' G4 (fun x hx h => absurd (hob _ h) (by omega))
          refine wl (ro_assign rfl) ?_
          refine wl_nil (x_blk (x_then (hK13 _ _ ?_)))
          clear hK13 K13
          refine c_reg ?_ -- region 9 graphm.go:92
          refine wl (ro_move rfl) ?_
          refine wl (ro_arith (r := ((c + 1 : Nat) : Int)) rfl rfl rfl (Go.IntWalk.i64_in _ (by omega))) ?_
          refine wl (ro_assign rfl) ?_
          refine wl_nil (x_then ?_)
          first
            | (have hlc : lF LL c = k := by assumption
               have hsc : s.testBit c = true := by assumption
               refine ⟨24 - (c + 1), by omega, c + 1, l ++ [c], VX, rfl, by omega, by rw [List.length_append, List.length_singleton]; omega, fun x => ?_, ?_, by rw [rws_app, rws_one, List.length_append]; exact hO4, fun b hb => ?_, fun b hb => ?_, hL, hB, hR, hF, kp _ ⟨rfl, rfl, rfl, rfl, rfl, trivial⟩⟩
               · rw [List.mem_append, List.mem_singleton, i1]
                 constructor
                 · rintro (⟨q1, q2, q3, q4⟩ | rfl)
                   · exact ⟨q1, q2, q3, by omega⟩
                   · exact ⟨hc23, hsc, by omega, by omega⟩
                 · rintro ⟨q1, q2, q3, q4⟩
                   by_cases ex : x = c
                   · exact .inr ex
                   · exact .inl ⟨q1, q2, q3, by omega⟩
               · rw [List.pairwise_append]
                 refine ⟨i2, List.pairwise_singleton _ _, fun x hx y hy => ?_⟩
                 rw [List.mem_singleton] at hy
                 subst hy
                 have := (i1 x).1 hx
                 unfold lexP
                 omega
               · rcases hnb4 b hb with q | q
                 · exact hob b q
                 · have := hsz3; omega
               · rcases hnb4 b hb with q | q
                 · exact hol b q
                 · have := hlb9; omega)
            | (refine ⟨24 - (c + 1), by omega, c + 1, l, V, rfl, by omega, by omega, fun x => ?_, i2, hO, hob, hol, hL, hB, hR, hF, kp _ ⟨rfl, rfl, rfl, rfl, rfl, trivial⟩⟩
               rw [i1]
               constructor
               · rintro ⟨q1, q2, q3, q4⟩; exact ⟨q1, q2, q3, by omega⟩
               · rintro ⟨q1, q2, q3, q4⟩
                 refine ⟨q1, q2, q3, ?_⟩
                 by_cases ex : x = c
                 · subst ex
                   first
                     | omega
                     | (have hsn : s.testBit x = false := by assumption
                        rw [hsn] at q2; cases q2)
                 · omega)
        · try simp only [decide_eq_true_eq, decide_eq_false_iff_not, Bool.not_eq_true', Bool.not_eq_false', Bool.not_eq_eq_eq_not, Bool.not_true, Bool.not_false, beq_iff_eq, bne_iff_ne, ne_eq, beq_eq_false_iff_ne, bne_eq_false_iff_eq, gt_iff_lt, ge_iff_le, Int.not_lt, Int.not_le] at hc38
          refine c_skip (x_blk (x_then (hK13 _ _ ?_)))
          clear hK13 K13
          refine c_reg ?_ -- region 9 graphm.go:92
          refine wl (ro_move rfl) ?_
          refine wl (ro_arith (r := ((c + 1 : Nat) : Int)) rfl rfl rfl (Go.IntWalk.i64_in _ (by omega))) ?_
          refine wl (ro_assign rfl) ?_
          refine wl_nil (x_then ?_)
          first
            | (have hlc : lF LL c = k := by assumption
               have hsc : s.testBit c = true := by assumption
               refine ⟨24 - (c + 1), by omega, c + 1, l ++ [c], VX, rfl, by omega, by rw [List.length_append, List.length_singleton]; omega, fun x => ?_, ?_, by rw [rws_app, rws_one, List.length_append]; exact hO4, fun b hb => ?_, fun b hb => ?_, hL, hB, hR, hF, kp _ ⟨rfl, rfl, rfl, rfl, rfl, trivial⟩⟩
               · rw [List.mem_append, List.mem_singleton, i1]
                 constructor
                 · rintro (⟨q1, q2, q3, q4⟩ | rfl)
                   · exact ⟨q1, q2, q3, by omega⟩
                   · exact ⟨hc23, hsc, by omega, by omega⟩
                 · rintro ⟨q1, q2, q3, q4⟩
                   by_cases ex : x = c
                   · exact .inr ex
                   · exact .inl ⟨q1, q2, q3, by omega⟩
               · rw [List.pairwise_append]
                 refine ⟨i2, List.pairwise_singleton _ _, fun x hx y hy => ?_⟩
                 rw [List.mem_singleton] at hy
                 subst hy
                 have := (i1 x).1 hx
                 unfold lexP
                 omega
               · rcases hnb4 b hb with q | q
                 · exact hob b q
                 · have := hsz3; omega
               · rcases hnb4 b hb with q | q
                 · exact hol b q
                 · have := hlb9; omega)
            | (refine ⟨24 - (c + 1), by omega, c + 1, l, V, rfl, by omega, by omega, fun x => ?_, i2, hO, hob, hol, hL, hB, hR, hF, kp _ ⟨rfl, rfl, rfl, rfl, rfl, trivial⟩⟩
               rw [i1]
               constructor
               · rintro ⟨q1, q2, q3, q4⟩; exact ⟨q1, q2, q3, by omega⟩
               · rintro ⟨q1, q2, q3, q4⟩
                 refine ⟨q1, q2, q3, ?_⟩
                 by_cases ex : x = c
                 · subst ex
                   first
                     | omega
                     | (have hsn : s.testBit x = false := by assumption
                        rw [hsn] at q2; cases q2)
                 · omega)
      · try simp only [decide_eq_true_eq, decide_eq_false_iff_not, Bool.not_eq_true', Bool.not_eq_false', Bool.not_eq_eq_eq_not, Bool.not_true, Bool.not_false, beq_iff_eq, bne_iff_ne, ne_eq, beq_eq_false_iff_ne, bne_eq_false_iff_eq, gt_iff_lt, ge_iff_le, Int.not_lt, Int.not_le] at hg32
        refine wlg_no rfl ?_
        refine wlg_no rfl ?_
        refine wlg_no rfl ?_
        refine wlg_no rfl ?_
        refine wlg_no rfl ?_
        refine wl (ro_pick rfl rfl rfl) ?_
        refine wl_nil (x_then (hK14 _ _ ?_))
        clear hK14 K14
        refine wc_condF rfl ?_
        refine c_skip (x_blk (x_then (hK13 _ _ ?_)))
        clear hK13 K13
        refine c_reg ?_ -- region 9 graphm.go:92
        refine wl (ro_move rfl) ?_
        refine wl (ro_arith (r := ((c + 1 : Nat) : Int)) rfl rfl rfl (Go.IntWalk.i64_in _ (by omega))) ?_
        refine wl (ro_assign rfl) ?_
        refine wl_nil (x_then ?_)
        first
          | (have hlc : lF LL c = k := by assumption
             have hsc : s.testBit c = true := by assumption
             refine ⟨24 - (c + 1), by omega, c + 1, l ++ [c], VX, rfl, by omega, by rw [List.length_append, List.length_singleton]; omega, fun x => ?_, ?_, by rw [rws_app, rws_one, List.length_append]; exact hO4, fun b hb => ?_, fun b hb => ?_, hL, hB, hR, hF, kp _ ⟨rfl, rfl, rfl, rfl, rfl, trivial⟩⟩
             · rw [List.mem_append, List.mem_singleton, i1]
               constructor
               · rintro (⟨q1, q2, q3, q4⟩ | rfl)
                 · exact ⟨q1, q2, q3, by omega⟩
                 · exact ⟨hc23, hsc, by omega, by omega⟩
               · rintro ⟨q1, q2, q3, q4⟩
                 by_cases ex : x = c
                 · exact .inr ex
                 · exact .inl ⟨q1, q2, q3, by omega⟩
             · rw [List.pairwise_append]
               refine ⟨i2, List.pairwise_singleton _ _, fun x hx y hy => ?_⟩
               rw [List.mem_singleton] at hy
               subst hy
               have := (i1 x).1 hx
               unfold lexP
               omega
             · rcases hnb4 b hb with q | q
               · exact hob b q
               · have := hsz3; omega
             · rcases hnb4 b hb with q | q
               · exact hol b q
               · have := hlb9; omega)
          | (refine ⟨24 - (c + 1), by omega, c + 1, l, V, rfl, by omega, by omega, fun x => ?_, i2, hO, hob, hol, hL, hB, hR, hF, kp _ ⟨rfl, rfl, rfl, rfl, rfl, trivial⟩⟩
             rw [i1]
             constructor
             · rintro ⟨q1, q2, q3, q4⟩; exact ⟨q1, q2, q3, by omega⟩
             · rintro ⟨q1, q2, q3, q4⟩
               refine ⟨q1, q2, q3, ?_⟩
               by_cases ex : x = c
               · subst ex
                 first
                   | omega
                   | (have hsn : s.testBit x = false := by assumption
                      rw [hsn] at q2; cases q2)
               · omega)
    · try simp only [decide_eq_true_eq, decide_eq_false_iff_not, Bool.not_eq_true', Bool.not_eq_false', Bool.not_eq_eq_eq_not, Bool.not_true, Bool.not_false, beq_iff_eq, bne_iff_ne, ne_eq, beq_eq_false_iff_ne, bne_eq_false_iff_eq, gt_iff_lt, ge_iff_le, Int.not_lt, Int.not_le] at hc23
      have hc24 : c = 24 := by omega
      subst hc24
      refine c_exit (x_thenX (x_thenX (x_blkX (x_blk (x_then (hK9 _ _ ?_))))))
      clear hK11 K11 hK9 K9
      refine c_reg ?_ -- region 6 graphm.go:91
      refine wl (ro_move rfl) ?_
      refine wl (ro_arith (r := ((k + 1 : Nat) : Int)) rfl rfl rfl (Go.IntWalk.i64_in _ (by omega))) ?_
      refine wl (ro_assign rfl) ?_
      refine wl_nil (x_then ?_)
      refine ⟨24 - (k + 1), by omega, k + 1, l, V, rfl, by omega, by omega, fun x => ?_, i2, hO, hob, hol, hL, hB, hR, hF, kp _ ⟨rfl, rfl, rfl, rfl, trivial⟩⟩
      rw [i1]
      constructor <;> (rintro ⟨q1, q2, q3, q4⟩; exact ⟨q1, q2, q3, by omega⟩)
  · try simp only [decide_eq_true_eq, decide_eq_false_iff_not, Bool.not_eq_true', Bool.not_eq_false', Bool.not_eq_eq_eq_not, Bool.not_true, Bool.not_false, beq_iff_eq, bne_iff_ne, ne_eq, beq_eq_false_iff_ne, bne_eq_false_iff_eq, gt_iff_lt, ge_iff_le, Int.not_lt, Int.not_le] at hc19
    refine c_exit (x_thenX (x_thenX (x_blkX (x_then (hK5 _ _ ?_)))))
    clear hK7 K7 hK5 K5
    refine forget [(6, _)] ⟨rfl, trivial⟩ (fun e => ?_)
    refine c_seq (fun K15 hK15 => ?_)
    refine c_reg ?_ -- region 12 graphm.go:98
    refine wl (ro_move rfl) ?_
    refine wl (ro_assign rfl) ?_
    refine wl_nil (x_then (hK15 _ _ ?_))
    clear hK15 K15
    refine c_ret ?_
    refine bp_ret Tryz.results123 rfl ?_
    have hk24 : k = 24 := by omega
    subst hk24
    refine ⟨⟨l, lF LL, hlv, ⟨fun x => ?_, i2⟩, hO, hob⟩, ⟨hlt, ⟨_, _, hB⟩, RL, hR, hrl, hRR, hRb⟩, hF⟩
    rw [i1]
    constructor
    · rintro ⟨q1, q2, q3, -⟩; exact ⟨q1, q2, q3⟩
    · rintro ⟨q1, q2, q3⟩; exact ⟨q1, q2, q3, by have := (hlv.bd x q1).2; omega⟩

end Go.Proofs.Qxb6500570aGreat
