import Derived.Test.Qxb6500568aGreatDoorEf
/- The real parser: its memory, its small functions. -/
namespace Go.Proofs.Qxb6500568aGreatDoor
open Ieee
set_option linter.unusedVariables false
set_option linter.unusedSimpArgs false

theorem skipL_ge : ∀ (b : Bool) (s : Str) (p : Nat), p ≤ (skipL b s p).2 := by
  intro b s
  induction s generalizing b with
  | nil => intro p; cases b <;> simp [skipL]
  | cons c r ih =>
    intro p
    cases b
    · simp only [skipL]
      split
      · have := ih false (p + 1); omega
      · split
        · have := ih true (p + 1); omega
        · exact Nat.le_refl _
    · simp only [skipL]
      split
      · have := ih false (p + 1); omega
      · have := ih true (p + 1); omega
theorem toksF_ne {n : Nat} {s : Str} {p : Nat} (h : s.length < n) : toksF n s p ≠ [] := by
  cases n with
  | zero => omega
  | succ n =>
    unfold toksF
    split
    · simp
    · split <;> simp
/-- Behind a token that is neither the end nor bad there is one more. -/
theorem toksF_more : ∀ (n : Nat) (s : Str) (p : Nat), s.length < n → ∀ (i : Nat) (t : Tok), (toksF n s p)[i]? = some t → 1 < t.k → i + 1 < (toksF n s p).length
  | 0, _, _, h, _, _, _, _ => by omega
  | n + 1, s, p, h, i, t, hi, hk => by
    have hl := skipL_len false s p
    unfold toksF at hi ⊢
    split at hi
    · cases i with
      | zero => simp at hi; subst hi; simp at hk
      | succ i => simp at hi
    · rename_i c r q hq
      rw [hq] at hl
      simp only [List.length_cons] at hl
      split at hi
      · rename_i h1
        cases i with
        | zero => simp at hi; subst hi; omega
        | succ i => simp at hi
      · rename_i h1
        rw [if_neg h1]
        have hp := tokAt_pos c r q
        have hlen : ((c :: r).drop (tokAt c r q).2).length < n := by
          rw [List.length_drop, List.length_cons]
          have := skipL_ge false s p
          rw [hq] at this
          simp only at this
          omega
        cases i with
        | zero =>
          have := toksF_ne (p := q + (tokAt c r q).2) hlen
          have := List.length_pos_iff.2 this
          simp only [List.length_cons]; omega
        | succ i =>
          rw [List.getElem?_cons_succ] at hi
          have := toksF_more n _ _ hlen i t hi hk
          simp only [List.length_cons]; omega
def TkM (L : List Tok) : Prop := ∀ (i : Nat) t, L[i]? = some t → 1 < t.k → i + 1 < L.length
theorem toks_more (s : Str) : TkM (toks s) := fun i t h1 h2 => toksF_more _ s 0 (by omega) i t h1 h2
theorem toks_ne (s : Str) : toks s ≠ [] := toksF_ne (by omega)

/-- The tokens that the parser reads. -/
structure TkB (w : World) (tb cap : Nat) (L : List Tok) : Prop where
  bl : ∃ l, Blk w.heap tb l 182 ∧ ∀ (j : Nat) y, L[j]? = some y → (l.drop (0 + j * 5)).take 5 = tkc y
  more : TkM L
  len : L.length ≤ 2049
theorem TkB.far {w w' : World} {tb cap : Nat} {L : List Tok} {G : Nat → Prop} (h : TkB w tb cap L) (f : Fram G w w') (hn : ¬ G tb) : TkB w' tb cap L := by
  obtain ⟨l, h1, h2⟩ := h.bl
  exact ⟨⟨l, h1.fram f hn, h2⟩, h.more, h.len⟩
/-- The parser's cells. -/
def prc (tb cap i : Nat) (L : List Tok) (t : Tok) (al lo fu : Nat) : List Value := [.slice (some ⟨tb, 0, none⟩) L.length cap, i64c i, i64c t.k, i64c t.pl, S t.s, u64c t.n, i64c t.e, i64c al, i64c lo, i64c fu, i64c 0, i64c 0]
/-- The parser in the state s. -/
structure PrV (w : World) (pb tb cap : Nat) (L : List Tok) (s : PS) : Prop where
  ex : ∃ i, Blk w.heap pb (prc tb cap i L s.cur s.al s.lo s.fu) 186 ∧ L[i]? = some s.cur ∧ s.tk = L.drop i
  al : s.al ≤ 12
  lo : s.lo ≤ 100
  fu : s.fu ≤ 100
/-- The parser has met an error. -/
def PrE (w : World) (pb : Nat) (e p : Nat) : Prop := ∃ cs, cs.length = 10 ∧ Blk w.heap pb (cs ++ [i64c e, i64c p]) 186
def PrF (w : World) (pb : Nat) (e : Nat) (s : PS) : Prop := PrE w pb (if s.k = 1 then s.cur.e else e) s.cur.pl
theorem PrV.far {w w' : World} {pb tb cap : Nat} {L : List Tok} {s : PS} {G : Nat → Prop} (h : PrV w pb tb cap L s) (f : Fram G w w') (hn : ¬ G pb) : PrV w' pb tb cap L s := by
  obtain ⟨i, h1, h2, h3⟩ := h.ex
  exact ⟨⟨i, h1.fram f hn, h2, h3⟩, h.al, h.lo, h.fu⟩
theorem PrV.farN {w w' : World} {pb tb cap : Nat} {L : List Tok} {s : PS} (h : PrV w pb tb cap L s) (f : Fram none' w w') : PrV w' pb tb cap L s := h.far f (fun h => h)
theorem TkB.farN {w w' : World} {tb cap : Nat} {L : List Tok} (h : TkB w tb cap L) (f : Fram none' w w') : TkB w' tb cap L := h.far f (fun h => h)
theorem cur_at {L : List Tok} {i : Nat} {s : PS} {t : Tok} (h : s.tk = L.drop i) (ht : L[i]? = some t) : s.cur = t := by
  unfold PS.cur
  rw [h, List.headD_eq_head?_getD, List.head?_drop, ht]
  rfl
theorem next176 {w : World} {pb tb cap : Nat} {L : List Tok} {s : PS} (hP : PrV w pb tb cap L s) (hT : TkB w tb cap L) (hne : tb ≠ pb) (hk : 1 < s.k) : Ret Tryz.prog 176 [ptr pb] w (fun r w' => r = .tuple #[] ∧ PrV w' pb tb cap L s.adv ∧ Fram (one pb) w w') := by
  obtain ⟨i, hX, hi, hs⟩ := hP.ex
  obtain ⟨l, hB, hl⟩ := hT.bl
  have hm := hT.more i _ hi hk
  have hlen := hT.len
  obtain ⟨t, ht⟩ : ∃ t, L[i + 1]? = some t := ⟨_, List.getElem?_eq_getElem hm⟩
  have hF : Fram (one pb) w w := Fram.refl _ _
  have hmpb : one pb pb := rfl
  unfold prc at hX
  refine ret_of Tryz.func176 rfl Tryz.ntmps176 rfl ?_
  refine c_seq (fun K1 hK1 => ?_)
  refine c_reg ?_ -- region 0 expr.go:25
  refine wl (ro_move rfl) ?_
  refine wl (ro_nilCheck rfl) ?_
  refine wl (ro_fieldAddr (k := 1) rfl fo_186_1) ?_
  refine wl (ro_loadB rfl sc_3 (by assumption) rfl) ?_
  refine wl (ro_arith rfl rfl rfl (Go.IntWalk.i64_in _ (by omega))) ?_
  refine wl (ro_nilCheck rfl) ?_
  refine wl (ro_fieldAddr (k := 1) rfl fo_186_1) ?_
  refine wl_put rfl rfl rfl sz_3 hX (by simp) (rfl) (fun w1 hX F1 => ?_)
  replace hF := hF.thenDrew.thenO F1 (by first | exact .inr (by omega) | exact .inl rfl | exact .inl (by assumption) | assumption)
  replace hB := F1.blkO hB (by omega)
  refine wl_nil (x_then (hK1 _ _ ?_))
  clear hK1 K1
  refine c_piL 13 [(0, false), (1, false), (2, false), (3, false), (4, false), (5, false), (6, false), (7, false), (8, false), (9, false), (10, false), (11, false), (12, false)] (fun w => Blk w.heap pb (List.set [.slice (some ⟨tb, 0, none⟩) L.length cap, i64c i, i64c s.cur.k, i64c s.cur.pl, S s.cur.s, u64c s.cur.n, i64c s.cur.e, i64c s.al, i64c s.lo, i64c s.fu, i64c 0, i64c 0] 1 (i64c (i + 1))) 186 ∧ Blk w.heap tb l 182) mixed (by kernel_rfl) rfl (by kernel_rfl) (po_bp) (⟨hX, hB⟩) ?_ -- region 1 expr.go:26
  refine ql_ro rfl (fun w hS => ro_move rfl) ?_
  refine ql_ro rfl (fun w hS => ro_move rfl) ?_
  refine ql_ro rfl (fun w hS => ro_nilCheck rfl) ?_
  refine ql_ro rfl (fun w hS => ro_fieldAddr (k := 0) rfl fo_186_0) ?_
  refine ql_ro rfl (fun w hS => ro_loadB rfl sc_76 (hS.1) rfl) ?_
  refine ql_ro rfl (fun w hS => ro_move rfl) ?_
  refine ql_ro rfl (fun w hS => ro_nilCheck rfl) ?_
  refine ql_ro rfl (fun w hS => ro_fieldAddr (k := 1) rfl fo_186_1) ?_
  refine ql_ro rfl (fun w hS => ro_loadB rfl sc_3 (hS.1) rfl) ?_
  refine ql_ro rfl (fun w hS => ro_indexAddr (et := 182) (k := 5) rfl rfl se_76 (rfl) ((by omega))) ?_
  refine ql_ro rfl (fun w hS => ro_loadAggB rfl ag_182 (hS.2) ((tkc_len t)) ((hl (i + 1) t ht))) ?_
  refine ql_ro rfl (fun w hS => ro_nilCheck rfl) ?_
  refine ql_ro rfl (fun w hS => ro_fieldAddr (k := 2) rfl fo_186_2) ?_
  refine ql_puta rfl rfl rfl ((tkc_one t)) sz_182 (rfl) hX ((by simp)) (rfl) (fun w2 hX F2 => ?_)
  replace hF := hF.thenDrew.thenO F2 (by first | exact .inr (by omega) | exact .inl rfl | exact .inl (by assumption) | assumption)
  replace hB := F2.blkO hB (by omega)
  refine ?_
  refine bp_end Tryz.results176 rfl ?_
  have hc : s.adv.cur = t := cur_at (L := L) (i := i + 1) (by unfold PS.adv; rw [hs]; simp [List.tail_drop]) ht
  refine ⟨rfl, ⟨⟨i + 1, ?_, by rw [hc]; exact ht, by unfold PS.adv; rw [hs]; simp [List.tail_drop]⟩, hP.al, hP.lo, hP.fu⟩, hF⟩
  rw [hc]
  exact hX
theorem fail77 {w : World} {pb tb cap e : Nat} {L : List Tok} {s : PS} (hP : PrV w pb tb cap L s) : Ret Tryz.prog 77 [ptr pb, i64c e] w (fun r w' => r = .tuple #[] ∧ PrF w' pb e s ∧ Fram (one pb) w w') := by
  obtain ⟨i, hX, hi, hs⟩ := hP.ex
  have hF : Fram (one pb) w w := Fram.refl _ _
  have hmpb : one pb pb := rfl
  unfold prc at hX
  refine ret_of Tryz.func77 rfl Tryz.ntmps77 rfl ?_
  refine c_seq (fun K1 hK1 => ?_)
  refine c_seq (fun K2 hK2 => ?_)
  refine c_reg ?_ -- region 0 expr.go:31
  refine wl (ro_move rfl) ?_
  refine wl (ro_nilCheck rfl) ?_
  refine wl (ro_fieldAddr (k := 2) rfl fo_186_2) ?_
  refine wl (ro_fieldAddr (k := 0) rfl fo_182_0) ?_
  refine wl (ro_loadB rfl sc_180 (by assumption) rfl) ?_
  refine wl (ro_cmp rfl rfl rfl) ?_
  refine wl_nil (x_then (hK2 _ _ ?_))
  clear hK2 K2
  refine wc_cond rfl (fun hc9 => ?_) (fun hc9 => ?_)
  · try simp only [decide_eq_true_eq, decide_eq_false_iff_not, Bool.not_eq_true', Bool.not_eq_false', Bool.not_eq_eq_eq_not, Bool.not_true, Bool.not_false, beq_iff_eq, bne_iff_ne, ne_eq, beq_eq_false_iff_ne, bne_eq_false_iff_eq, gt_iff_lt, ge_iff_le, Int.not_lt, Int.not_le] at hc9
    have hk1 : s.k = 1 := by show s.cur.k = 1; omega
    refine c_reg ?_ -- region 1 expr.go:32
    refine wl (ro_move rfl) ?_
    refine wl (ro_nilCheck rfl) ?_
    refine wl (ro_fieldAddr (k := 2) rfl fo_186_2) ?_
    refine wl (ro_fieldAddr (k := 4) rfl fo_182_4) ?_
    refine wl (ro_loadB rfl sc_54 (by assumption) rfl) ?_
    refine wl (ro_assign rfl) ?_
    refine wl_nil (x_then (hK1 _ _ ?_))
    clear hK1 K1
    refine forget [(0, _), (1, _)] ⟨rfl, rfl, trivial⟩ (fun e => ?_)
    refine c_seq (fun K3 hK3 => ?_)
    refine c_reg ?_ -- region 2 expr.go:34
    refine wl (ro_move rfl) ?_
    refine wl (ro_move rfl) ?_
    refine wl (ro_nilCheck rfl) ?_
    refine wl (ro_fieldAddr (k := 10) rfl fo_186_5) ?_
    refine wl_put rfl rfl rfl sz_54 hX (by simp) (rfl) (fun w1 hX F1 => ?_)
    replace hF := hF.thenDrew.thenO F1 (by first | exact .inr (by omega) | exact .inl rfl | exact .inl (by assumption) | assumption)
    refine wl_nil (x_then (hK3 _ _ ?_))
    clear hK3 K3
    refine c_reg ?_ -- region 3 expr.go:35
    refine wl (ro_move rfl) ?_
    refine wl (ro_move rfl) ?_
    refine wl (ro_nilCheck rfl) ?_
    refine wl (ro_fieldAddr (k := 2) rfl fo_186_2) ?_
    refine wl (ro_fieldAddr (k := 1) rfl fo_182_1) ?_
    refine wl (ro_loadB rfl sc_3 (by assumption) rfl) ?_
    refine wl (ro_nilCheck rfl) ?_
    refine wl (ro_fieldAddr (k := 11) rfl fo_186_6) ?_
    refine wl_put rfl rfl rfl sz_3 hX (by simp) (rfl) (fun w2 hX F2 => ?_)
    replace hF := hF.thenDrew.thenO F2 (by first | exact .inr (by omega) | exact .inl rfl | exact .inl (by assumption) | assumption)
    refine wl_nil ?_
    refine bp_end Tryz.results77 rfl ?_
    exact ⟨rfl, ⟨[.slice (some ⟨tb, 0, none⟩) L.length cap, i64c i, i64c s.cur.k, i64c s.cur.pl, S s.cur.s, u64c s.cur.n, i64c s.cur.e, i64c s.al, i64c s.lo, i64c s.fu], rfl, by rw [if_pos hk1]; exact hX⟩, hF⟩
  · try simp only [decide_eq_true_eq, decide_eq_false_iff_not, Bool.not_eq_true', Bool.not_eq_false', Bool.not_eq_eq_eq_not, Bool.not_true, Bool.not_false, beq_iff_eq, bne_iff_ne, ne_eq, beq_eq_false_iff_ne, bne_eq_false_iff_eq, gt_iff_lt, ge_iff_le, Int.not_lt, Int.not_le] at hc9
    have hk1 : ¬ s.k = 1 := by show ¬ s.cur.k = 1; omega
    refine c_skip (x_then (hK1 _ _ ?_))
    clear hK1 K1
    refine forget [(0, _), (1, _)] ⟨rfl, rfl, trivial⟩ (fun e => ?_)
    refine c_seq (fun K4 hK4 => ?_)
    refine c_reg ?_ -- region 2 expr.go:34
    refine wl (ro_move rfl) ?_
    refine wl (ro_move rfl) ?_
    refine wl (ro_nilCheck rfl) ?_
    refine wl (ro_fieldAddr (k := 10) rfl fo_186_5) ?_
    refine wl_put rfl rfl rfl sz_54 hX (by simp) (rfl) (fun w3 hX F3 => ?_)
    replace hF := hF.thenDrew.thenO F3 (by first | exact .inr (by omega) | exact .inl rfl | exact .inl (by assumption) | assumption)
    refine wl_nil (x_then (hK4 _ _ ?_))
    clear hK4 K4
    refine c_reg ?_ -- region 3 expr.go:35
    refine wl (ro_move rfl) ?_
    refine wl (ro_move rfl) ?_
    refine wl (ro_nilCheck rfl) ?_
    refine wl (ro_fieldAddr (k := 2) rfl fo_186_2) ?_
    refine wl (ro_fieldAddr (k := 1) rfl fo_182_1) ?_
    refine wl (ro_loadB rfl sc_3 (by assumption) rfl) ?_
    refine wl (ro_nilCheck rfl) ?_
    refine wl (ro_fieldAddr (k := 11) rfl fo_186_6) ?_
    refine wl_put rfl rfl rfl sz_3 hX (by simp) (rfl) (fun w4 hX F4 => ?_)
    replace hF := hF.thenDrew.thenO F4 (by first | exact .inr (by omega) | exact .inl rfl | exact .inl (by assumption) | assumption)
    refine wl_nil ?_
    refine bp_end Tryz.results77 rfl ?_
    exact ⟨rfl, ⟨[.slice (some ⟨tb, 0, none⟩) L.length cap, i64c i, i64c s.cur.k, i64c s.cur.pl, S s.cur.s, u64c s.cur.n, i64c s.cur.e, i64c s.al, i64c s.lo, i64c s.fu], rfl, by rw [if_neg hk1]; exact hX⟩, hF⟩
theorem ends134 {w : World} {pb tb cap : Nat} {L : List Tok} {s : PS} (hP : PrV w pb tb cap L s) : Ret Tryz.prog 134 [ptr pb] w (fun r w' => r = .bool (endsB s) ∧ w' = w) := by
  obtain ⟨i, hX, hi, hs⟩ := hP.ex
  unfold prc at hX
  have hk : s.k = s.cur.k := rfl
  refine ret_of Tryz.func134 rfl Tryz.ntmps134 rfl ?_
  refine c_seq (fun K1 hK1 => ?_)
  refine c_reg ?_ -- region 0 parse.go:6
  refine wl (ro_assign rfl) ?_
  refine wl_nil (x_then (hK1 _ _ ?_))
  clear hK1 K1
  refine c_seq (fun K2 hK2 => ?_)
  refine c_seq (fun K3 hK3 => ?_)
  refine c_reg ?_ -- region 1 parse.go:7
  refine wl (ro_move rfl) ?_
  refine wl (ro_nilCheck rfl) ?_
  refine wl (ro_fieldAddr (k := 2) rfl fo_186_2) ?_
  refine wl (ro_fieldAddr (k := 0) rfl fo_182_0) ?_
  refine wl (ro_loadB rfl sc_180 (by assumption) rfl) ?_
  refine wl_nil (x_then (hK3 _ _ ?_))
  clear hK3 K3
  refine c_block ?_
  refine c_seq (fun K4 hK4 => ?_)
  refine c_seq (fun K5 hK5 => ?_)
  refine c_reg ?_ -- region 2 parse.go:8
  refine wl (ro_cmp rfl rfl rfl) ?_
  refine wl (ro_assign rfl) ?_
  refine wl_nil (x_then (hK5 _ _ ?_))
  clear hK5 K5
  refine wc_cond rfl (fun hc8 => ?_) (fun hc8 => ?_)
  · try simp only [decide_eq_true_eq, decide_eq_false_iff_not, Bool.not_eq_true', Bool.not_eq_false', Bool.not_eq_eq_eq_not, Bool.not_true, Bool.not_false, beq_iff_eq, bne_iff_ne, ne_eq, beq_eq_false_iff_ne, bne_eq_false_iff_eq, gt_iff_lt, ge_iff_le, Int.not_lt, Int.not_le] at hc8
    refine c_skip (x_then (hK4 _ _ ?_))
    clear hK4 K4
    refine wc_cond rfl (fun hc8 => ?_) (fun hc8 => ?_)
    · try simp only [decide_eq_true_eq, decide_eq_false_iff_not, Bool.not_eq_true', Bool.not_eq_false', Bool.not_eq_eq_eq_not, Bool.not_true, Bool.not_false, beq_iff_eq, bne_iff_ne, ne_eq, beq_eq_false_iff_ne, bne_eq_false_iff_eq, gt_iff_lt, ge_iff_le, Int.not_lt, Int.not_le] at hc8
      refine c_seq (fun K6 hK6 => ?_)
      refine c_reg ?_ -- region 6 parse.go:9
      refine wl (ro_assign rfl) ?_
      refine wl_nil (x_then (hK6 _ _ ?_))
      clear hK6 K6
      refine c_ret (x_blkR (x_thenR ?_))
      refine bp_ret Tryz.results134 rfl ?_
      refine ⟨congrArg Value.bool ?_, rfl⟩
      unfold endsB
      rw [hk]
      simp
      omega
    · try simp only [decide_eq_true_eq, decide_eq_false_iff_not, Bool.not_eq_true', Bool.not_eq_false', Bool.not_eq_eq_eq_not, Bool.not_true, Bool.not_false, beq_iff_eq, bne_iff_ne, ne_eq, beq_eq_false_iff_ne, bne_eq_false_iff_eq, gt_iff_lt, ge_iff_le, Int.not_lt, Int.not_le] at hc8
      refine c_skip (x_blk (x_then (hK2 _ _ ?_)))
      clear hK2 K2
      refine forget [] trivial (fun e => ?_)
      refine c_seq (fun K7 hK7 => ?_)
      refine c_reg ?_ -- region 7 parse.go:11
      refine wl (ro_assign rfl) ?_
      refine wl_nil (x_then (hK7 _ _ ?_))
      clear hK7 K7
      refine c_ret ?_
      refine bp_ret Tryz.results134 rfl ?_
      refine ⟨congrArg Value.bool ?_, rfl⟩
      unfold endsB
      rw [hk]
      simp
      omega
  · try simp only [decide_eq_true_eq, decide_eq_false_iff_not, Bool.not_eq_true', Bool.not_eq_false', Bool.not_eq_eq_eq_not, Bool.not_true, Bool.not_false, beq_iff_eq, bne_iff_ne, ne_eq, beq_eq_false_iff_ne, bne_eq_false_iff_eq, gt_iff_lt, ge_iff_le, Int.not_lt, Int.not_le] at hc8
    refine c_seq (fun K8 hK8 => ?_)
    refine c_reg ?_ -- region 3 parse.go:8
    refine wl (ro_cmp rfl rfl rfl) ?_
    refine wl (ro_assign rfl) ?_
    refine wl_nil (x_then (hK8 _ _ ?_))
    clear hK8 K8
    refine wc_cond rfl (fun hc8 => ?_) (fun hc8 => ?_)
    · try simp only [decide_eq_true_eq, decide_eq_false_iff_not, Bool.not_eq_true', Bool.not_eq_false', Bool.not_eq_eq_eq_not, Bool.not_true, Bool.not_false, beq_iff_eq, bne_iff_ne, ne_eq, beq_eq_false_iff_ne, bne_eq_false_iff_eq, gt_iff_lt, ge_iff_le, Int.not_lt, Int.not_le] at hc8
      refine c_skip (x_then (hK4 _ _ ?_))
      clear hK4 K4
      refine wc_cond rfl (fun hc8 => ?_) (fun hc8 => ?_)
      · try simp only [decide_eq_true_eq, decide_eq_false_iff_not, Bool.not_eq_true', Bool.not_eq_false', Bool.not_eq_eq_eq_not, Bool.not_true, Bool.not_false, beq_iff_eq, bne_iff_ne, ne_eq, beq_eq_false_iff_ne, bne_eq_false_iff_eq, gt_iff_lt, ge_iff_le, Int.not_lt, Int.not_le] at hc8
        refine c_seq (fun K9 hK9 => ?_)
        refine c_reg ?_ -- region 6 parse.go:9
        refine wl (ro_assign rfl) ?_
        refine wl_nil (x_then (hK9 _ _ ?_))
        clear hK9 K9
        refine c_ret (x_blkR (x_thenR ?_))
        refine bp_ret Tryz.results134 rfl ?_
        refine ⟨congrArg Value.bool ?_, rfl⟩
        unfold endsB
        rw [hk]
        simp
        omega
      · try simp only [decide_eq_true_eq, decide_eq_false_iff_not, Bool.not_eq_true', Bool.not_eq_false', Bool.not_eq_eq_eq_not, Bool.not_true, Bool.not_false, beq_iff_eq, bne_iff_ne, ne_eq, beq_eq_false_iff_ne, bne_eq_false_iff_eq, gt_iff_lt, ge_iff_le, Int.not_lt, Int.not_le] at hc8
        refine c_skip (x_blk (x_then (hK2 _ _ ?_)))
        clear hK2 K2
        refine forget [] trivial (fun e => ?_)
        refine c_seq (fun K10 hK10 => ?_)
        refine c_reg ?_ -- region 7 parse.go:11
        refine wl (ro_assign rfl) ?_
        refine wl_nil (x_then (hK10 _ _ ?_))
        clear hK10 K10
        refine c_ret ?_
        refine bp_ret Tryz.results134 rfl ?_
        refine ⟨congrArg Value.bool ?_, rfl⟩
        unfold endsB
        rw [hk]
        simp
        omega
    · try simp only [decide_eq_true_eq, decide_eq_false_iff_not, Bool.not_eq_true', Bool.not_eq_false', Bool.not_eq_eq_eq_not, Bool.not_true, Bool.not_false, beq_iff_eq, bne_iff_ne, ne_eq, beq_eq_false_iff_ne, bne_eq_false_iff_eq, gt_iff_lt, ge_iff_le, Int.not_lt, Int.not_le] at hc8
      refine c_seq (fun K11 hK11 => ?_)
      refine c_reg ?_ -- region 4 parse.go:8
      refine wl (ro_cmp rfl rfl rfl) ?_
      refine wl (ro_assign rfl) ?_
      refine wl_nil (x_then (hK11 _ _ ?_))
      clear hK11 K11
      refine wc_cond rfl (fun hc8 => ?_) (fun hc8 => ?_)
      · try simp only [decide_eq_true_eq, decide_eq_false_iff_not, Bool.not_eq_true', Bool.not_eq_false', Bool.not_eq_eq_eq_not, Bool.not_true, Bool.not_false, beq_iff_eq, bne_iff_ne, ne_eq, beq_eq_false_iff_ne, bne_eq_false_iff_eq, gt_iff_lt, ge_iff_le, Int.not_lt, Int.not_le] at hc8
        refine c_skip (x_then (hK4 _ _ ?_))
        clear hK4 K4
        refine wc_cond rfl (fun hc8 => ?_) (fun hc8 => ?_)
        · try simp only [decide_eq_true_eq, decide_eq_false_iff_not, Bool.not_eq_true', Bool.not_eq_false', Bool.not_eq_eq_eq_not, Bool.not_true, Bool.not_false, beq_iff_eq, bne_iff_ne, ne_eq, beq_eq_false_iff_ne, bne_eq_false_iff_eq, gt_iff_lt, ge_iff_le, Int.not_lt, Int.not_le] at hc8
          refine c_seq (fun K12 hK12 => ?_)
          refine c_reg ?_ -- region 6 parse.go:9
          refine wl (ro_assign rfl) ?_
          refine wl_nil (x_then (hK12 _ _ ?_))
          clear hK12 K12
          refine c_ret (x_blkR (x_thenR ?_))
          refine bp_ret Tryz.results134 rfl ?_
          refine ⟨congrArg Value.bool ?_, rfl⟩
          unfold endsB
          rw [hk]
          simp
          omega
        · try simp only [decide_eq_true_eq, decide_eq_false_iff_not, Bool.not_eq_true', Bool.not_eq_false', Bool.not_eq_eq_eq_not, Bool.not_true, Bool.not_false, beq_iff_eq, bne_iff_ne, ne_eq, beq_eq_false_iff_ne, bne_eq_false_iff_eq, gt_iff_lt, ge_iff_le, Int.not_lt, Int.not_le] at hc8
          refine c_skip (x_blk (x_then (hK2 _ _ ?_)))
          clear hK2 K2
          refine forget [] trivial (fun e => ?_)
          refine c_seq (fun K13 hK13 => ?_)
          refine c_reg ?_ -- region 7 parse.go:11
          refine wl (ro_assign rfl) ?_
          refine wl_nil (x_then (hK13 _ _ ?_))
          clear hK13 K13
          refine c_ret ?_
          refine bp_ret Tryz.results134 rfl ?_
          refine ⟨congrArg Value.bool ?_, rfl⟩
          unfold endsB
          rw [hk]
          simp
          omega
      · try simp only [decide_eq_true_eq, decide_eq_false_iff_not, Bool.not_eq_true', Bool.not_eq_false', Bool.not_eq_eq_eq_not, Bool.not_true, Bool.not_false, beq_iff_eq, bne_iff_ne, ne_eq, beq_eq_false_iff_ne, bne_eq_false_iff_eq, gt_iff_lt, ge_iff_le, Int.not_lt, Int.not_le] at hc8
        refine c_reg ?_ -- region 5 parse.go:8
        refine wl (ro_cmp rfl rfl rfl) ?_
        refine wl (ro_assign rfl) ?_
        refine wl_nil (x_then (hK4 _ _ ?_))
        clear hK4 K4
        refine wc_cond rfl (fun hc8 => ?_) (fun hc8 => ?_)
        · try simp only [decide_eq_true_eq, decide_eq_false_iff_not, Bool.not_eq_true', Bool.not_eq_false', Bool.not_eq_eq_eq_not, Bool.not_true, Bool.not_false, beq_iff_eq, bne_iff_ne, ne_eq, beq_eq_false_iff_ne, bne_eq_false_iff_eq, gt_iff_lt, ge_iff_le, Int.not_lt, Int.not_le] at hc8
          refine c_seq (fun K14 hK14 => ?_)
          refine c_reg ?_ -- region 6 parse.go:9
          refine wl (ro_assign rfl) ?_
          refine wl_nil (x_then (hK14 _ _ ?_))
          clear hK14 K14
          refine c_ret (x_blkR (x_thenR ?_))
          refine bp_ret Tryz.results134 rfl ?_
          refine ⟨congrArg Value.bool ?_, rfl⟩
          unfold endsB
          rw [hk]
          simp
          omega
        · try simp only [decide_eq_true_eq, decide_eq_false_iff_not, Bool.not_eq_true', Bool.not_eq_false', Bool.not_eq_eq_eq_not, Bool.not_true, Bool.not_false, beq_iff_eq, bne_iff_ne, ne_eq, beq_eq_false_iff_ne, bne_eq_false_iff_eq, gt_iff_lt, ge_iff_le, Int.not_lt, Int.not_le] at hc8
          refine c_skip (x_blk (x_then (hK2 _ _ ?_)))
          clear hK2 K2
          refine forget [] trivial (fun e => ?_)
          refine c_seq (fun K15 hK15 => ?_)
          refine c_reg ?_ -- region 7 parse.go:11
          refine wl (ro_assign rfl) ?_
          refine wl_nil (x_then (hK15 _ _ ?_))
          clear hK15 K15
          refine c_ret ?_
          refine bp_ret Tryz.results134 rfl ?_
          refine ⟨congrArg Value.bool ?_, rfl⟩
          unfold endsB
          rw [hk]
          simp
          omega
theorem accept221 {w : World} {pb tb cap k : Nat} {L : List Tok} {s : PS} (hP : PrV w pb tb cap L s) (hT : TkB w tb cap L) (hne : tb ≠ pb) (hk : 1 < k) : Ret Tryz.prog 221 [ptr pb, i64c k] w (fun r w' => r = .bool (decide (s.k = k)) ∧ (if s.k = k then PrV w' pb tb cap L s.adv else w' = w) ∧ Fram (one pb) w w') := by
  obtain ⟨i, hX, hi, hs⟩ := hP.ex
  have hF : Fram (one pb) w w := Fram.refl _ _
  unfold prc at hX
  have hkk : s.k = s.cur.k := rfl
  refine ret_of Tryz.func221 rfl Tryz.ntmps221 rfl ?_
  refine c_seq (fun K1 hK1 => ?_)
  refine c_reg ?_ -- region 0 expr.go:39
  refine wl (ro_assign rfl) ?_
  refine wl_nil (x_then (hK1 _ _ ?_))
  clear hK1 K1
  refine c_seq (fun K2 hK2 => ?_)
  refine c_seq (fun K3 hK3 => ?_)
  refine c_reg ?_ -- region 1 expr.go:40
  refine wl (ro_move rfl) ?_
  refine wl (ro_nilCheck rfl) ?_
  refine wl (ro_fieldAddr (k := 2) rfl fo_186_2) ?_
  refine wl (ro_fieldAddr (k := 0) rfl fo_182_0) ?_
  refine wl (ro_loadB rfl sc_180 (by assumption) rfl) ?_
  refine wl (ro_move rfl) ?_
  refine wl (ro_cmp rfl rfl rfl) ?_
  refine wl_nil (x_then (hK3 _ _ ?_))
  clear hK3 K3
  refine wc_cond rfl (fun hc11 => ?_) (fun hc11 => ?_)
  · try simp only [decide_eq_true_eq, decide_eq_false_iff_not, Bool.not_eq_true', Bool.not_eq_false', Bool.not_eq_eq_eq_not, Bool.not_true, Bool.not_false, beq_iff_eq, bne_iff_ne, ne_eq, beq_eq_false_iff_ne, bne_eq_false_iff_eq, gt_iff_lt, ge_iff_le, Int.not_lt, Int.not_le] at hc11
    refine c_seq (fun K4 hK4 => ?_)
    refine c_reg ?_ -- region 2 expr.go:41
    refine wl (ro_assign rfl) ?_
    refine wl_nil (x_then (hK4 _ _ ?_))
    clear hK4 K4
    refine c_ret (x_thenR ?_)
    refine bp_ret Tryz.results221 rfl ?_
    exact ⟨by rw [decide_eq_false (by omega)], by rw [if_neg (by omega)], hF⟩
  · try simp only [decide_eq_true_eq, decide_eq_false_iff_not, Bool.not_eq_true', Bool.not_eq_false', Bool.not_eq_eq_eq_not, Bool.not_true, Bool.not_false, beq_iff_eq, bne_iff_ne, ne_eq, beq_eq_false_iff_ne, bne_eq_false_iff_eq, gt_iff_lt, ge_iff_le, Int.not_lt, Int.not_le] at hc11
    refine c_skip (x_then (hK2 _ _ ?_))
    clear hK2 K2
    refine forget [(0, _)] ⟨rfl, trivial⟩ (fun e => ?_)
    refine c_seq (fun K5 hK5 => ?_)
    refine c_reg ?_ -- region 3 expr.go:43
    refine wl (ro_move rfl) ?_
    refine wl_call rfl en_176 (next176 hP hT hne (by omega)) ?_
    rintro _ u1 ⟨rfl, hP1, F1⟩
    refine wl_nil (x_then (hK5 _ _ ?_))
    clear hK5 K5
    refine forget [] trivial (fun e => ?_)
    refine c_seq (fun K6 hK6 => ?_)
    refine c_reg ?_ -- region 4 expr.go:44
    refine wl (ro_assign rfl) ?_
    refine wl_nil (x_then (hK6 _ _ ?_))
    clear hK6 K6
    refine c_ret ?_
    refine bp_ret Tryz.results221 rfl ?_
    exact ⟨by rw [decide_eq_true (by omega)], by rw [if_pos (by omega)]; exact hP1, F1⟩
theorem expect222 {w : World} {pb tb cap k : Nat} {L : List Tok} {s : PS} (hP : PrV w pb tb cap L s) (hT : TkB w tb cap L) (hne : tb ≠ pb) (hk : 1 < k) : Ret Tryz.prog 222 [ptr pb, i64c k] w (fun r w' => r = .bool (decide (s.k = k)) ∧ (if s.k = k then PrV w' pb tb cap L s.adv else PrF w' pb 15 s) ∧ Fram (one pb) w w') := by
  obtain ⟨i, hX, hi, hs⟩ := hP.ex
  have hF : Fram (one pb) w w := Fram.refl _ _
  unfold prc at hX
  have hkk : s.k = s.cur.k := rfl
  refine ret_of Tryz.func222 rfl Tryz.ntmps222 rfl ?_
  refine c_seq (fun K1 hK1 => ?_)
  refine c_reg ?_ -- region 0 expr.go:48
  refine wl (ro_assign rfl) ?_
  refine wl_nil (x_then (hK1 _ _ ?_))
  clear hK1 K1
  refine c_seq (fun K2 hK2 => ?_)
  refine c_seq (fun K3 hK3 => ?_)
  refine c_reg ?_ -- region 1 expr.go:49
  refine wl (ro_move rfl) ?_
  refine wl (ro_nilCheck rfl) ?_
  refine wl (ro_fieldAddr (k := 2) rfl fo_186_2) ?_
  refine wl (ro_fieldAddr (k := 0) rfl fo_182_0) ?_
  refine wl (ro_loadB rfl sc_180 (by assumption) rfl) ?_
  refine wl (ro_move rfl) ?_
  refine wl (ro_cmp rfl rfl rfl) ?_
  refine wl_nil (x_then (hK3 _ _ ?_))
  clear hK3 K3
  refine wc_cond rfl (fun hc11 => ?_) (fun hc11 => ?_)
  · try simp only [decide_eq_true_eq, decide_eq_false_iff_not, Bool.not_eq_true', Bool.not_eq_false', Bool.not_eq_eq_eq_not, Bool.not_true, Bool.not_false, beq_iff_eq, bne_iff_ne, ne_eq, beq_eq_false_iff_ne, bne_eq_false_iff_eq, gt_iff_lt, ge_iff_le, Int.not_lt, Int.not_le] at hc11
    refine c_seq (fun K4 hK4 => ?_)
    refine c_reg ?_ -- region 2 expr.go:50
    refine wl (ro_move rfl) ?_
    refine wl_call rfl en_77 (fail77 (e := 15) hP) ?_
    rintro _ u1 ⟨rfl, hP1, F1⟩
    refine wl_nil (x_then (hK4 _ _ ?_))
    clear hK4 K4
    refine forget [] trivial (fun e => ?_)
    refine c_seq (fun K5 hK5 => ?_)
    refine c_reg ?_ -- region 3 expr.go:51
    refine wl (ro_assign rfl) ?_
    refine wl_nil (x_then (hK5 _ _ ?_))
    clear hK5 K5
    refine c_ret (x_thenR ?_)
    refine bp_ret Tryz.results222 rfl ?_
    exact ⟨by rw [decide_eq_false (by omega)], by rw [if_neg (by omega)]; exact hP1, F1⟩
  · try simp only [decide_eq_true_eq, decide_eq_false_iff_not, Bool.not_eq_true', Bool.not_eq_false', Bool.not_eq_eq_eq_not, Bool.not_true, Bool.not_false, beq_iff_eq, bne_iff_ne, ne_eq, beq_eq_false_iff_ne, bne_eq_false_iff_eq, gt_iff_lt, ge_iff_le, Int.not_lt, Int.not_le] at hc11
    refine c_skip (x_then (hK2 _ _ ?_))
    clear hK2 K2
    refine forget [(0, _)] ⟨rfl, trivial⟩ (fun e => ?_)
    refine c_seq (fun K6 hK6 => ?_)
    refine c_reg ?_ -- region 4 expr.go:53
    refine wl (ro_move rfl) ?_
    refine wl_call rfl en_176 (next176 hP hT hne (by omega)) ?_
    rintro _ u1 ⟨rfl, hP1, F1⟩
    refine wl_nil (x_then (hK6 _ _ ?_))
    clear hK6 K6
    refine forget [] trivial (fun e => ?_)
    refine c_seq (fun K7 hK7 => ?_)
    refine c_reg ?_ -- region 5 expr.go:54
    refine wl (ro_assign rfl) ?_
    refine wl_nil (x_then (hK7 _ _ ?_))
    clear hK7 K7
    refine c_ret ?_
    refine bp_ret Tryz.results222 rfl ?_
    exact ⟨by rw [decide_eq_true (by omega)], by rw [if_pos (by omega)]; exact hP1, F1⟩
theorem function218 {w : World} {pb tb cap : Nat} {L : List Tok} {s : PS} (hP : PrV w pb tb cap L s) (hT : TkB w tb cap L) (hne : tb ≠ pb) (hk : 1 < s.k) : Ret Tryz.prog 218 [ptr pb] w (fun r w' => r = .bool (decide (s.fu < 12)) ∧ (if s.fu < 12 then PrV w' pb tb cap L s.adv else PrF w' pb 20 s) ∧ Fram (one pb) w w') := by
  obtain ⟨i, hX, hi, hs⟩ := hP.ex
  have hF : Fram (one pb) w w := Fram.refl _ _
  unfold prc at hX
  refine ret_of Tryz.func218 rfl Tryz.ntmps218 rfl ?_
  refine c_seq (fun K1 hK1 => ?_)
  refine c_reg ?_ -- region 0 expr.go:236
  refine wl (ro_assign rfl) ?_
  refine wl_nil (x_then (hK1 _ _ ?_))
  clear hK1 K1
  refine c_seq (fun K2 hK2 => ?_)
  refine c_seq (fun K3 hK3 => ?_)
  refine c_reg ?_ -- region 1 expr.go:237
  refine wl (ro_move rfl) ?_
  refine wl (ro_nilCheck rfl) ?_
  refine wl (ro_fieldAddr (k := 9) rfl fo_186_4) ?_
  refine wl (ro_loadB rfl sc_3 (by assumption) rfl) ?_
  refine wl (ro_cmp rfl rfl rfl) ?_
  refine wl_nil (x_then (hK3 _ _ ?_))
  clear hK3 K3
  refine wc_cond rfl (fun hc7 => ?_) (fun hc7 => ?_)
  · try simp only [decide_eq_true_eq, decide_eq_false_iff_not, Bool.not_eq_true', Bool.not_eq_false', Bool.not_eq_eq_eq_not, Bool.not_true, Bool.not_false, beq_iff_eq, bne_iff_ne, ne_eq, beq_eq_false_iff_ne, bne_eq_false_iff_eq, gt_iff_lt, ge_iff_le, Int.not_lt, Int.not_le] at hc7
    refine c_seq (fun K4 hK4 => ?_)
    refine c_reg ?_ -- region 2 expr.go:238
    refine wl (ro_move rfl) ?_
    refine wl_call rfl en_77 (fail77 (e := 20) hP) ?_
    rintro _ u1 ⟨rfl, hP1, F1⟩
    refine wl_nil (x_then (hK4 _ _ ?_))
    clear hK4 K4
    refine forget [] trivial (fun e => ?_)
    refine c_seq (fun K5 hK5 => ?_)
    refine c_reg ?_ -- region 3 expr.go:239
    refine wl (ro_assign rfl) ?_
    refine wl_nil (x_then (hK5 _ _ ?_))
    clear hK5 K5
    refine c_ret (x_thenR ?_)
    refine bp_ret Tryz.results218 rfl ?_
    exact ⟨by rw [decide_eq_false (by omega)], by rw [if_neg (by omega)]; exact hP1, F1⟩
  · try simp only [decide_eq_true_eq, decide_eq_false_iff_not, Bool.not_eq_true', Bool.not_eq_false', Bool.not_eq_eq_eq_not, Bool.not_true, Bool.not_false, beq_iff_eq, bne_iff_ne, ne_eq, beq_eq_false_iff_ne, bne_eq_false_iff_eq, gt_iff_lt, ge_iff_le, Int.not_lt, Int.not_le] at hc7
    refine c_skip (x_then (hK2 _ _ ?_))
    clear hK2 K2
    refine forget [(0, _)] ⟨rfl, trivial⟩ (fun e => ?_)
    refine c_seq (fun K6 hK6 => ?_)
    refine c_reg ?_ -- region 4 expr.go:241
    refine wl (ro_move rfl) ?_
    refine wl_call rfl en_176 (next176 hP hT hne hk) ?_
    rintro _ u1 ⟨rfl, hP1, F1⟩
    refine wl_nil (x_then (hK6 _ _ ?_))
    clear hK6 K6
    refine forget [] trivial (fun e => ?_)
    refine c_seq (fun K7 hK7 => ?_)
    refine c_reg ?_ -- region 5 expr.go:242
    refine wl (ro_assign rfl) ?_
    refine wl_nil (x_then (hK7 _ _ ?_))
    clear hK7 K7
    refine c_ret ?_
    refine bp_ret Tryz.results218 rfl ?_
    exact ⟨by rw [decide_eq_true (by omega)], by rw [if_pos (by omega)]; exact hP1, F1⟩
/-- A name that brings 'extra' locals alive. -/
theorem name219 {w : World} {pb tb cap x : Nat} {L : List Tok} {s : PS} (hP : PrV w pb tb cap L s) (hT : TkB w tb cap L) (hne : tb ≠ pb) (hx : x ≤ 4) : Ret Tryz.prog 219 [ptr pb, i64c x] w (fun r w' => Fram (one pb) w w' ∧
    (if s.k ≠ 2 then r = .pointer none ∧ PrF w' pb 15 s else if 0 < x ∧ 12 < s.al + x then r = .pointer none ∧ PrF w' pb 18 s else ∃ b p, r = ptr b ∧ w.heap.size ≤ b ∧ Blk w'.heap b [i64c p, S s.cur.s] 349 ∧ PrV w' pb tb cap L s.adv)) := by
  obtain ⟨i, hX, hi, hs⟩ := hP.ex
  have hF : Fram (one pb) w w := Fram.refl _ _
  have hF0 : Fram none' w w := Fram.refl _ _
  have hPl := hX.lt
  unfold prc at hX
  have hkk : s.k = s.cur.k := rfl
  have hal := hP.al
  obtain ⟨l, hBt, _⟩ := hT.bl
  have hTl := hBt.lt
  refine ret_of Tryz.func219 rfl Tryz.ntmps219 rfl ?_
  refine c_seq (fun K1 hK1 => ?_)
  refine c_reg ?_ -- region 0 expr.go:58
  refine wl (ro_assign rfl) ?_
  refine wl_nil (x_then (hK1 _ _ ?_))
  clear hK1 K1
  refine forget [(0, _), (1, _)] ⟨rfl, rfl, trivial⟩ (fun e => ?_)
  refine c_seq (fun K2 hK2 => ?_)
  refine c_reg ?_ -- region 1 expr.go:59
  refine wl (ro_move rfl) ?_
  refine wl (ro_nilCheck rfl) ?_
  refine wl (ro_fieldAddr (k := 2) rfl fo_186_2) ?_
  refine wl (ro_loadAggB rfl ag_182 (by assumption) rfl rfl) ?_
  refine wl_new (ze_182) (fun b5 w1 hbb5 h5 F1 => ?_)
  have hbsb5 := Nat.le_trans hF.size hbb5
  have hnepbb5 : pb < b5 := Nat.lt_of_lt_of_le hX.lt hbb5
  have hbsb5 := Nat.le_trans hF0.size hbb5
  replace hF := hF.thenDrew.thenN F1
  replace hX := F1.blkN hX
  replace hF0 := hF0.thenDrew.thenN F1
  refine wl_puta rfl rfl ((by (try exact vlc_cells _); all_goals simp [Value.oneCell', i64c, icv, u64c, u8c, ptr, S])) sz_182 (rfl) h5 ((by simp)) (rfl) (fun w2 h5 F2 => ?_)
  replace hF := hF.thenDrew.thenO F2 (by first | exact .inr (by omega) | exact .inl rfl | exact .inl (by assumption) | assumption)
  replace hX := F2.blkO hX (by omega)
  replace hF0 := hF0.thenDrew.thenO F2 (by first | exact .inr (by omega) | exact .inl rfl | exact .inl (by assumption) | assumption)
  refine wl_nil (x_then (hK2 _ _ ?_))
  clear hK2 K2
  refine c_seq (fun K3 hK3 => ?_)
  refine c_seq (fun K4 hK4 => ?_)
  refine c_reg ?_ -- region 2 expr.go:60
  refine wl (ro_fieldAddr (k := 0) rfl fo_182_0) ?_
  refine wl (ro_loadB rfl sc_180 (by assumption) rfl) ?_
  refine wl (ro_cmp rfl rfl rfl) ?_
  refine wl_nil (x_then (hK4 _ _ ?_))
  clear hK4 K4
  refine wc_cond rfl (fun hc12 => ?_) (fun hc12 => ?_)
  · try simp only [decide_eq_true_eq, decide_eq_false_iff_not, Bool.not_eq_true', Bool.not_eq_false', Bool.not_eq_eq_eq_not, Bool.not_true, Bool.not_false, beq_iff_eq, bne_iff_ne, ne_eq, beq_eq_false_iff_ne, bne_eq_false_iff_eq, gt_iff_lt, ge_iff_le, Int.not_lt, Int.not_le] at hc12
    refine c_seq (fun K5 hK5 => ?_)
    refine c_reg ?_ -- region 3 expr.go:61
    refine wl (ro_move rfl) ?_
    refine wl_call rfl en_77 (fail77 (e := 15) (hP.farN hF0)) ?_
    rintro _ u1 ⟨rfl, hP1, F9⟩
    refine wl_nil (x_then (hK5 _ _ ?_))
    clear hK5 K5
    refine forget [] trivial (fun e => ?_)
    refine c_seq (fun K6 hK6 => ?_)
    refine c_reg ?_ -- region 4 expr.go:62
    refine wl (ro_assign rfl) ?_
    refine wl_nil (x_then (hK6 _ _ ?_))
    clear hK6 K6
    refine c_ret (x_thenR ?_)
    refine bp_ret Tryz.results219 rfl ?_
    exact ⟨hF.trans' F9 (fun _ _ h => h), by rw [if_pos (by omega)]; exact ⟨rfl, hP1⟩⟩
  · try simp only [decide_eq_true_eq, decide_eq_false_iff_not, Bool.not_eq_true', Bool.not_eq_false', Bool.not_eq_eq_eq_not, Bool.not_true, Bool.not_false, beq_iff_eq, bne_iff_ne, ne_eq, beq_eq_false_iff_ne, bne_eq_false_iff_eq, gt_iff_lt, ge_iff_le, Int.not_lt, Int.not_le] at hc12
    refine c_skip (x_then (hK3 _ _ ?_))
    clear hK3 K3
    refine c_seq (fun K7 hK7 => ?_)
    refine c_seq (fun K8 hK8 => ?_)
    refine c_reg ?_ -- region 5 expr.go:64
    refine wl (ro_move rfl) ?_
    refine wl (ro_cmp rfl rfl rfl) ?_
    refine wl_fork rfl (fun hg17 => ?_) (fun hg17 => ?_)
    · try simp only [decide_eq_true_eq, decide_eq_false_iff_not, Bool.not_eq_true', Bool.not_eq_false', Bool.not_eq_eq_eq_not, Bool.not_true, Bool.not_false, beq_iff_eq, bne_iff_ne, ne_eq, beq_eq_false_iff_ne, bne_eq_false_iff_eq, gt_iff_lt, ge_iff_le, Int.not_lt, Int.not_le] at hg17
      refine wlg_yes rfl (ro_move rfl) ?_
      refine wlg_yes rfl (ro_nilCheck rfl) ?_
      refine wlg_yes rfl (ro_fieldAddr (k := 7) rfl fo_186_3) ?_
      refine wlg_yes rfl (ro_fieldAddr (k := 0) rfl fo_184_0) ?_
      refine wlg_yes rfl (ro_loadB rfl sc_3 (by assumption) rfl) ?_
      refine wlg_yes rfl (ro_move rfl) ?_
      refine wlg_yes rfl (ro_arith rfl rfl rfl (Go.IntWalk.i64_in _ (by omega))) ?_
      refine wlg_yes rfl (ro_cmp rfl rfl rfl) ?_
      refine wl (ro_pick rfl rfl rfl) ?_
      refine wl_nil (x_then (hK8 _ _ ?_))
      clear hK8 K8
      refine wc_cond rfl (fun hc26 => ?_) (fun hc26 => ?_)
      · try simp only [decide_eq_true_eq, decide_eq_false_iff_not, Bool.not_eq_true', Bool.not_eq_false', Bool.not_eq_eq_eq_not, Bool.not_true, Bool.not_false, beq_iff_eq, bne_iff_ne, ne_eq, beq_eq_false_iff_ne, bne_eq_false_iff_eq, gt_iff_lt, ge_iff_le, Int.not_lt, Int.not_le] at hc26
        refine c_seq (fun K9 hK9 => ?_)
        refine c_reg ?_ -- region 6 expr.go:65
        refine wl (ro_move rfl) ?_
        refine wl_call rfl en_77 (fail77 (e := 18) (hP.farN hF0)) ?_
        rintro _ u1 ⟨rfl, hP1, F9⟩
        refine wl_nil (x_then (hK9 _ _ ?_))
        clear hK9 K9
        refine forget [] trivial (fun e => ?_)
        refine c_seq (fun K10 hK10 => ?_)
        refine c_reg ?_ -- region 7 expr.go:66
        refine wl (ro_assign rfl) ?_
        refine wl_nil (x_then (hK10 _ _ ?_))
        clear hK10 K10
        refine c_ret (x_thenR ?_)
        refine bp_ret Tryz.results219 rfl ?_
        exact ⟨hF.trans' F9 (fun _ _ h => h), by rw [if_neg (by omega), if_pos (by omega)]; exact ⟨rfl, hP1⟩⟩
      · try simp only [decide_eq_true_eq, decide_eq_false_iff_not, Bool.not_eq_true', Bool.not_eq_false', Bool.not_eq_eq_eq_not, Bool.not_true, Bool.not_false, beq_iff_eq, bne_iff_ne, ne_eq, beq_eq_false_iff_ne, bne_eq_false_iff_eq, gt_iff_lt, ge_iff_le, Int.not_lt, Int.not_le] at hc26
        refine c_skip (x_then (hK7 _ _ ?_))
        clear hK7 K7
        refine forget [(0, _), (5, _)] ⟨rfl, rfl, trivial⟩ (fun e => ?_)
        refine c_seq (fun K11 hK11 => ?_)
        refine c_reg ?_ -- region 8 expr.go:68
        refine wl (ro_move rfl) ?_
        refine wl_call rfl en_176 (next176 (hP.farN hF0) (hT.farN hF0) hne (by omega)) ?_
        rintro _ u1 ⟨rfl, hP1, F9⟩
        have hne5 : b5 ≠ pb := by omega
        have hF9 := hF
        replace h5 := F9.blkO h5 hne5
        replace hF := hF.trans' F9 (fun _ _ h => h)
        refine wl_nil (x_then (hK11 _ _ ?_))
        clear hK11 K11
        refine forget [(5, _)] ⟨rfl, trivial⟩ (fun e => ?_)
        refine c_seq (fun K12 hK12 => ?_)
        refine c_reg ?_ -- region 9 expr.go:69
        refine wl (ro_fieldAddr (k := 1) rfl fo_182_1) ?_
        refine wl (ro_loadB rfl sc_3 (by assumption) rfl) ?_
        refine wl (ro_fieldAddr (k := 2) rfl fo_182_2) ?_
        refine wl (ro_loadB rfl sc_9 (by assumption) rfl) ?_
        refine wl (ro_build rfl bld_349_0_1) ?_
        refine wl_box rfl rfl (fun b36 w3 hbb36 h36 F3 => ?_)
        have hbsb36 := Nat.le_trans hF.size hbb36
        have hneb5b36 : b5 < b36 := Nat.lt_of_lt_of_le h5.lt hbb36
        replace hF := hF.thenDrew.thenN F3
        replace h5 := F3.blkN h5
        have hF36 := (F3)
        refine wl (ro_assign rfl) ?_
        refine wl_nil (x_then (hK12 _ _ ?_))
        clear hK12 K12
        refine c_ret ?_
        refine bp_ret Tryz.results219 rfl ?_
        refine ⟨hF, ?_⟩
        rw [if_neg (by omega), if_neg (by omega)]
        exact ⟨b36, _, rfl, by have := hF9.size; have := F9.size; omega, h36, hP1.farN hF36⟩
    · try simp only [decide_eq_true_eq, decide_eq_false_iff_not, Bool.not_eq_true', Bool.not_eq_false', Bool.not_eq_eq_eq_not, Bool.not_true, Bool.not_false, beq_iff_eq, bne_iff_ne, ne_eq, beq_eq_false_iff_ne, bne_eq_false_iff_eq, gt_iff_lt, ge_iff_le, Int.not_lt, Int.not_le] at hg17
      refine wlg_no rfl ?_
      refine wlg_no rfl ?_
      refine wlg_no rfl ?_
      refine wlg_no rfl ?_
      refine wlg_no rfl ?_
      refine wlg_no rfl ?_
      refine wlg_no rfl ?_
      refine wlg_no rfl ?_
      refine wl (ro_pick rfl rfl rfl) ?_
      refine wl_nil (x_then (hK8 _ _ ?_))
      clear hK8 K8
      refine wc_condF rfl ?_
      refine c_skip (x_then (hK7 _ _ ?_))
      clear hK7 K7
      refine forget [(0, _), (5, _)] ⟨rfl, rfl, trivial⟩ (fun e => ?_)
      refine c_seq (fun K13 hK13 => ?_)
      refine c_reg ?_ -- region 8 expr.go:68
      refine wl (ro_move rfl) ?_
      refine wl_call rfl en_176 (next176 (hP.farN hF0) (hT.farN hF0) hne (by omega)) ?_
      rintro _ u1 ⟨rfl, hP1, F9⟩
      have hne5 : b5 ≠ pb := by omega
      have hF9 := hF
      replace h5 := F9.blkO h5 hne5
      replace hF := hF.trans' F9 (fun _ _ h => h)
      refine wl_nil (x_then (hK13 _ _ ?_))
      clear hK13 K13
      refine forget [(5, _)] ⟨rfl, trivial⟩ (fun e => ?_)
      refine c_seq (fun K14 hK14 => ?_)
      refine c_reg ?_ -- region 9 expr.go:69
      refine wl (ro_fieldAddr (k := 1) rfl fo_182_1) ?_
      refine wl (ro_loadB rfl sc_3 (by assumption) rfl) ?_
      refine wl (ro_fieldAddr (k := 2) rfl fo_182_2) ?_
      refine wl (ro_loadB rfl sc_9 (by assumption) rfl) ?_
      refine wl (ro_build rfl bld_349_0_1) ?_
      refine wl_box rfl rfl (fun b36 w4 hbb36 h36 F4 => ?_)
      have hbsb36 := Nat.le_trans hF.size hbb36
      have hneb5b36 : b5 < b36 := Nat.lt_of_lt_of_le h5.lt hbb36
      replace hF := hF.thenDrew.thenN F4
      replace h5 := F4.blkN h5
      have hF36 := (F4)
      refine wl (ro_assign rfl) ?_
      refine wl_nil (x_then (hK14 _ _ ?_))
      clear hK14 K14
      refine c_ret ?_
      refine bp_ret Tryz.results219 rfl ?_
      refine ⟨hF, ?_⟩
      rw [if_neg (by omega), if_neg (by omega)]
      exact ⟨b36, _, rfl, by have := hF9.size; have := F9.size; omega, h36, hP1.farN hF36⟩
end Go.Proofs.Qxb6500568aGreatDoor
