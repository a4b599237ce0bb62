import Derived.Test.Qxb6500570aGreatHc
import Derived.Test.Qxb6500570aGreatFl
import Derived.Test.Qxb6500570aGreatPo
/- The real printer: bytes into the buffer from its end. -/
namespace Go.Proofs.Qxb6500570aGreat
set_option linter.unusedVariables false
set_option linter.unusedSimpArgs false
section
variable {P : Program} {n : Nat} {e : Nat → Option Value} {w : World}
theorem ro_toSo {src dst b N c q : Nat} {x : Operand} {o : List UInt8} {l : List Value} {t : TypeId} (hx : evO n e x = some (.slice (some ⟨b, q, none⟩) N c)) (hs : selB P src 5 1 = true) (he : P.underlying 5 = some (.int .u8)) (hd : strB P dst = true) (hB : Blk w.heap b l t) (ho : o.length = N) (hl : ∀ (k : Nat) (y : UInt8), o[k]? = some y → l[q + k]? = some (u8c y)) : RO P n e w (.convert src dst x) (S o) := by
  intro ds dst' ty ps af g
  have hd' := strB_spec hd
  obtain ⟨t1, t2⟩ := selB_spec hs
  subst ho
  have hsrc : ∀ j v, ((o.map (fun y : UInt8 => (y.toNat : Int))).map (Value.int .u8))[j]? = some v → w.cell? ((⟨b, q, none⟩ : Addr).add j) = some v := by
    intro j v hv
    rw [addr_add, hB.cell]
    rw [List.map_map, List.getElem?_map] at hv
    cases hj : o[j]? with
    | none => rw [hj] at hv; cases hv
    | some y =>
      rw [hj] at hv
      cases hv
      exact hl j y hj
  have hld := run_loadCells_list (P := P) w ⟨b, q, none⟩ _ hsrc
  rw [List.length_map, List.length_map] at hld
  have h1 := run_bytesToString (P := P) w ⟨b, q, none⟩ o.length c (o.map (fun y : UInt8 => (y.toNat : Int))) hld
  have h2 := run_convert_bytes_string (P := P) w src dst 5 (some ⟨b, q, none⟩) o.length c t1 he hd'
  rw [fold_bytes] at h1
  simp [execOp, evO_eval hx, h2, h1, S]
theorem ro_toU8 {src dst : TypeId} {x : Operand} {k' : IntKind} {m : Nat} (hx : evO n e x = some (.int k' (m : Int))) (hs : scalB P src = true) (hd : intB P dst .u8 = true) (hm : m < 256) : RO P n e w (.convert src dst x) (u8c (UInt8.ofNat m)) := by
  have h := ro_conv (P := P) (w := w) hx hs hd (Go.IntWalk.u8_in _ (by omega))
  have : (UInt8.ofNat m).toNat = m := by simp; omega
  unfold u8c
  rw [this]
  exact h
end

def OutM (fu : Nat → Value) (T : List UInt8) : Prop := ∀ j y, T[j]? = some y → fu (288 - T.length + j) = u8c y
structure PBV (w : World) (B : FB7) (k : Nat) (pos : Int) (hv dn : Bool) (er bd : Int) (T : List UInt8) : Prop where
  hB : Blk w.heap B.f (fml B 0 k pos 0 0 0 hv dn er bd ((288 - T.length : Nat) : Int)) 83
  hU : ∃ fu, FB w.heap B.u 288 fu 5 ∧ OutM fu T
  hl : T.length ≤ 288
def pset (B : FB7) : Nat → Prop := fun b => b = B.f ∨ b = B.u
theorem PBV.far {w w' : World} {B : FB7} {k : Nat} {pos : Int} {hv dn : Bool} {er bd : Int} {T : List UInt8} {G : Nat → Prop} (h : PBV w B k pos hv dn er bd T) (F : Fram G w w') (h1 : ¬ G B.f) (h2 : ¬ G B.u) : PBV w' B k pos hv dn er bd T := by
  obtain ⟨fu, hU, hO⟩ := h.hU
  exact ⟨F.blkF h.hB h1, ⟨fu, F.blkF hU h2, hO⟩, h.hl⟩
theorem PBV.lt {w : World} {B : FB7} {k : Nat} {pos : Int} {hv dn : Bool} {er bd : Int} {T : List UInt8} (h : PBV w B k pos hv dn er bd T) : B.f < w.heap.size ∧ B.u < w.heap.size := by
  obtain ⟨fu, hU, hO⟩ := h.hU
  exact ⟨h.hB.lt, Blk.lt hU⟩
theorem put169 {w : World} {B : FB7} {k : Nat} {pos : Int} {hv dn : Bool} {er bd : Int} {T : List UInt8} {c : UInt8} (hne : B.f ≠ B.u) (h : PBV w B k pos hv dn er bd T) (hT : T.length < 288) :
    Ret Tryz.prog 169 [ptr B.f, u8c c] w (fun _ w' => PBV w' B k pos hv dn er bd (c :: T) ∧ Fram (pset B) w w') := by
  have hF : Fram (pset B) w w := Fram.refl _ _
  obtain ⟨hB, ⟨fu, hU, hO⟩, hl⟩ := h
  have hm1 : pset B B.f := .inl rfl
  have hm2 : pset B B.u := .inr rfl
  refine ret_of Tryz.func169 rfl Tryz.ntmps169 rfl ?_
  refine c_seq (fun K1 hK1 => ?_)
  refine c_reg ?_ -- region 0 fill.go:13
  refine wl (ro_move rfl) ?_
  refine wl (ro_nilCheck rfl) ?_
  refine wl (ro_fieldAddr (k := 16) rfl fo_83_16) ?_
  refine wl (ro_loadB rfl sc_3 (by assumption) rfl) ?_
  refine wl (ro_arith (r := ((287 - T.length : Nat) : Int)) rfl rfl (congrArg some (by omega)) (Go.IntWalk.i64_in _ (by omega))) ?_
  refine wl (ro_nilCheck rfl) ?_
  refine wl (ro_fieldAddr (k := 16) rfl fo_83_16) ?_
  refine wl_put rfl rfl rfl sz_3 hB ((by simp)) ((show _ = fml B 0 k pos 0 0 0 hv dn er bd ((287 - T.length : Nat) : Int) from rfl)) (fun w1 hB F1 => ?_)
  replace hF := hF.thenDrew.thenO F1 (by first | exact .inr (by omega) | exact .inl rfl | exact .inl (by assumption))
  replace hU := F1.blkO hU (by omega)
  refine wl_nil (x_then (hK1 _ _ ?_))
  clear hK1 K1
  refine c_piL 10 [(0, false), (1, false), (2, false), (3, false), (4, false), (5, false), (6, false), (7, false), (8, false), (9, false)] (SameH _) mixed (by kernel_rfl) rfl (by kernel_rfl) (po_bp) (sameH_now _ _) ?_ -- region 1 fill.go:14
  refine ql_ro rfl (fun w hS => ro_move rfl) ?_
  refine ql_ro rfl (fun w hS => ro_nilCheck rfl) ?_
  refine ql_ro rfl (fun w hS => ro_fieldAddr (k := 15) rfl fo_83_15) ?_
  refine ql_ro rfl (fun w hS => ro_loadB rfl sc_58 (Blk.of_heap (by assumption) hS) rfl) ?_
  refine ql_ro rfl (fun w hS => ro_move rfl) ?_
  refine ql_ro rfl (fun w hS => ro_nilCheck rfl) ?_
  refine ql_ro rfl (fun w hS => ro_fieldAddr (k := 16) rfl fo_83_16) ?_
  refine ql_ro rfl (fun w hS => ro_loadB rfl sc_3 (Blk.of_heap (by assumption) hS) rfl) ?_
  refine ql_ro rfl (fun w hS => ro_move rfl) ?_
  refine ql_ro rfl (fun w hS => ro_indexAddr (et := 5) (k := 1) rfl rfl se_58 rfl (by omega)) ?_
  refine ql_put rfl rfl rfl rfl sz_5 hU ((cel_lt (by omega))) ((cel_put (287 - T.length) (by omega))) (fun w2 hU F2 => ?_)
  replace hF := hF.thenDrew.thenO F2 (by first | exact .inr (by omega) | exact .inl rfl | exact .inl (by assumption))
  replace hB := F2.blkO hB (by omega)
  refine ?_
  refine bp_end Tryz.results169 rfl ?_
  refine ⟨⟨?_, ⟨_, hU, ?_⟩, by simp only [List.length_cons]; omega⟩, hF⟩
  · rw [show 288 - (c :: T).length = 287 - T.length by simp only [List.length_cons]; omega]
    exact hB
  · intro j y hj
    rw [show 288 - (c :: T).length = 287 - T.length by simp only [List.length_cons]; omega]
    cases j with
    | zero =>
      simp only [List.getElem?_cons_zero, Option.some.injEq] at hj
      subst hj
      unfold pt
      rw [if_pos (by omega)]
    | succ j =>
      rw [List.getElem?_cons_succ] at hj
      have h1 := hO j y hj
      unfold pt
      rw [if_neg (by omega), show 287 - T.length + (j + 1) = 288 - T.length + j by omega]
      exact h1
theorem puts200 {w : World} {B : FB7} {k : Nat} {pos : Int} {hv dn : Bool} {er bd : Int} {T s : List UInt8} (hne : B.f ≠ B.u) (h : PBV w B k pos hv dn er bd T) (hT : (s ++ T).length ≤ 288) :
    Ret Tryz.prog 200 [ptr B.f, S s] w (fun _ w' => PBV w' B k pos hv dn er bd (s ++ T) ∧ Fram (pset B) w w') := by
  have hF : Fram (pset B) w w := Fram.refl _ _
  rw [List.length_append] at hT
  refine ret_of Tryz.func200 rfl Tryz.ntmps200 rfl ?_
  refine c_seq (fun K1 hK1 => ?_)
  refine c_reg ?_ -- region 0 fill.go:18
  refine wl (ro_move rfl) ?_
  refine wl (ro_lenS rfl st_9) ?_
  refine wl (ro_arith (r := (s.length : Int) - 1) rfl rfl rfl (Go.IntWalk.i64_in _ (by omega))) ?_
  refine wl (ro_assign rfl) ?_
  refine wl_nil (x_then (hK1 _ _ ?_))
  clear hK1 K1
  refine c_block ?_
  -- loop@r1: live slots [0, 1, 4]
  refine c_loopG (fun q a' w' => ∃ m, q = m ∧ m ≤ s.length ∧ PBV w' B k pos hv dn er bd (s.drop m ++ T) ∧ Fram (pset B) w w' ∧ ∃ e, a' = Fr 17 (upds e [(0, ptr B.f), (1, S s), (4, icv ((m : Int) - 1))]) []) s.length ⟨s.length, rfl, by omega, by rw [List.drop_length]; exact h, hF, kp _ ⟨rfl, rfl, rfl, trivial⟩⟩ ?_
  clear hF h
  rintro q a' u1 ⟨m, rfl, hm, h, hF, e, rfl⟩
  refine c_seq (fun K2 hK2 => ?_)
  refine c_seq (fun K3 hK3 => ?_)
  refine c_reg ?_ -- region 1 fill.go:18
  refine wl (ro_move rfl) ?_
  refine wl (ro_cmp (r := decide (1 ≤ q)) rfl rfl (congrArg some (decide_eq_decide.2 (by omega)))) ?_
  refine wl_nil (x_then (hK3 _ _ ?_))
  clear hK3 K3
  refine wc_cond rfl (fun hc9 => ?_) (fun hc9 => ?_)
  · try simp only [decide_eq_true_eq, decide_eq_false_iff_not, Bool.not_eq_true', Bool.not_eq_false', Bool.not_eq_eq_eq_not, Bool.not_true, Bool.not_false, beq_iff_eq, bne_iff_ne, ne_eq, beq_eq_false_iff_ne, bne_eq_false_iff_eq, gt_iff_lt, ge_iff_le, Int.not_lt, Int.not_le] at hc9
    obtain ⟨c, hc⟩ : ∃ c, s[q - 1]? = some c := ⟨_, List.getElem?_eq_getElem (by omega)⟩
    have hd : s.drop (q - 1) = c :: s.drop q := by
      obtain ⟨h1, h2⟩ := List.getElem?_eq_some_iff.1 hc
      rw [List.drop_eq_getElem_cons h1, h2, show q - 1 + 1 = q by omega]
    rw [show ((q : Int) - 1) = ((q - 1 : Nat) : Int) by omega]
    refine c_skip (x_then (hK2 _ _ ?_))
    clear hK2 K2
    refine forget [(0, _), (1, _), (4, _)] ⟨rfl, rfl, rfl, trivial⟩ (fun e => ?_)
    refine c_seq (fun K4 hK4 => ?_)
    refine c_block ?_
    refine c_reg ?_ -- region 3 fill.go:19
    refine wl (ro_move rfl) ?_
    refine wl (ro_move rfl) ?_
    refine wl (ro_move rfl) ?_
    refine wl (ro_indexS rfl rfl st_9 rfl (hc)) ?_
    refine wl_call rfl en_169 (put169 hne h (by rw [List.length_append, List.length_drop]; omega)) ?_
    rintro _ u2 ⟨h2, G2⟩
    replace hF := hF.transG G2 (by intro k hk h; simp only [pset] at h ⊢ <;> omega)
    refine wl_nil (x_blk (x_then (hK4 _ _ ?_)))
    clear hK4 K4
    refine c_reg ?_ -- region 2 fill.go:18
    refine wl (ro_move rfl) ?_
    refine wl (ro_arith (r := ((q - 1 : Nat) : Int) - 1) rfl rfl (congrArg some (by omega)) (Go.IntWalk.i64_in _ (by omega))) ?_
    refine wl (ro_assign rfl) ?_
    refine wl_nil (x_then ?_)
    refine ⟨q - 1, by omega, q - 1, rfl, by omega, ?_, hF, kp _ ⟨rfl, rfl, rfl, trivial⟩⟩
    rw [hd]
    exact h2
  · try simp only [decide_eq_true_eq, decide_eq_false_iff_not, Bool.not_eq_true', Bool.not_eq_false', Bool.not_eq_eq_eq_not, Bool.not_true, Bool.not_false, beq_iff_eq, bne_iff_ne, ne_eq, beq_eq_false_iff_ne, bne_eq_false_iff_eq, gt_iff_lt, ge_iff_le, Int.not_lt, Int.not_le] at hc9
    refine c_exit (x_thenX (x_thenX (x_blkX ?_)))
    refine bp_end Tryz.results200 rfl ?_
    have : q = 0 := by omega
    subst this
    rw [List.drop_zero] at h
    exact ⟨h, hF⟩
theorem dgF_ge : ∀ (f v : Nat) (a : List UInt8), a.length ≤ (dgF f v a).length
  | 0, _, a => Nat.le_refl _
  | f + 1, v, a => by
    unfold dgF
    split
    · simp
    · have := dgF_ge f (v / 10) (UInt8.ofNat (48 + v % 10) :: a)
      simp only [List.length_cons] at this
      omega
theorem dgF_gt (f v : Nat) (a : List UInt8) : a.length < (dgF (f + 1) v a).length := by
  unfold dgF
  split
  · simp
  · have := dgF_ge f (v / 10) (UInt8.ofNat (48 + v % 10) :: a)
    simp only [List.length_cons] at this
    omega
theorem putNum199 {w : World} {B : FB7} {k : Nat} {pos : Int} {hv dn : Bool} {er bd : Int} {T : List UInt8} {v : Nat} (hne : B.f ≠ B.u) (h : PBV w B k pos hv dn er bd T) (hv9 : v ≤ 999999999) (hT : (dgT v ++ T).length ≤ 288) :
    Ret Tryz.prog 199 [ptr B.f, i64c v] w (fun _ w' => PBV w' B k pos hv dn er bd (dgT v ++ T) ∧ Fram (pset B) w w') := by
  have hF : Fram (pset B) w w := Fram.refl _ _
  have e0 : dgT v ++ T = dgF 9 v T := (dgF_app 9 v [] T).symm
  rw [e0] at hT ⊢
  generalize hY : dgF 9 v T = Y at hT ⊢
  refine ret_of Tryz.func199 rfl Tryz.ntmps199 rfl ?_
  refine c_seq (fun K1 hK1 => ?_)
  refine c_reg ?_ -- region 0 fill.go:25
  refine wl (ro_assign rfl) ?_
  refine wl_nil (x_then (hK1 _ _ ?_))
  clear hK1 K1
  refine c_block ?_
  -- loop@r1: live slots [0, 1, 4]
  refine c_loopG (fun q a' w' => ∃ d v' T', q = 9 - d ∧ d ≤ 9 ∧ v' ≤ 999999999 ∧ dgF (9 - d) v' T' = Y ∧ PBV w' B k pos hv dn er bd T' ∧ Fram (pset B) w w' ∧ ∃ e, a' = Fr 19 (upds e [(0, ptr B.f), (1, i64c v'), (4, i64c d)]) []) 9 ⟨0, v, T, rfl, by omega, hv9, hY, h, hF, kp _ ⟨rfl, rfl, rfl, trivial⟩⟩ ?_
  clear hF h hY e0
  rintro q a' u1 ⟨d, v', T', rfl, hd, hv', hY, h, hF, e, rfl⟩
  refine c_seq (fun K2 hK2 => ?_)
  refine c_seq (fun K3 hK3 => ?_)
  refine c_reg ?_ -- region 1 fill.go:25
  refine wl (ro_move rfl) ?_
  refine wl (ro_cmp (r := decide (d < 9)) rfl rfl (congrArg some (decide_eq_decide.2 (by omega)))) ?_
  refine wl_nil (x_then (hK3 _ _ ?_))
  clear hK3 K3
  refine wc_cond rfl (fun hc6 => ?_) (fun hc6 => ?_)
  · try simp only [decide_eq_true_eq, decide_eq_false_iff_not, Bool.not_eq_true', Bool.not_eq_false', Bool.not_eq_eq_eq_not, Bool.not_true, Bool.not_false, beq_iff_eq, bne_iff_ne, ne_eq, beq_eq_false_iff_ne, bne_eq_false_iff_eq, gt_iff_lt, ge_iff_le, Int.not_lt, Int.not_le] at hc6
    have hq : 9 - d = (8 - d) + 1 := by omega
    have hlt := dgF_gt (8 - d) v' T'
    rw [← hq, hY] at hlt
    rw [hq] at hY
    unfold dgF at hY
    refine c_skip (x_then (hK2 _ _ ?_))
    clear hK2 K2
    refine forget [(0, _), (1, _), (4, _)] ⟨rfl, rfl, rfl, trivial⟩ (fun e => ?_)
    refine c_seq (fun K4 hK4 => ?_)
    refine c_block ?_
    refine c_seq (fun K5 hK5 => ?_)
    refine c_reg ?_ -- region 3 fill.go:26
    refine wl (ro_move rfl) ?_
    refine wl (ro_move rfl) ?_
    refine wl (ro_rem rfl rfl (by decide)) ?_
    refine wl (ro_arith (r := ((48 + v' % 10 : Nat) : Int)) rfl rfl (congrArg some (by rw [Int.tmod_eq_emod_of_nonneg (by omega)]; omega)) (Go.IntWalk.i64_in _ (by omega))) ?_
    refine wl (ro_toU8 rfl sc_3 in_5 (by omega)) ?_
    refine wl_call rfl en_169 (put169 hne h (by omega)) ?_
    rintro _ u2 ⟨h2, G2⟩
    replace hF := hF.transG G2 (by intro k hk h; simp only [pset] at h ⊢ <;> omega)
    refine wl_nil (x_then (hK5 _ _ ?_))
    clear hK5 K5
    refine forget [(0, _), (1, _), (4, _)] ⟨rfl, rfl, rfl, trivial⟩ (fun e => ?_)
    refine c_seq (fun K6 hK6 => ?_)
    refine c_reg ?_ -- region 4 fill.go:27
    refine wl (ro_move rfl) ?_
    refine wl (ro_quo rfl rfl (by decide) (by rw [Int.tdiv_eq_ediv_of_nonneg (by omega)]; exact Go.IntWalk.i64_in _ (by omega))) ?_
    refine wl (ro_assign rfl) ?_
    rw [show (v' : Int).tdiv 10 = ((v' / 10 : Nat) : Int) by rw [Int.tdiv_eq_ediv_of_nonneg (by omega)]; omega]
    refine wl_nil (x_then (hK6 _ _ ?_))
    clear hK6 K6
    refine forget [(0, _), (1, _), (4, _)] ⟨rfl, rfl, rfl, trivial⟩ (fun e => ?_)
    refine c_seq (fun K7 hK7 => ?_)
    refine c_reg ?_ -- region 5 fill.go:28
    refine wl (ro_move rfl) ?_
    refine wl (ro_cmp (r := decide (v' / 10 = 0)) rfl rfl (congrArg some (beqc (v' / 10) 0))) ?_
    refine wl_nil (x_then (hK7 _ _ ?_))
    clear hK7 K7
    refine wc_cond rfl (fun hc18 => ?_) (fun hc18 => ?_)
    · try simp only [decide_eq_true_eq, decide_eq_false_iff_not, Bool.not_eq_true', Bool.not_eq_false', Bool.not_eq_eq_eq_not, Bool.not_true, Bool.not_false, beq_iff_eq, bne_iff_ne, ne_eq, beq_eq_false_iff_ne, bne_eq_false_iff_eq, gt_iff_lt, ge_iff_le, Int.not_lt, Int.not_le] at hc18
      refine c_ret (x_blkR (x_thenR (x_thenR (x_blkR ?_))))
      refine bp_ret Tryz.results199 rfl ?_
      rw [if_pos hc18] at hY
      rw [← hY]
      exact ⟨h2, hF⟩
    · try simp only [decide_eq_true_eq, decide_eq_false_iff_not, Bool.not_eq_true', Bool.not_eq_false', Bool.not_eq_eq_eq_not, Bool.not_true, Bool.not_false, beq_iff_eq, bne_iff_ne, ne_eq, beq_eq_false_iff_ne, bne_eq_false_iff_eq, gt_iff_lt, ge_iff_le, Int.not_lt, Int.not_le] at hc18
      rw [if_neg hc18] at hY
      refine c_skip (x_blk (x_then (hK4 _ _ ?_)))
      clear hK4 K4
      refine c_reg ?_ -- region 2 fill.go:25
      refine wl (ro_move rfl) ?_
      refine wl (ro_arith (r := ((d + 1 : Nat) : Int)) rfl rfl rfl (Go.IntWalk.i64_in _ (by omega))) ?_
      refine wl (ro_assign rfl) ?_
      refine wl_nil (x_then ?_)
      exact ⟨9 - (d + 1), by omega, d + 1, v' / 10, _, rfl, by omega, by omega, by rw [show 9 - (d + 1) = 8 - d by omega]; exact hY, h2, hF, kp _ ⟨rfl, rfl, rfl, trivial⟩⟩
  · try simp only [decide_eq_true_eq, decide_eq_false_iff_not, Bool.not_eq_true', Bool.not_eq_false', Bool.not_eq_eq_eq_not, Bool.not_true, Bool.not_false, beq_iff_eq, bne_iff_ne, ne_eq, beq_eq_false_iff_ne, bne_eq_false_iff_eq, gt_iff_lt, ge_iff_le, Int.not_lt, Int.not_le] at hc6
    refine c_exit (x_thenX (x_thenX (x_blkX ?_)))
    refine bp_end Tryz.results199 rfl ?_
    have : d = 9 := by omega
    subst this
    have hY' : T' = Y := hY
    subst hY'
    exact ⟨h, hF⟩
theorem ref_len_app {r : Rf} {T : List UInt8} : (refT r ++ T).length = (if r.ac = true then 1 else 0) + 1 + (if r.ar = true then 1 else 0) + (dgT (r.r + 1).toNat ++ T).length := by
  unfold refT
  simp only [List.length_append, List.length_cons, List.length_nil]
  cases r.ac <;> cases r.ar <;> simp <;> omega
set_option maxHeartbeats 1000000 in
theorem putRef201 {w : World} {B : FB7} {k : Nat} {pos : Int} {hv dn : Bool} {er bd : Int} {T : List UInt8} {r : Rf} (hne : B.f ≠ B.u) (h : PBV w B k pos hv dn er bd T) (hr : RfOK r) (hT : (refT r ++ T).length ≤ 288) :
    Ret Tryz.prog 201 [ptr B.f, rfA r] w (fun _ w' => PBV w' B k pos hv dn er bd (refT r ++ T) ∧ Fram (pset B) w w') := by
  have hF : Fram (pset B) w w := Fram.refl _ _
  obtain ⟨r1, r2, r3, r4⟩ := hr
  obtain ⟨hl1, hl2⟩ := h.lt
  rw [ref_len_app] at hT
  have hap : refT r ++ T = (if r.ac = true then [36] else []) ++ UInt8.ofNat (65 + r.c.toNat) :: ((if r.ar = true then [36] else []) ++ (dgT (r.r + 1).toNat ++ T)) := by unfold refT; simp
  rw [hap]
  clear hap
  generalize hY : dgT (r.r + 1).toNat ++ T = Y at hT ⊢
  refine ret_of Tryz.func201 rfl Tryz.ntmps201 rfl ?_
  refine c_seq (fun K1 hK1 => ?_)
  refine c_reg ?_ -- region 0 fill.go:34
  refine wl_box (cs := (refc r)) rfl rfl (fun b3 w1 hbb3 h3 F1 => ?_)
  have hbsb3 := Nat.le_trans hF.size hbb3
  replace hF := hF.thenDrew.thenN F1
  replace h := h.far F1 (fun h ↦ h) (fun h ↦ h)
  refine wl_nil (x_then (hK1 _ _ ?_))
  clear hK1 K1
  refine forget [(0, _), (3, _)] ⟨rfl, rfl, trivial⟩ (fun e => ?_)
  refine c_seq (fun K2 hK2 => ?_)
  refine c_reg ?_ -- region 1 fill.go:35
  refine wl (ro_move rfl) ?_
  refine wl (ro_fieldAddr (k := 1) rfl fo_141_1) ?_
  refine wl (ro_loadB rfl sc_3 (by assumption) rfl) ?_
  refine wl (ro_arith (r := (((r.r + 1).toNat : Nat) : Int)) rfl rfl (congrArg some (by omega)) (Go.IntWalk.i64_in _ (by omega))) ?_
  refine wl_call rfl en_199 (putNum199 hne h (by omega) (by rw [hY]; omega)) ?_
  rintro _ u1 ⟨h1, G1⟩
  rw [hY] at h1
  replace hF := hF.transG G1 (by intro k hk h; simp only [pset, none'] at h ⊢ <;> omega)
  replace h3 := G1.blkF h3 (by intro h; simp only [pset, none'] at h <;> omega)
  refine wl_nil (x_then (hK2 _ _ ?_))
  clear hK2 K2
  refine c_mid (fun a' w' => PBV w' B k pos hv dn er bd ((if r.ar = true then [36] else []) ++ Y) ∧ Blk w'.heap b3 (refc r) 141 ∧ Fram (pset B) w w' ∧ ∃ e, a' = Fr 23 (upds e [(0, ptr B.f), (3, ptr b3)]) []) ?_ ?_
  · skip
    refine c_seq (fun K3 hK3 => ?_)
    refine c_reg ?_ -- region 2 fill.go:36
    refine wl (ro_fieldAddr (k := 3) rfl fo_141_3) ?_
    refine wl (ro_loadB rfl sc_4 (by assumption) rfl) ?_
    refine wl_nil (x_then (hK3 _ _ ?_))
    clear hK3 K3
    refine wc_cond rfl (fun hc10 => ?_) (fun hc10 => ?_)
    · try simp only [decide_eq_true_eq, decide_eq_false_iff_not, Bool.not_eq_true', Bool.not_eq_false', Bool.not_eq_eq_eq_not, Bool.not_true, Bool.not_false, beq_iff_eq, bne_iff_ne, ne_eq, beq_eq_false_iff_ne, bne_eq_false_iff_eq, gt_iff_lt, ge_iff_le, Int.not_lt, Int.not_le] at hc10
      refine c_reg ?_ -- region 3 fill.go:37
      refine wl (ro_move rfl) ?_
      refine wl_call rfl en_169 (put169 (c := 36) hne h1 (by rw [if_pos hc10] at hT; omega)) ?_
      rintro _ u3 ⟨h4, G3⟩
      replace hF := hF.transG G3 (by intro k hk h; simp only [pset, none'] at h ⊢ <;> omega)
      replace h3 := G3.blkF h3 (by intro h; simp only [pset, none'] at h <;> omega)
      refine wl_nil (x_then ?_)
      first
        | exact ⟨(by rw [if_pos hc10]; exact show PBV _ B k pos hv dn er bd (36 :: Y) from h4), h3, hF, kp _ ⟨rfl, rfl, trivial⟩⟩
        | exact ⟨by rw [if_neg (by simp [hc10])]; exact h1, h3, hF, kp _ ⟨rfl, rfl, trivial⟩⟩
    · try simp only [decide_eq_true_eq, decide_eq_false_iff_not, Bool.not_eq_true', Bool.not_eq_false', Bool.not_eq_eq_eq_not, Bool.not_true, Bool.not_false, beq_iff_eq, bne_iff_ne, ne_eq, beq_eq_false_iff_ne, bne_eq_false_iff_eq, gt_iff_lt, ge_iff_le, Int.not_lt, Int.not_le] at hc10
      refine c_skip (x_then ?_)
      first
        | exact ⟨(by rw [if_pos hc10]; exact show PBV _ B k pos hv dn er bd (36 :: Y) from h4), h3, hF, kp _ ⟨rfl, rfl, trivial⟩⟩
        | exact ⟨by rw [if_neg (by simp [hc10])]; exact h1, h3, hF, kp _ ⟨rfl, rfl, trivial⟩⟩
  clear hF h3 h1
  rintro a' u2 ⟨h2, h3, hF, e, rfl⟩
  refine c_seq (fun K4 hK4 => ?_)
  refine c_reg ?_ -- region 4 fill.go:39
  refine wl (ro_move rfl) ?_
  refine wl (ro_fieldAddr (k := 0) rfl fo_141_0) ?_
  refine wl (ro_loadB rfl sc_3 (by assumption) rfl) ?_
  refine wl (ro_arith (r := ((65 + r.c.toNat : Nat) : Int)) rfl rfl (congrArg some (by omega)) (Go.IntWalk.i64_in _ (by omega))) ?_
  refine wl (ro_toU8 rfl sc_3 in_5 (by omega)) ?_
  refine wl_call rfl en_169 (put169 hne h2 (by cases har : r.ar <;> simp [har] at hT ⊢ <;> omega)) ?_
  rintro _ u4 ⟨h5, G4⟩
  replace hF := hF.transG G4 (by intro k hk h; simp only [pset, none'] at h ⊢ <;> omega)
  replace h3 := G4.blkF h3 (by intro h; simp only [pset, none'] at h <;> omega)
  refine wl_nil (x_then (hK4 _ _ ?_))
  clear hK4 K4
  refine forget [(0, _), (3, _)] ⟨rfl, rfl, trivial⟩ (fun e => ?_)
  refine c_seq (fun K5 hK5 => ?_)
  refine c_reg ?_ -- region 5 fill.go:40
  refine wl (ro_fieldAddr (k := 2) rfl fo_141_2) ?_
  refine wl (ro_loadB rfl sc_4 (by assumption) rfl) ?_
  refine wl_nil (x_then (hK5 _ _ ?_))
  clear hK5 K5
  refine wc_cond rfl (fun hc20 => ?_) (fun hc20 => ?_)
  · try simp only [decide_eq_true_eq, decide_eq_false_iff_not, Bool.not_eq_true', Bool.not_eq_false', Bool.not_eq_eq_eq_not, Bool.not_true, Bool.not_false, beq_iff_eq, bne_iff_ne, ne_eq, beq_eq_false_iff_ne, bne_eq_false_iff_eq, gt_iff_lt, ge_iff_le, Int.not_lt, Int.not_le] at hc20
    refine c_reg ?_ -- region 6 fill.go:41
    refine wl (ro_move rfl) ?_
    refine wl_call rfl en_169 (put169 (c := 36) hne h5 (by rw [if_pos hc20] at hT; cases har : r.ar <;> simp [har] at hT ⊢ <;> omega)) ?_
    rintro _ u5 ⟨h6, G5⟩
    replace hF := hF.transG G5 (by intro k hk h; simp only [pset, none'] at h ⊢ <;> omega)
    replace h3 := G5.blkF h3 (by intro h; simp only [pset, none'] at h <;> omega)
    refine wl_nil ?_
    refine bp_end Tryz.results201 rfl ?_
    exact ⟨by rw [if_pos hc20]; exact h6, hF⟩
  · try simp only [decide_eq_true_eq, decide_eq_false_iff_not, Bool.not_eq_true', Bool.not_eq_false', Bool.not_eq_eq_eq_not, Bool.not_true, Bool.not_false, beq_iff_eq, bne_iff_ne, ne_eq, beq_eq_false_iff_ne, bne_eq_false_iff_eq, gt_iff_lt, ge_iff_le, Int.not_lt, Int.not_le] at hc20
    refine c_skip ?_
    refine bp_end Tryz.results201 rfl ?_
    exact ⟨by rw [if_neg (by simp [hc20])]; exact h5, hF⟩

end Go.Proofs.Qxb6500570aGreat
