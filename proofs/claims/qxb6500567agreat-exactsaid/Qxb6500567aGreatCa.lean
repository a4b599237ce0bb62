import Derived.Test.Qxb6500567aGreatBj
/- The model's parser: what its run holds; fail, is, number, add, set. -/
namespace Go.Proofs.Qxb6500567aGreat
set_option linter.unusedVariables false
set_option linter.unusedSimpArgs false

theorem Own.neblk {H : Array Obj} {v : Value} {e k n b t : Nat} {xs l : List Value} (h : Own H v e k n xs) (hb : Blk H b l t) (ht : e ≠ t) : ∀ g, v.ownBlock = some g → g ≠ b := by
  intro g hg hgb
  subst hgb
  rcases h.2 with ⟨h2, _⟩ | ⟨g', cap, l', h1, h2, _⟩
  · rw [h2] at hg; cases hg
  · rw [h1] at hg; cases hg
    exact ht (h2.uniq hb).2

/-- The cells of a run. -/
abbrev rc (p : List UInt8) (i : Nat) (VN : Value) (g e q : Nat) : List Value := [S p, i64c i, VN, i64c g, i64c e, i64c q]

/-- Its nodes: a list of cells. -/
abbrev lf (xs : List Value) : Nat → Value := fun j => xs.getD j undef

/-- The run, no error yet. -/
structure MV (w : World) (rb : Nat) (p : List UInt8) (i n g : Nat) (T : List RE) (VN : Value) (xs : List Value) : Prop where
  blk : Blk w.heap rb (rc p i VN g 0 0) 187
  own : Own w.heap VN 89 11 n xs
  ar : AR T (lf xs) 0
  tl : T.length = n
  n24 : n ≤ 24
  il : i ≤ p.length
  pl : p.length ≤ 128
  g3 : g ≤ 3

/-- What a run may write. -/
def mfr (rb : Nat) (VN : Value) : Nat → Prop := fun b => b = rb ∨ VN.ownBlock = some b

theorem MV.fram {w w' : World} {rb : Nat} {p : List UInt8} {i n g : Nat} {T : List RE} {VN : Value} {xs : List Value} {F : Nat → Prop} (h : MV w rb p i n g T VN xs) (hf : Fram F w w') (h1 : ¬ F rb) (h2 : ∀ b, VN.ownBlock = some b → ¬ F b) : MV w' rb p i n g T VN xs :=
  ⟨h.blk.fram hf h1, h.own.fram hf h2, h.ar, h.tl, h.n24, h.il, h.pl, h.g3⟩
theorem MV.framN {w w' : World} {rb : Nat} {p : List UInt8} {i n g : Nat} {T : List RE} {VN : Value} {xs : List Value} (h : MV w rb p i n g T VN xs) (hf : Fram none' w w') : MV w' rb p i n g T VN xs := h.fram hf (fun h => h) (fun _ _ h => h)

/-- Another place. -/
theorem MV.at {w w' : World} {rb : Nat} {p : List UInt8} {i n g i' : Nat} {T : List RE} {VN : Value} {xs : List Value} (h : MV w rb p i n g T VN xs) (hB : Blk w'.heap rb (rc p i' VN g 0 0) 187) (hf : Fram (one rb) w w') (hi : i' ≤ p.length) : MV w' rb p i' n g T VN xs :=
  ⟨hB, h.own.fram hf (fun b hb he => h.own.neblk h.blk (by decide) b hb he), h.ar, h.tl, h.n24, hi, h.pl, h.g3⟩

theorem fail90 {w : World} {rb : Nat} {p : List UInt8} {i g e pos q : Nat} {VN : Value} (hB : Blk w.heap rb (rc p i VN g 0 q) 187) : Ret Tryz.prog 90 [ptr rb, i64c e, i64c pos] w (fun r w' => r = icv (-1) ∧ Blk w'.heap rb (rc p i VN g e pos) 187 ∧ Fram (one rb) w w') := by
  have hF : Fram (one rb) w w := Fram.refl _ _
  refine ret_of Tryz.func90 rfl Tryz.ntmps90 rfl ?_
  refine c_seq (fun K1 hK1 => ?_)
  refine c_reg ?_ -- region 0 syntaxm.go:26
  refine wl (ro_assign rfl) ?_
  refine wl_nil (x_then (hK1 _ _ ?_))
  clear hK1 K1
  refine c_seq (fun K2 hK2 => ?_)
  refine c_seq (fun K3 hK3 => ?_)
  refine c_reg ?_ -- region 1 syntaxm.go:27
  refine wl (ro_move rfl) ?_
  refine wl (ro_nilCheck rfl) ?_
  refine wl (ro_fieldAddr (k := 4) rfl fo_187_4) ?_
  refine wl (ro_loadB rfl sc_53 (hB) (rfl)) ?_
  refine wl (ro_cmp rfl rfl rfl) ?_
  refine wl_nil (x_then (hK3 _ _ ?_))
  clear hK3 K3
  refine wc_condT rfl ?_
  refine c_reg ?_ -- region 2 syntaxm.go:28
  refine wl (ro_move rfl) ?_
  refine wl (ro_move rfl) ?_
  refine wl (ro_move rfl) ?_
  refine wl (ro_move rfl) ?_
  refine wl (ro_nilCheck rfl) ?_
  refine wl (ro_fieldAddr (k := 4) rfl fo_187_4) ?_
  refine wl_put rfl rfl rfl sz_53 hB ((by simp)) (rfl) (fun w1 hB F1 => ?_)
  replace hF := hF.thenDrew.thenO F1 (by first | exact .inr (by omega) | exact .inl rfl | exact .inl (by assumption))
  refine wl (ro_nilCheck rfl) ?_
  refine wl (ro_fieldAddr (k := 5) rfl fo_187_5) ?_
  refine wl_put rfl rfl rfl sz_3 hB ((by simp)) (rfl) (fun w2 hB F2 => ?_)
  replace hF := hF.thenDrew.thenO F2 (by first | exact .inr (by omega) | exact .inl rfl | exact .inl (by assumption))
  refine wl_nil (x_then (hK2 _ _ ?_))
  clear hK2 K2
  refine forget [] trivial (fun e => ?_)
  refine c_seq (fun K4 hK4 => ?_)
  refine c_reg ?_ -- region 3 syntaxm.go:30
  refine wl (ro_assign rfl) ?_
  refine wl_nil (x_then (hK4 _ _ ?_))
  clear hK4 K4
  refine c_ret ?_
  refine bp_ret Tryz.results90 rfl ?_
  exact ⟨rfl, hB, hF⟩

theorem is115 {w : World} {rb : Nat} {p : List UInt8} {i g e q : Nat} {VN : Value} {c : UInt8} (hB : Blk w.heap rb (rc p i VN g e q) 187) : Ret Tryz.prog 115 [ptr rb, u8c c] w (fun r w' => r = .bool (decide (p[i]? = some c)) ∧ Fram none' w w') := by
  have hF : Fram none' w w := Fram.refl _ _
  cases hb : p[i]? with
  | none =>
    have hge : p.length ≤ i := List.getElem?_eq_none_iff.1 hb
    refine ret_of Tryz.func115 rfl Tryz.ntmps115 rfl ?_
    refine c_seq (fun K1 hK1 => ?_)
    refine c_reg ?_ -- region 0 syntaxm.go:46
    refine wl (ro_assign rfl) ?_
    refine wl_nil (x_then (hK1 _ _ ?_))
    clear hK1 K1
    refine forget [(0, _), (1, _)] ⟨rfl, rfl, trivial⟩ (fun e => ?_)
    refine c_seq (fun K2 hK2 => ?_)
    refine c_pi [(0, false), (1, false), (2, false), (3, false), (4, false), (5, false), (6, false), (7, false), (8, false), (9, false), (10, false), (11, false), (12, false), (13, false), (14, false), (15, false), (16, false), (17, false), (18, false), (19, false), (20, false), (21, false), (22, false), (23, false)] (SameH _) mixed (by kernel_rfl) rfl (by kernel_rfl) (po_then (po_bp)) (sameH_now _ _) ?_ -- region 1 syntaxm.go:46
    refine pi_ro rfl (fun w hS => ro_move rfl) ?_
    refine pi_ro rfl (fun w hS => ro_nilCheck rfl) ?_
    refine pi_ro rfl (fun w hS => ro_fieldAddr (k := 1) rfl fo_187_1) ?_
    refine pi_ro rfl (fun w hS => ro_loadB rfl sc_3 (Blk.of_heap hB hS) (rfl)) ?_
    refine pi_ro rfl (fun w hS => ro_move rfl) ?_
    refine pi_ro rfl (fun w hS => ro_nilCheck rfl) ?_
    refine pi_ro rfl (fun w hS => ro_fieldAddr (k := 0) rfl fo_187_0) ?_
    refine pi_ro rfl (fun w hS => ro_loadB rfl sc_9 (Blk.of_heap hB hS) (rfl)) ?_
    refine pi_ro rfl (fun w hS => ro_lenS rfl st_9) ?_
    refine pi_ro rfl (fun w hS => ro_cmp (r := false) rfl rfl (congrArg some (decide_eq_false (by omega)))) ?_
    refine pi_ro rfl (fun w hS => ro_move rfl) ?_
    refine pi_gno rfl rfl ?_
    refine pi_gno rfl rfl ?_
    refine pi_gno rfl rfl ?_
    refine pi_gno rfl rfl ?_
    refine pi_gno rfl rfl ?_
    refine pi_gno rfl rfl ?_
    refine pi_gno rfl rfl ?_
    refine pi_gno rfl rfl ?_
    refine pi_gno rfl rfl ?_
    refine pi_gno rfl rfl ?_
    refine pi_gno rfl rfl ?_
    refine pi_ro rfl (fun w hS => ro_pick rfl rfl rfl) ?_
    refine pi_ro rfl (fun w hS => ro_assign rfl) ?_
    refine pi_nil (x_then (hK2 _ _ ?_))
    clear hK2 K2
    refine c_ret ?_
    refine bp_ret Tryz.results115 rfl ?_
    exact ⟨rfl, hF.thenDrew⟩
  | some b =>
    have hlt := get_lt hb
    refine ret_of Tryz.func115 rfl Tryz.ntmps115 rfl ?_
    refine c_seq (fun K1 hK1 => ?_)
    refine c_reg ?_ -- region 0 syntaxm.go:46
    refine wl (ro_assign rfl) ?_
    refine wl_nil (x_then (hK1 _ _ ?_))
    clear hK1 K1
    refine forget [(0, _), (1, _)] ⟨rfl, rfl, trivial⟩ (fun e => ?_)
    refine c_seq (fun K2 hK2 => ?_)
    refine c_pi [(0, false), (1, false), (2, false), (3, false), (4, false), (5, false), (6, false), (7, false), (8, false), (9, false), (10, false), (11, false), (12, false), (13, false), (14, false), (15, false), (16, false), (17, false), (18, false), (19, false), (20, false), (21, false), (22, false), (23, false)] (SameH _) mixed (by kernel_rfl) rfl (by kernel_rfl) (po_then (po_bp)) (sameH_now _ _) ?_ -- region 1 syntaxm.go:46
    refine pi_ro rfl (fun w hS => ro_move rfl) ?_
    refine pi_ro rfl (fun w hS => ro_nilCheck rfl) ?_
    refine pi_ro rfl (fun w hS => ro_fieldAddr (k := 1) rfl fo_187_1) ?_
    refine pi_ro rfl (fun w hS => ro_loadB rfl sc_3 (Blk.of_heap hB hS) (rfl)) ?_
    refine pi_ro rfl (fun w hS => ro_move rfl) ?_
    refine pi_ro rfl (fun w hS => ro_nilCheck rfl) ?_
    refine pi_ro rfl (fun w hS => ro_fieldAddr (k := 0) rfl fo_187_0) ?_
    refine pi_ro rfl (fun w hS => ro_loadB rfl sc_9 (Blk.of_heap hB hS) (rfl)) ?_
    refine pi_ro rfl (fun w hS => ro_lenS rfl st_9) ?_
    refine pi_ro rfl (fun w hS => ro_cmp (r := true) rfl rfl (congrArg some (decide_eq_true (by omega)))) ?_
    refine pi_ro rfl (fun w hS => ro_move rfl) ?_
    refine pi_gyes rfl rfl (fun w hS => ro_move rfl) ?_
    refine pi_gyes rfl rfl (fun w hS => ro_nilCheck rfl) ?_
    refine pi_gyes rfl rfl (fun w hS => ro_fieldAddr (k := 0) rfl fo_187_0) ?_
    refine pi_gyes rfl rfl (fun w hS => ro_loadB rfl sc_9 (Blk.of_heap hB hS) (rfl)) ?_
    refine pi_gyes rfl rfl (fun w hS => ro_move rfl) ?_
    refine pi_gyes rfl rfl (fun w hS => ro_nilCheck rfl) ?_
    refine pi_gyes rfl rfl (fun w hS => ro_fieldAddr (k := 1) rfl fo_187_1) ?_
    refine pi_gyes rfl rfl (fun w hS => ro_loadB rfl sc_3 (Blk.of_heap hB hS) (rfl)) ?_
    refine pi_gyes rfl rfl (fun w hS => ro_indexS rfl rfl st_9 (rfl) (hb)) ?_
    refine pi_gyes rfl rfl (fun w hS => ro_move rfl) ?_
    refine pi_gyes rfl rfl (fun w hS => ro_cmp (r := decide (b = c)) rfl rfl (congrArg some (u8eq b c))) ?_
    refine pi_ro rfl (fun w hS => ro_pick rfl rfl rfl) ?_
    refine pi_ro rfl (fun w hS => ro_assign rfl) ?_
    refine pi_nil (x_then (hK2 _ _ ?_))
    clear hK2 K2
    refine c_ret ?_
    refine bp_ret Tryz.results115 rfl ?_
    exact ⟨by simp, hF.thenDrew⟩

theorem number156 {w : World} {rb : Nat} {p : List UInt8} {i0 g : Nat} {VN : Value} (hB : Blk w.heap rb (rc p i0 VN g 0 0) 187) (hi0 : i0 ≤ p.length) (hpl : p.length ≤ 128) :
    Ret Tryz.prog 156 [ptr rb] w (fun r w' => r = icv (num p i0).1 ∧ Blk w'.heap rb (rc p (num p i0).2 VN g 0 0) 187 ∧ Fram (one rb) w w') := by
  have hF : Fram (one rb) w w := Fram.refl _ _
  have hN : num p i0 = ((numF (p.drop i0) (-1)).1, i0 + (numF (p.drop i0) (-1)).2) := rfl
  refine ret_of Tryz.func156 rfl Tryz.ntmps156 rfl ?_
  refine c_seq (fun K1 hK1 => ?_)
  refine c_reg ?_ -- region 0 syntaxm.go:75
  refine wl (ro_assign rfl) ?_
  refine wl_nil (x_then (hK1 _ _ ?_))
  clear hK1 K1
  refine forget [(0, _)] ⟨rfl, trivial⟩ (fun e => ?_)
  refine c_seq (fun K2 hK2 => ?_)
  refine c_reg ?_ -- region 1 syntaxm.go:76
  refine wl (ro_assign rfl) ?_
  refine wl_nil (x_then (hK2 _ _ ?_))
  clear hK2 K2
  refine forget [(0, _), (3, _)] ⟨rfl, rfl, trivial⟩ (fun e => ?_)
  refine c_seq (fun K3 hK3 => ?_)
  refine c_block ?_
  -- loop@r2: live slots [0, 3]
  refine c_loopG (fun m a' w' => ∃ (i : Nat) (v : Int), m = p.length - i ∧ i ≤ p.length ∧ -1 ≤ v ∧ v ≤ 4 ∧ Blk w'.heap rb (rc p i VN g 0 0) 187 ∧ (numF (p.drop i) v).1 = (num p i0).1 ∧ i + (numF (p.drop i) v).2 = (num p i0).2 ∧ Fram (one rb) w w' ∧ ∃ e, a' = Fr 64 (upds e [(0, ptr rb), (3, icv v)]) []) (p.length - i0) ⟨i0, -1, rfl, hi0, by omega, by omega, hB, by rw [hN], by rw [hN], hF, kp _ ⟨rfl, rfl, trivial⟩⟩ ?_
  clear hB hF
  rintro m a' w1 ⟨i, v, rfl, hil, hv1, hv2, hB, hr1, hr2, hF, e, rfl⟩
  have hcase : (∃ b, p[i]? = some b ∧ isDig b = true) ∨ (∃ b, p[i]? = some b ∧ b.toNat < 48) ∨ (∃ b, p[i]? = some b ∧ 48 ≤ b.toNat ∧ 57 < b.toNat) ∨ p[i]? = none := by
    cases hb : p[i]? with
    | none => exact .inr (.inr (.inr rfl))
    | some b =>
      by_cases h1 : b.toNat < 48
      · exact .inr (.inl ⟨b, rfl, h1⟩)
      · by_cases h2 : 57 < b.toNat
        · exact .inr (.inr (.inl ⟨b, rfl, by omega, h2⟩))
        · exact .inl ⟨b, rfl, isDig_iff.2 ⟨by omega, by omega⟩⟩
  refine c_seq (fun K4 hK4 => ?_)
  refine c_seq (fun K5 hK5 => ?_)
  rcases hcase with ⟨b, hb, hd⟩ | ⟨b, hb, hd⟩ | ⟨b, hb, hd, hd'⟩ | hb
  · skip
    have hlt := get_lt hb
    have hdd := isDig_iff.1 hd
    refine c_pi [(0, false), (1, false), (2, false), (3, false), (4, false), (5, false), (6, false), (7, false), (8, false), (9, false), (10, false), (11, false), (12, false), (13, false), (14, false), (15, false), (16, false), (17, false), (18, false), (19, false), (20, false), (21, false), (22, false), (23, false), (24, false), (25, false), (26, false), (27, false), (28, false), (29, false), (30, false), (31, false), (32, false), (33, false)] (SameH _) mixed (by kernel_rfl) rfl (by kernel_rfl) (po_then (po_then (po_then (po_blk (po_then (po_bp)))))) (sameH_now _ _) ?_ -- region 2 syntaxm.go:77
    refine pi_ro rfl (fun w hS => ro_move rfl) ?_
    refine pi_ro rfl (fun w hS => ro_nilCheck rfl) ?_
    refine pi_ro rfl (fun w hS => ro_fieldAddr (k := 1) rfl fo_187_1) ?_
    refine pi_ro rfl (fun w hS => ro_loadB rfl sc_3 (Blk.of_heap hB hS) (rfl)) ?_
    refine pi_ro rfl (fun w hS => ro_move rfl) ?_
    refine pi_ro rfl (fun w hS => ro_nilCheck rfl) ?_
    refine pi_ro rfl (fun w hS => ro_fieldAddr (k := 0) rfl fo_187_0) ?_
    refine pi_ro rfl (fun w hS => ro_loadB rfl sc_9 (Blk.of_heap hB hS) (rfl)) ?_
    refine pi_ro rfl (fun w hS => ro_lenS rfl st_9) ?_
    refine pi_ro rfl (fun w hS => ro_cmp (r := true) rfl rfl (congrArg some (decide_eq_true (by omega)))) ?_
    refine pi_ro rfl (fun w hS => ro_move rfl) ?_
    refine pi_gyes rfl rfl (fun w hS => ro_move rfl) ?_
    refine pi_gyes rfl rfl (fun w hS => ro_nilCheck rfl) ?_
    refine pi_gyes rfl rfl (fun w hS => ro_fieldAddr (k := 0) rfl fo_187_0) ?_
    refine pi_gyes rfl rfl (fun w hS => ro_loadB rfl sc_9 (Blk.of_heap hB hS) (rfl)) ?_
    refine pi_gyes rfl rfl (fun w hS => ro_move rfl) ?_
    refine pi_gyes rfl rfl (fun w hS => ro_nilCheck rfl) ?_
    refine pi_gyes rfl rfl (fun w hS => ro_fieldAddr (k := 1) rfl fo_187_1) ?_
    refine pi_gyes rfl rfl (fun w hS => ro_loadB rfl sc_3 (Blk.of_heap hB hS) (rfl)) ?_
    refine pi_gyes rfl rfl (fun w hS => ro_indexS rfl rfl st_9 (rfl) (hb)) ?_
    refine pi_gyes rfl rfl (fun w hS => ro_cmp (r := true) rfl rfl (congrArg some (decide_eq_true (by omega)))) ?_
    refine pi_ro rfl (fun w hS => ro_pick rfl rfl rfl) ?_
    refine pi_ro rfl (fun w hS => ro_move rfl) ?_
    refine pi_gyes rfl rfl (fun w hS => ro_move rfl) ?_
    refine pi_gyes rfl rfl (fun w hS => ro_nilCheck rfl) ?_
    refine pi_gyes rfl rfl (fun w hS => ro_fieldAddr (k := 0) rfl fo_187_0) ?_
    refine pi_gyes rfl rfl (fun w hS => ro_loadB rfl sc_9 (Blk.of_heap hB hS) (rfl)) ?_
    refine pi_gyes rfl rfl (fun w hS => ro_move rfl) ?_
    refine pi_gyes rfl rfl (fun w hS => ro_nilCheck rfl) ?_
    refine pi_gyes rfl rfl (fun w hS => ro_fieldAddr (k := 1) rfl fo_187_1) ?_
    refine pi_gyes rfl rfl (fun w hS => ro_loadB rfl sc_3 (Blk.of_heap hB hS) (rfl)) ?_
    refine pi_gyes rfl rfl (fun w hS => ro_indexS rfl rfl st_9 (rfl) (hb)) ?_
    refine pi_gyes rfl rfl (fun w hS => ro_cmp (r := true) rfl rfl (congrArg some (decide_eq_true (by omega)))) ?_
    refine pi_ro rfl (fun w hS => ro_pick rfl rfl rfl) ?_
    refine pi_nil (x_then (hK5 _ _ ?_))
    clear hK5 K5
    refine wc_condT rfl ?_
    refine c_skip (x_then (hK4 _ _ ?_))
    clear hK4 K4
    refine c_block ?_
    refine c_seq (fun K6 hK6 => ?_)
    refine c_seq (fun K7 hK7 => ?_)
    refine c_reg ?_ -- region 3 syntaxm.go:78
    refine wl (ro_move rfl) ?_
    refine wl (ro_cmp rfl rfl rfl) ?_
    refine wl_nil (x_then (hK7 _ _ ?_))
    clear hK7 K7
    refine wc_cond rfl (fun hc39 => ?_) (fun hc39 => ?_)
    · try simp only [decide_eq_true_eq, decide_eq_false_iff_not, Bool.not_eq_true', Bool.not_eq_false', Bool.not_eq_eq_eq_not, Bool.not_true, Bool.not_false, beq_iff_eq, bne_iff_ne, ne_eq, beq_eq_false_iff_ne, bne_eq_false_iff_eq, gt_iff_lt, ge_iff_le, Int.not_lt, Int.not_le] at hc39
      refine c_reg ?_ -- region 4 syntaxm.go:79
      refine wl (ro_assign rfl) ?_
      refine wl_nil (x_then (hK6 _ _ ?_))
      clear hK6 K6
      refine forget [(0, _), (3, _), (15, _), (16, _), (17, _), (18, _), (19, _), (20, _), (21, _), (22, _), (23, _), (24, _), (27, _), (28, _), (29, _), (30, _), (31, _), (32, _), (33, _), (34, _), (35, _), (36, _)] ⟨rfl, rfl, rfl, rfl, rfl, rfl, rfl, rfl, rfl, rfl, rfl, rfl, rfl, rfl, rfl, rfl, rfl, rfl, rfl, rfl, rfl, rfl, trivial⟩ (fun e => ?_)
      refine c_seq (fun K8 hK8 => ?_)
      refine c_pi [(0, false), (1, false), (2, false), (3, false), (4, false), (5, false), (6, false), (7, false), (8, false), (9, false), (10, false), (11, false), (12, false), (13, false), (14, false)] (SameH _) mixed (by kernel_rfl) rfl (by kernel_rfl) (po_then (po_blk (po_then (po_blk (po_then (po_bp)))))) (sameH_now _ _) ?_ -- region 5 syntaxm.go:81
      refine pi_ro rfl (fun w hS => ro_move rfl) ?_
      refine pi_ro rfl (fun w hS => ro_arith rfl rfl rfl (Go.IntWalk.i64_in _ (by omega))) ?_
      refine pi_ro rfl (fun w hS => ro_move rfl) ?_
      refine pi_ro rfl (fun w hS => ro_nilCheck rfl) ?_
      refine pi_ro rfl (fun w hS => ro_fieldAddr (k := 0) rfl fo_187_0) ?_
      refine pi_ro rfl (fun w hS => ro_loadB rfl sc_9 (Blk.of_heap hB hS) (rfl)) ?_
      refine pi_ro rfl (fun w hS => ro_move rfl) ?_
      refine pi_ro rfl (fun w hS => ro_nilCheck rfl) ?_
      refine pi_ro rfl (fun w hS => ro_fieldAddr (k := 1) rfl fo_187_1) ?_
      refine pi_ro rfl (fun w hS => ro_loadB rfl sc_3 (Blk.of_heap hB hS) (rfl)) ?_
      refine pi_ro rfl (fun w hS => ro_indexS rfl rfl st_9 (rfl) (hb)) ?_
      refine pi_ro rfl (fun w hS => ro_arith rfl rfl rfl (Go.IntWalk.u8_in _ (by omega))) ?_
      refine pi_ro rfl (fun w hS => ro_conv rfl sc_5 in_3 (Go.IntWalk.i64_in _ (by omega))) ?_
      refine pi_ro rfl (fun w hS => ro_arith rfl rfl rfl (Go.IntWalk.i64_in _ (by omega))) ?_
      refine pi_ro rfl (fun w hS => ro_assign rfl) ?_
      refine pi_nil (x_then (hK8 _ _ ?_))
      clear hK8 K8
      refine c_seq (fun K9 hK9 => ?_)
      refine c_seq (fun K10 hK10 => ?_)
      refine c_reg ?_ -- region 6 syntaxm.go:82
      refine wl (ro_move rfl) ?_
      refine wl (ro_cmp rfl rfl rfl) ?_
      refine wl_nil (x_then (hK10 _ _ ?_))
      clear hK10 K10
      refine wc_cond rfl (fun hc55 => ?_) (fun hc55 => ?_)
      · try simp only [decide_eq_true_eq, decide_eq_false_iff_not, Bool.not_eq_true', Bool.not_eq_false', Bool.not_eq_eq_eq_not, Bool.not_true, Bool.not_false, beq_iff_eq, bne_iff_ne, ne_eq, beq_eq_false_iff_ne, bne_eq_false_iff_eq, gt_iff_lt, ge_iff_le, Int.not_lt, Int.not_le] at hc55
        refine c_reg ?_ -- region 7 syntaxm.go:83
        refine wl (ro_assign rfl) ?_
        refine wl_nil (x_then (hK9 _ _ ?_))
        clear hK9 K9
        refine c_reg ?_ -- region 8 syntaxm.go:85
        refine wl (ro_move rfl) ?_
        refine wl (ro_nilCheck rfl) ?_
        refine wl (ro_fieldAddr (k := 1) rfl fo_187_1) ?_
        refine wl (ro_loadB rfl sc_3 (hB) (rfl)) ?_
        refine wl (ro_arith rfl rfl rfl (Go.IntWalk.i64_in _ (by omega))) ?_
        refine wl (ro_nilCheck rfl) ?_
        refine wl (ro_fieldAddr (k := 1) rfl fo_187_1) ?_
        refine wl_put rfl rfl rfl sz_3 hB ((by simp)) (rfl) (fun w1 hB F1 => ?_)
        replace hF := hF.thenDrew.thenO F1 (by first | exact .inr (by omega) | exact .inl rfl | exact .inl (by assumption))
        have hns := numF_step (v := v) hb hd
        rw [hns] at hr1 hr2
        refine wl_nil (x_blk (x_then ?_))
        refine ⟨p.length - (i + 1), by omega, i + 1, _, rfl, by omega, ?_, ?_, hB, ?_, ?_, hF, kp _ ⟨rfl, rfl, trivial⟩⟩
        · omega
        · omega
        · refine (congrArg (fun u => (numF (p.drop (i + 1)) u).1) (?_ : _ = digS v b)).trans hr1
          unfold digS
          (repeat' split) <;> omega
        · refine (congrArg (fun u => i + 1 + (numF (p.drop (i + 1)) u).2) (?_ : _ = digS v b)).trans (by omega)
          unfold digS
          (repeat' split) <;> omega
      · try simp only [decide_eq_true_eq, decide_eq_false_iff_not, Bool.not_eq_true', Bool.not_eq_false', Bool.not_eq_eq_eq_not, Bool.not_true, Bool.not_false, beq_iff_eq, bne_iff_ne, ne_eq, beq_eq_false_iff_ne, bne_eq_false_iff_eq, gt_iff_lt, ge_iff_le, Int.not_lt, Int.not_le] at hc55
        refine c_skip (x_then (hK9 _ _ ?_))
        clear hK9 K9
        refine c_reg ?_ -- region 8 syntaxm.go:85
        refine wl (ro_move rfl) ?_
        refine wl (ro_nilCheck rfl) ?_
        refine wl (ro_fieldAddr (k := 1) rfl fo_187_1) ?_
        refine wl (ro_loadB rfl sc_3 (hB) (rfl)) ?_
        refine wl (ro_arith rfl rfl rfl (Go.IntWalk.i64_in _ (by omega))) ?_
        refine wl (ro_nilCheck rfl) ?_
        refine wl (ro_fieldAddr (k := 1) rfl fo_187_1) ?_
        refine wl_put rfl rfl rfl sz_3 hB ((by simp)) (rfl) (fun w2 hB F2 => ?_)
        replace hF := hF.thenDrew.thenO F2 (by first | exact .inr (by omega) | exact .inl rfl | exact .inl (by assumption))
        have hns := numF_step (v := v) hb hd
        rw [hns] at hr1 hr2
        refine wl_nil (x_blk (x_then ?_))
        refine ⟨p.length - (i + 1), by omega, i + 1, _, rfl, by omega, ?_, ?_, hB, ?_, ?_, hF, kp _ ⟨rfl, rfl, trivial⟩⟩
        · omega
        · omega
        · refine (congrArg (fun u => (numF (p.drop (i + 1)) u).1) (?_ : _ = digS v b)).trans hr1
          unfold digS
          (repeat' split) <;> omega
        · refine (congrArg (fun u => i + 1 + (numF (p.drop (i + 1)) u).2) (?_ : _ = digS v b)).trans (by omega)
          unfold digS
          (repeat' split) <;> omega
    · try simp only [decide_eq_true_eq, decide_eq_false_iff_not, Bool.not_eq_true', Bool.not_eq_false', Bool.not_eq_eq_eq_not, Bool.not_true, Bool.not_false, beq_iff_eq, bne_iff_ne, ne_eq, beq_eq_false_iff_ne, bne_eq_false_iff_eq, gt_iff_lt, ge_iff_le, Int.not_lt, Int.not_le] at hc39
      refine c_skip (x_then (hK6 _ _ ?_))
      clear hK6 K6
      refine forget [(0, _), (3, _), (15, _), (16, _), (17, _), (18, _), (19, _), (20, _), (21, _), (22, _), (23, _), (24, _), (27, _), (28, _), (29, _), (30, _), (31, _), (32, _), (33, _), (34, _), (35, _), (36, _)] ⟨rfl, rfl, rfl, rfl, rfl, rfl, rfl, rfl, rfl, rfl, rfl, rfl, rfl, rfl, rfl, rfl, rfl, rfl, rfl, rfl, rfl, rfl, trivial⟩ (fun e => ?_)
      refine c_seq (fun K11 hK11 => ?_)
      refine c_pi [(0, false), (1, false), (2, false), (3, false), (4, false), (5, false), (6, false), (7, false), (8, false), (9, false), (10, false), (11, false), (12, false), (13, false), (14, false)] (SameH _) mixed (by kernel_rfl) rfl (by kernel_rfl) (po_then (po_blk (po_then (po_blk (po_then (po_bp)))))) (sameH_now _ _) ?_ -- region 5 syntaxm.go:81
      refine pi_ro rfl (fun w hS => ro_move rfl) ?_
      refine pi_ro rfl (fun w hS => ro_arith rfl rfl rfl (Go.IntWalk.i64_in _ (by omega))) ?_
      refine pi_ro rfl (fun w hS => ro_move rfl) ?_
      refine pi_ro rfl (fun w hS => ro_nilCheck rfl) ?_
      refine pi_ro rfl (fun w hS => ro_fieldAddr (k := 0) rfl fo_187_0) ?_
      refine pi_ro rfl (fun w hS => ro_loadB rfl sc_9 (Blk.of_heap hB hS) (rfl)) ?_
      refine pi_ro rfl (fun w hS => ro_move rfl) ?_
      refine pi_ro rfl (fun w hS => ro_nilCheck rfl) ?_
      refine pi_ro rfl (fun w hS => ro_fieldAddr (k := 1) rfl fo_187_1) ?_
      refine pi_ro rfl (fun w hS => ro_loadB rfl sc_3 (Blk.of_heap hB hS) (rfl)) ?_
      refine pi_ro rfl (fun w hS => ro_indexS rfl rfl st_9 (rfl) (hb)) ?_
      refine pi_ro rfl (fun w hS => ro_arith rfl rfl rfl (Go.IntWalk.u8_in _ (by omega))) ?_
      refine pi_ro rfl (fun w hS => ro_conv rfl sc_5 in_3 (Go.IntWalk.i64_in _ (by omega))) ?_
      refine pi_ro rfl (fun w hS => ro_arith rfl rfl rfl (Go.IntWalk.i64_in _ (by omega))) ?_
      refine pi_ro rfl (fun w hS => ro_assign rfl) ?_
      refine pi_nil (x_then (hK11 _ _ ?_))
      clear hK11 K11
      refine c_seq (fun K12 hK12 => ?_)
      refine c_seq (fun K13 hK13 => ?_)
      refine c_reg ?_ -- region 6 syntaxm.go:82
      refine wl (ro_move rfl) ?_
      refine wl (ro_cmp rfl rfl rfl) ?_
      refine wl_nil (x_then (hK13 _ _ ?_))
      clear hK13 K13
      refine wc_cond rfl (fun hc55 => ?_) (fun hc55 => ?_)
      · try simp only [decide_eq_true_eq, decide_eq_false_iff_not, Bool.not_eq_true', Bool.not_eq_false', Bool.not_eq_eq_eq_not, Bool.not_true, Bool.not_false, beq_iff_eq, bne_iff_ne, ne_eq, beq_eq_false_iff_ne, bne_eq_false_iff_eq, gt_iff_lt, ge_iff_le, Int.not_lt, Int.not_le] at hc55
        refine c_reg ?_ -- region 7 syntaxm.go:83
        refine wl (ro_assign rfl) ?_
        refine wl_nil (x_then (hK12 _ _ ?_))
        clear hK12 K12
        refine c_reg ?_ -- region 8 syntaxm.go:85
        refine wl (ro_move rfl) ?_
        refine wl (ro_nilCheck rfl) ?_
        refine wl (ro_fieldAddr (k := 1) rfl fo_187_1) ?_
        refine wl (ro_loadB rfl sc_3 (hB) (rfl)) ?_
        refine wl (ro_arith rfl rfl rfl (Go.IntWalk.i64_in _ (by omega))) ?_
        refine wl (ro_nilCheck rfl) ?_
        refine wl (ro_fieldAddr (k := 1) rfl fo_187_1) ?_
        refine wl_put rfl rfl rfl sz_3 hB ((by simp)) (rfl) (fun w3 hB F3 => ?_)
        replace hF := hF.thenDrew.thenO F3 (by first | exact .inr (by omega) | exact .inl rfl | exact .inl (by assumption))
        have hns := numF_step (v := v) hb hd
        rw [hns] at hr1 hr2
        refine wl_nil (x_blk (x_then ?_))
        refine ⟨p.length - (i + 1), by omega, i + 1, _, rfl, by omega, ?_, ?_, hB, ?_, ?_, hF, kp _ ⟨rfl, rfl, trivial⟩⟩
        · omega
        · omega
        · refine (congrArg (fun u => (numF (p.drop (i + 1)) u).1) (?_ : _ = digS v b)).trans hr1
          unfold digS
          (repeat' split) <;> omega
        · refine (congrArg (fun u => i + 1 + (numF (p.drop (i + 1)) u).2) (?_ : _ = digS v b)).trans (by omega)
          unfold digS
          (repeat' split) <;> omega
      · try simp only [decide_eq_true_eq, decide_eq_false_iff_not, Bool.not_eq_true', Bool.not_eq_false', Bool.not_eq_eq_eq_not, Bool.not_true, Bool.not_false, beq_iff_eq, bne_iff_ne, ne_eq, beq_eq_false_iff_ne, bne_eq_false_iff_eq, gt_iff_lt, ge_iff_le, Int.not_lt, Int.not_le] at hc55
        refine c_skip (x_then (hK12 _ _ ?_))
        clear hK12 K12
        refine c_reg ?_ -- region 8 syntaxm.go:85
        refine wl (ro_move rfl) ?_
        refine wl (ro_nilCheck rfl) ?_
        refine wl (ro_fieldAddr (k := 1) rfl fo_187_1) ?_
        refine wl (ro_loadB rfl sc_3 (hB) (rfl)) ?_
        refine wl (ro_arith rfl rfl rfl (Go.IntWalk.i64_in _ (by omega))) ?_
        refine wl (ro_nilCheck rfl) ?_
        refine wl (ro_fieldAddr (k := 1) rfl fo_187_1) ?_
        refine wl_put rfl rfl rfl sz_3 hB ((by simp)) (rfl) (fun w4 hB F4 => ?_)
        replace hF := hF.thenDrew.thenO F4 (by first | exact .inr (by omega) | exact .inl rfl | exact .inl (by assumption))
        have hns := numF_step (v := v) hb hd
        rw [hns] at hr1 hr2
        refine wl_nil (x_blk (x_then ?_))
        refine ⟨p.length - (i + 1), by omega, i + 1, _, rfl, by omega, ?_, ?_, hB, ?_, ?_, hF, kp _ ⟨rfl, rfl, trivial⟩⟩
        · omega
        · omega
        · refine (congrArg (fun u => (numF (p.drop (i + 1)) u).1) (?_ : _ = digS v b)).trans hr1
          unfold digS
          (repeat' split) <;> omega
        · refine (congrArg (fun u => i + 1 + (numF (p.drop (i + 1)) u).2) (?_ : _ = digS v b)).trans (by omega)
          unfold digS
          (repeat' split) <;> omega
  · skip
    have hlt := get_lt hb
    have hst := numF_stop (p := p) (i := i) (v := v) (fun b' hb' => by rw [hb] at hb'; cases hb'; exact isDig_not.2 (.inl hd))
    refine c_pi [(0, false), (1, false), (2, false), (3, false), (4, false), (5, false), (6, false), (7, false), (8, false), (9, false), (10, false), (11, false), (12, false), (13, false), (14, false), (15, false), (16, false), (17, false), (18, false), (19, false), (20, false), (21, false), (22, false), (23, false), (24, false), (25, false), (26, false), (27, false), (28, false), (29, false), (30, false), (31, false), (32, false), (33, false)] (SameH _) mixed (by kernel_rfl) rfl (by kernel_rfl) (po_then (po_then (po_then (po_blk (po_then (po_bp)))))) (sameH_now _ _) ?_ -- region 2 syntaxm.go:77
    refine pi_ro rfl (fun w hS => ro_move rfl) ?_
    refine pi_ro rfl (fun w hS => ro_nilCheck rfl) ?_
    refine pi_ro rfl (fun w hS => ro_fieldAddr (k := 1) rfl fo_187_1) ?_
    refine pi_ro rfl (fun w hS => ro_loadB rfl sc_3 (Blk.of_heap hB hS) (rfl)) ?_
    refine pi_ro rfl (fun w hS => ro_move rfl) ?_
    refine pi_ro rfl (fun w hS => ro_nilCheck rfl) ?_
    refine pi_ro rfl (fun w hS => ro_fieldAddr (k := 0) rfl fo_187_0) ?_
    refine pi_ro rfl (fun w hS => ro_loadB rfl sc_9 (Blk.of_heap hB hS) (rfl)) ?_
    refine pi_ro rfl (fun w hS => ro_lenS rfl st_9) ?_
    refine pi_ro rfl (fun w hS => ro_cmp (r := true) rfl rfl (congrArg some (decide_eq_true (by omega)))) ?_
    refine pi_ro rfl (fun w hS => ro_move rfl) ?_
    refine pi_gyes rfl rfl (fun w hS => ro_move rfl) ?_
    refine pi_gyes rfl rfl (fun w hS => ro_nilCheck rfl) ?_
    refine pi_gyes rfl rfl (fun w hS => ro_fieldAddr (k := 0) rfl fo_187_0) ?_
    refine pi_gyes rfl rfl (fun w hS => ro_loadB rfl sc_9 (Blk.of_heap hB hS) (rfl)) ?_
    refine pi_gyes rfl rfl (fun w hS => ro_move rfl) ?_
    refine pi_gyes rfl rfl (fun w hS => ro_nilCheck rfl) ?_
    refine pi_gyes rfl rfl (fun w hS => ro_fieldAddr (k := 1) rfl fo_187_1) ?_
    refine pi_gyes rfl rfl (fun w hS => ro_loadB rfl sc_3 (Blk.of_heap hB hS) (rfl)) ?_
    refine pi_gyes rfl rfl (fun w hS => ro_indexS rfl rfl st_9 (rfl) (hb)) ?_
    refine pi_gyes rfl rfl (fun w hS => ro_cmp (r := false) rfl rfl (congrArg some (decide_eq_false (by omega)))) ?_
    refine pi_ro rfl (fun w hS => ro_pick rfl rfl rfl) ?_
    refine pi_ro rfl (fun w hS => ro_move rfl) ?_
    refine pi_gno rfl rfl ?_
    refine pi_gno rfl rfl ?_
    refine pi_gno rfl rfl ?_
    refine pi_gno rfl rfl ?_
    refine pi_gno rfl rfl ?_
    refine pi_gno rfl rfl ?_
    refine pi_gno rfl rfl ?_
    refine pi_gno rfl rfl ?_
    refine pi_gno rfl rfl ?_
    refine pi_gno rfl rfl ?_
    refine pi_ro rfl (fun w hS => ro_pick rfl rfl rfl) ?_
    refine pi_nil (x_then (hK5 _ _ ?_))
    clear hK5 K5
    refine wc_condF rfl ?_
    refine c_exit (x_thenX (x_thenX (x_blkX (x_then (hK3 _ _ ?_)))))
    clear hK4 K4 hK3 K3
    refine forget [(3, _)] ⟨rfl, trivial⟩ (fun e => ?_)
    refine c_seq (fun K14 hK14 => ?_)
    refine c_reg ?_ -- region 9 syntaxm.go:87
    refine wl (ro_move rfl) ?_
    refine wl (ro_assign rfl) ?_
    refine wl_nil (x_then (hK14 _ _ ?_))
    clear hK14 K14
    refine c_ret ?_
    refine bp_ret Tryz.results156 rfl ?_
    rw [hst] at hr1 hr2
    have hi2 : i = (num p i0).2 := by simpa using hr2
    rw [← hi2, ← hr1]
    exact ⟨rfl, hB, hF.thenDrew⟩
  · skip
    have hlt := get_lt hb
    have hst := numF_stop (p := p) (i := i) (v := v) (fun b' hb' => by rw [hb] at hb'; cases hb'; exact isDig_not.2 (.inr hd'))
    refine c_pi [(0, false), (1, false), (2, false), (3, false), (4, false), (5, false), (6, false), (7, false), (8, false), (9, false), (10, false), (11, false), (12, false), (13, false), (14, false), (15, false), (16, false), (17, false), (18, false), (19, false), (20, false), (21, false), (22, false), (23, false), (24, false), (25, false), (26, false), (27, false), (28, false), (29, false), (30, false), (31, false), (32, false), (33, false)] (SameH _) mixed (by kernel_rfl) rfl (by kernel_rfl) (po_then (po_then (po_then (po_blk (po_then (po_bp)))))) (sameH_now _ _) ?_ -- region 2 syntaxm.go:77
    refine pi_ro rfl (fun w hS => ro_move rfl) ?_
    refine pi_ro rfl (fun w hS => ro_nilCheck rfl) ?_
    refine pi_ro rfl (fun w hS => ro_fieldAddr (k := 1) rfl fo_187_1) ?_
    refine pi_ro rfl (fun w hS => ro_loadB rfl sc_3 (Blk.of_heap hB hS) (rfl)) ?_
    refine pi_ro rfl (fun w hS => ro_move rfl) ?_
    refine pi_ro rfl (fun w hS => ro_nilCheck rfl) ?_
    refine pi_ro rfl (fun w hS => ro_fieldAddr (k := 0) rfl fo_187_0) ?_
    refine pi_ro rfl (fun w hS => ro_loadB rfl sc_9 (Blk.of_heap hB hS) (rfl)) ?_
    refine pi_ro rfl (fun w hS => ro_lenS rfl st_9) ?_
    refine pi_ro rfl (fun w hS => ro_cmp (r := true) rfl rfl (congrArg some (decide_eq_true (by omega)))) ?_
    refine pi_ro rfl (fun w hS => ro_move rfl) ?_
    refine pi_gyes rfl rfl (fun w hS => ro_move rfl) ?_
    refine pi_gyes rfl rfl (fun w hS => ro_nilCheck rfl) ?_
    refine pi_gyes rfl rfl (fun w hS => ro_fieldAddr (k := 0) rfl fo_187_0) ?_
    refine pi_gyes rfl rfl (fun w hS => ro_loadB rfl sc_9 (Blk.of_heap hB hS) (rfl)) ?_
    refine pi_gyes rfl rfl (fun w hS => ro_move rfl) ?_
    refine pi_gyes rfl rfl (fun w hS => ro_nilCheck rfl) ?_
    refine pi_gyes rfl rfl (fun w hS => ro_fieldAddr (k := 1) rfl fo_187_1) ?_
    refine pi_gyes rfl rfl (fun w hS => ro_loadB rfl sc_3 (Blk.of_heap hB hS) (rfl)) ?_
    refine pi_gyes rfl rfl (fun w hS => ro_indexS rfl rfl st_9 (rfl) (hb)) ?_
    refine pi_gyes rfl rfl (fun w hS => ro_cmp (r := true) rfl rfl (congrArg some (decide_eq_true (by omega)))) ?_
    refine pi_ro rfl (fun w hS => ro_pick rfl rfl rfl) ?_
    refine pi_ro rfl (fun w hS => ro_move rfl) ?_
    refine pi_gyes rfl rfl (fun w hS => ro_move rfl) ?_
    refine pi_gyes rfl rfl (fun w hS => ro_nilCheck rfl) ?_
    refine pi_gyes rfl rfl (fun w hS => ro_fieldAddr (k := 0) rfl fo_187_0) ?_
    refine pi_gyes rfl rfl (fun w hS => ro_loadB rfl sc_9 (Blk.of_heap hB hS) (rfl)) ?_
    refine pi_gyes rfl rfl (fun w hS => ro_move rfl) ?_
    refine pi_gyes rfl rfl (fun w hS => ro_nilCheck rfl) ?_
    refine pi_gyes rfl rfl (fun w hS => ro_fieldAddr (k := 1) rfl fo_187_1) ?_
    refine pi_gyes rfl rfl (fun w hS => ro_loadB rfl sc_3 (Blk.of_heap hB hS) (rfl)) ?_
    refine pi_gyes rfl rfl (fun w hS => ro_indexS rfl rfl st_9 (rfl) (hb)) ?_
    refine pi_gyes rfl rfl (fun w hS => ro_cmp (r := false) rfl rfl (congrArg some (decide_eq_false (by omega)))) ?_
    refine pi_ro rfl (fun w hS => ro_pick rfl rfl rfl) ?_
    refine pi_nil (x_then (hK5 _ _ ?_))
    clear hK5 K5
    refine wc_condF rfl ?_
    refine c_exit (x_thenX (x_thenX (x_blkX (x_then (hK3 _ _ ?_)))))
    clear hK4 K4 hK3 K3
    refine forget [(3, _)] ⟨rfl, trivial⟩ (fun e => ?_)
    refine c_seq (fun K15 hK15 => ?_)
    refine c_reg ?_ -- region 9 syntaxm.go:87
    refine wl (ro_move rfl) ?_
    refine wl (ro_assign rfl) ?_
    refine wl_nil (x_then (hK15 _ _ ?_))
    clear hK15 K15
    refine c_ret ?_
    refine bp_ret Tryz.results156 rfl ?_
    rw [hst] at hr1 hr2
    have hi2 : i = (num p i0).2 := by simpa using hr2
    rw [← hi2, ← hr1]
    exact ⟨rfl, hB, hF.thenDrew⟩
  · skip
    have hge : p.length ≤ i := List.getElem?_eq_none_iff.1 hb
    have hst := numF_stop (p := p) (i := i) (v := v) (fun b' hb' => by rw [hb] at hb'; cases hb')
    refine c_pi [(0, false), (1, false), (2, false), (3, false), (4, false), (5, false), (6, false), (7, false), (8, false), (9, false), (10, false), (11, false), (12, false), (13, false), (14, false), (15, false), (16, false), (17, false), (18, false), (19, false), (20, false), (21, false), (22, false), (23, false), (24, false), (25, false), (26, false), (27, false), (28, false), (29, false), (30, false), (31, false), (32, false), (33, false)] (SameH _) mixed (by kernel_rfl) rfl (by kernel_rfl) (po_then (po_then (po_then (po_blk (po_then (po_bp)))))) (sameH_now _ _) ?_ -- region 2 syntaxm.go:77
    refine pi_ro rfl (fun w hS => ro_move rfl) ?_
    refine pi_ro rfl (fun w hS => ro_nilCheck rfl) ?_
    refine pi_ro rfl (fun w hS => ro_fieldAddr (k := 1) rfl fo_187_1) ?_
    refine pi_ro rfl (fun w hS => ro_loadB rfl sc_3 (Blk.of_heap hB hS) (rfl)) ?_
    refine pi_ro rfl (fun w hS => ro_move rfl) ?_
    refine pi_ro rfl (fun w hS => ro_nilCheck rfl) ?_
    refine pi_ro rfl (fun w hS => ro_fieldAddr (k := 0) rfl fo_187_0) ?_
    refine pi_ro rfl (fun w hS => ro_loadB rfl sc_9 (Blk.of_heap hB hS) (rfl)) ?_
    refine pi_ro rfl (fun w hS => ro_lenS rfl st_9) ?_
    refine pi_ro rfl (fun w hS => ro_cmp (r := false) rfl rfl (congrArg some (decide_eq_false (by omega)))) ?_
    refine pi_ro rfl (fun w hS => ro_move rfl) ?_
    refine pi_gno rfl rfl ?_
    refine pi_gno rfl rfl ?_
    refine pi_gno rfl rfl ?_
    refine pi_gno rfl rfl ?_
    refine pi_gno rfl rfl ?_
    refine pi_gno rfl rfl ?_
    refine pi_gno rfl rfl ?_
    refine pi_gno rfl rfl ?_
    refine pi_gno rfl rfl ?_
    refine pi_gno rfl rfl ?_
    refine pi_ro rfl (fun w hS => ro_pick rfl rfl rfl) ?_
    refine pi_ro rfl (fun w hS => ro_move rfl) ?_
    refine pi_gno rfl rfl ?_
    refine pi_gno rfl rfl ?_
    refine pi_gno rfl rfl ?_
    refine pi_gno rfl rfl ?_
    refine pi_gno rfl rfl ?_
    refine pi_gno rfl rfl ?_
    refine pi_gno rfl rfl ?_
    refine pi_gno rfl rfl ?_
    refine pi_gno rfl rfl ?_
    refine pi_gno rfl rfl ?_
    refine pi_ro rfl (fun w hS => ro_pick rfl rfl rfl) ?_
    refine pi_nil (x_then (hK5 _ _ ?_))
    clear hK5 K5
    refine wc_condF rfl ?_
    refine c_exit (x_thenX (x_thenX (x_blkX (x_then (hK3 _ _ ?_)))))
    clear hK4 K4 hK3 K3
    refine forget [(3, _)] ⟨rfl, trivial⟩ (fun e => ?_)
    refine c_seq (fun K16 hK16 => ?_)
    refine c_reg ?_ -- region 9 syntaxm.go:87
    refine wl (ro_move rfl) ?_
    refine wl (ro_assign rfl) ?_
    refine wl_nil (x_then (hK16 _ _ ?_))
    clear hK16 K16
    refine c_ret ?_
    refine bp_ret Tryz.results156 rfl ?_
    rw [hst] at hr1 hr2
    have hi2 : i = (num p i0).2 := by simpa using hr2
    rw [← hi2, ← hr1]
    exact ⟨rfl, hB, hF.thenDrew⟩

end Go.Proofs.Qxb6500567aGreat
