import Derived.Test.Qxb6500568aGreatDoorTe
import Derived.Test.Qxb6500568aGreatDoorVc
import Derived.Laws.StructEq
import Derived.Test.Qxb6500568aGreatDoorRj
/- The check of the parser. -/
namespace Go.Proofs.Qxb6500568aGreatDoor
open Ieee
set_option linter.unusedVariables false
set_option linter.unusedSimpArgs false
set_option linter.unusedSectionVars false

theorem neqNd_run (w : World) : (Op.equalIn (9999 + 1) 148 (.agg (ndc (Nd.zero, 0)).toArray) (.agg (ndc (Nd.zero, 0)).toArray)).run Tryz.prog w = .ok true w := by
  have hu : Tryz.prog.underlying 148 = some (.struct (Tryz.prog.fieldsOf 148)) := by unfold Program.fieldsOf; rw [Tryz.underlying148]
  rw [run_equalIn_struct w 9999 148 _ _ hu (by kernel_rfl)]
  unfold Program.fieldsOf
  rw [Tryz.underlying148]
  have e3 : ∀ a : Int, (Op.equalIn 9999 3 (.int .i64 a) (.int .i64 a)).run Tryz.prog w = .ok true w := fun a => by rw [run_equalIn_int w 9998 3 .i64 .i64 a a Tryz.underlying3]; simp
  have e117 : ∀ a : Int, (Op.equalIn 9999 117 (.int .u64 a) (.int .u64 a)).run Tryz.prog w = .ok true w := fun a => by rw [run_equalIn_int w 9998 117 .u64 .u64 a a Tryz.underlying117]; simp
  have e9 : ∀ a : ByteArray, (Op.equalIn 9999 9 (.string a) (.string a)).run Tryz.prog w = .ok true w := fun a => by rw [run_equalIn_string w 9998 9 a a Tryz.underlying9]; simp
  simp [Op.eqFields, part, ndc, Nd.zero, i64c, u64c, S, e3, e117, e9]
theorem ro_neNd0 {n : Nat} {e : Nat → Option Value} {w : World} {x y : Operand} {t' : TypeId} (hx : evO n e x = some (.agg (ndc (Nd.zero, 0)).toArray)) (hy : evO n e y = some (.agg (ndc (Nd.zero, 0)).toArray)) : RO Tryz.prog n e w (.binOp .neq 148 x y t') (.bool false) := by
  intro ds dst ty ps af g
  have hg : Tryz.prog.eqGuardType Tryz.prog.depth 148 = false := by kernel_rfl
  have key : (Op.equal 148 (.agg (ndc (Nd.zero, 0)).toArray) (.agg (ndc (Nd.zero, 0)).toArray)).run Tryz.prog w = .ok true w := neqNd_run w
  simp [execOp, evO_eval hx, evO_eval hy, eqGuard, hg, binOp, key]
theorem ro_max4 {P : Program} {n : Nat} {e : Nat → Option Value} {w : World} {x y z u : Operand} {a b c d : Nat} {ts : Array TypeId} (hx : evO n e x = some (i64c a)) (hy : evO n e y = some (i64c b)) (hz : evO n e z = some (i64c c)) (hu : evO n e u = some (i64c d)) : RO P n e w (.call ⟨.builtin .max, #[x, y, z, u], ts⟩) (i64c (max (max (max a b) c) d)) := by
  have h2 : ∀ p q : Nat, (if p < q then (q : Int) else (p : Int)) = ((max p q : Nat) : Int) := fun p q => by
    split
    · rw [Nat.max_eq_right (by omega)]
    · rw [Nat.max_eq_left (by omega)]
  intro ds dst ty ps af g
  have hx' : evO n e x = some (.int .i64 (a : Int)) := hx
  have hy' : evO n e y = some (.int .i64 (b : Int)) := hy
  have hz' : evO n e z = some (.int .i64 (c : Int)) := hz
  have hu' : evO n e u = some (.int .i64 (d : Int)) := hu
  simp [execOp, resolve, evO_eval hx', evO_eval hy', evO_eval hz', evO_eval hu', invoke, builtin, Builtin.max_, Builtin.max2, i64c]
  simp only [h2, Int.ofNat_lt]
  omega
theorem nbeq {x y : Bool} (h : x = true ↔ y = true) : (!(x == y)) = false := by
  revert h
  cases x <;> cases y <;> simp
/-- the nodes as the check reads them. -/
def NdP (G : List (Nd × Nat)) : Prop := ∀ (i : Nat) (y : Nd × Nat), G[i]? = some y → (i = 0 → y = (Nd.zero, 0)) ∧ (y.1.A ≤ i - 1 ∧ y.1.B ≤ i - 1 ∧ y.1.C ≤ i - 1) ∧ (y.1.Nx = 0 ∨ (i < y.1.Nx ∧ y.1.Nx < G.length))
theorem SyV.open {w : World} {ow : Nat → Nat} {sb : Nat} (h : SyV w ow sb) : ∃ (np : Value) (va : Option Addr) (vc : Nat) (na : Option Addr) (nc : Nat) (TL : List Tok) (G : List (Nd × Nat)), Blk w.heap sb [np, .slice va TL.length vc, .slice na G.length nc] 79 ∧ OwT w ow 61 (.slice va TL.length vc) 182 5 TL.length (rws tkc TL) ∧ OwT w ow 62 (.slice na G.length nc) 148 8 G.length (rws ndc G) ∧ (TL = [] ∨ TkL 2048 0 TL) ∧ TL.length ≤ 2049 ∧ G.length ≤ 2049 ∧ NdP G := by
  obtain ⟨np, V, N, n0, xs0, n1, xs1, hX, hsb, hV, hN, hT, hD⟩ := h
  obtain ⟨va, vc, rfl⟩ := hV.form
  obtain ⟨na, nc, rfl⟩ := hN.form
  have hT' : ∃ TL : List Tok, n0 = TL.length ∧ OwT w ow 61 (.slice va TL.length vc) 182 5 TL.length (rws tkc TL) ∧ (TL = [] ∨ TkL 2048 0 TL) ∧ TL.length ≤ 2049 := by
    rcases hT with rfl | ⟨s, h1, rfl, rfl⟩
    · have := hV.take (Nat.zero_le 0)
      rw [Nat.zero_mul, List.take_zero] at this
      exact ⟨[], rfl, this, .inl rfl, Nat.zero_le _⟩
    · exact ⟨toks s, rfl, hV, .inr (toks_l h1), by have := toks_len s; omega⟩
  have hD' : ∃ G : List (Nd × Nat), n1 = G.length ∧ OwT w ow 62 (.slice na G.length nc) 148 8 G.length (rws ndc G) ∧ G.length ≤ 2049 ∧ NdP G := by
    rcases hD with rfl | ⟨G, t, k, h1, rfl, rfl, h4, h5, h6, y, r, h7⟩
    · have := hN.take (Nat.zero_le 0)
      rw [Nat.zero_mul, List.take_zero] at this
      exact ⟨[], rfl, this, Nat.zero_le _, fun i y hy => by cases hy⟩
    · refine ⟨G, rfl, hN, h6, fun i u hu => ?_⟩
      have ha : (arena t)[i]? = some u.1 := by rw [← h4, List.getElem?_map, hu]; rfl
      rcases arena_lk h1 ha with ⟨rfl, e⟩ | ⟨q1, ⟨q2, q3, q4⟩, q5⟩
      · have hz : u = (Nd.zero, 0) := by
          rw [h7] at hu
          injection hu with e2
          rw [← e2] at e ⊢
          exact congrArg (fun z => (z, 0)) e
        refine ⟨fun _ => hz, ?_, ?_⟩
        · rw [hz]; exact ⟨Nat.le_refl _, Nat.le_refl _, Nat.le_refl _⟩
        · rw [hz]; exact .inl rfl
      · exact ⟨fun e => by omega, ⟨by omega, by omega, by omega⟩, by omega⟩
  obtain ⟨TL, rfl, a1, a2, a3⟩ := hT'
  obtain ⟨G, rfl, b1, b2, b3⟩ := hD'
  exact ⟨np, va, vc, na, nc, TL, G, hX, a1, b1, a2, a3, b2, b3⟩
set_option maxHeartbeats 16000000 in
theorem synCheck94 {w : World} {ow : Nat → Nat} {sb : Nat} (hS : SyV w ow sb) : Ret Tryz.prog 94 [ptr sb] w (fun r w' => r = .bool true ∧ Fram none' w w') := by
  obtain ⟨np, va, vc, na, nc, TL, G, hX, hV, hN, hTL, hl1, hl2, hND⟩ := hS.open
  clear hS
  have hF : Fram none' w w := Fram.refl _ _
  have hX0 := hX
  refine ret_of Tryz.func94 rfl Tryz.ntmps94 rfl ?_
  refine c_seq (fun K1 hK1 => ?_)
  refine c_reg ?_ -- region 0 syn.go:61
  refine wl (ro_assign rfl) ?_
  refine wl_nil (x_then (hK1 _ _ ?_))
  clear hK1 K1
  refine c_seq (fun K2 hK2 => ?_)
  refine c_seq (fun K3 hK3 => ?_)
  refine c_reg ?_ -- region 1 syn.go:62
  refine wl (ro_move rfl) ?_
  refine wl (ro_nilCheck rfl) ?_
  refine wl (ro_fieldAddr (k := 1) rfl fo_79_1) ?_
  refine wl (ro_loadB rfl sc_76 (by assumption) rfl) ?_
  refine wl (ro_lenL rfl se_76) ?_
  refine wl (ro_cmp rfl rfl rfl) ?_
  refine wl_fork rfl (fun hg14 => ?_) (fun hg14 => ?_)
  · try simp only [decide_eq_true_eq, decide_eq_false_iff_not, Bool.not_eq_true', Bool.not_eq_false', Bool.not_eq_eq_eq_not, Bool.not_true, Bool.not_false, beq_iff_eq, bne_iff_ne, ne_eq, beq_eq_false_iff_ne, bne_eq_false_iff_eq, gt_iff_lt, ge_iff_le, Int.not_lt, Int.not_le] at hg14
    exfalso; omega
  · try simp only [decide_eq_true_eq, decide_eq_false_iff_not, Bool.not_eq_true', Bool.not_eq_false', Bool.not_eq_eq_eq_not, Bool.not_true, Bool.not_false, beq_iff_eq, bne_iff_ne, ne_eq, beq_eq_false_iff_ne, bne_eq_false_iff_eq, gt_iff_lt, ge_iff_le, Int.not_lt, Int.not_le] at hg14
    refine wlg_yes rfl (ro_move rfl) ?_
    refine wlg_yes rfl (ro_nilCheck rfl) ?_
    refine wlg_yes rfl (ro_fieldAddr (k := 2) rfl fo_79_2) ?_
    refine wlg_yes rfl (ro_loadB rfl sc_77 (by assumption) rfl) ?_
    refine wlg_yes rfl (ro_lenL rfl se_77) ?_
    refine wlg_yes rfl (ro_cmp rfl rfl rfl) ?_
    refine wl (ro_pick rfl rfl rfl) ?_
    refine wl_nil (x_then (hK3 _ _ ?_))
    clear hK3 K3
    refine wc_cond rfl (fun hc21 => ?_) (fun hc21 => ?_)
    · try simp only [decide_eq_true_eq, decide_eq_false_iff_not, Bool.not_eq_true', Bool.not_eq_false', Bool.not_eq_eq_eq_not, Bool.not_true, Bool.not_false, beq_iff_eq, bne_iff_ne, ne_eq, beq_eq_false_iff_ne, bne_eq_false_iff_eq, gt_iff_lt, ge_iff_le, Int.not_lt, Int.not_le] at hc21
      exfalso; omega
    · try simp only [decide_eq_true_eq, decide_eq_false_iff_not, Bool.not_eq_true', Bool.not_eq_false', Bool.not_eq_eq_eq_not, Bool.not_true, Bool.not_false, beq_iff_eq, bne_iff_ne, ne_eq, beq_eq_false_iff_ne, bne_eq_false_iff_eq, gt_iff_lt, ge_iff_le, Int.not_lt, Int.not_le] at hc21
      refine c_skip (x_then (hK2 _ _ ?_))
      clear hK2 K2
      refine c_seq (fun K4 hK4 => ?_)
      refine c_seq (fun K5 hK5 => ?_)
      refine c_reg ?_ -- region 3 syn.go:65
      refine wl (ro_move rfl) ?_
      refine wl (ro_nilCheck rfl) ?_
      refine wl (ro_fieldAddr (k := 1) rfl fo_79_1) ?_
      refine wl (ro_loadB rfl sc_76 (by assumption) rfl) ?_
      refine wl (ro_lenL rfl se_76) ?_
      refine wl (ro_move rfl) ?_
      refine wl_nil (x_then (hK5 _ _ ?_))
      clear hK5 K5
      refine c_block ?_
      -- loop@r4: live slots [0, 25, 26, 27]
      refine c_loopG (fun n a' w' => ∃ i, n = TL.length - i ∧ i ≤ TL.length ∧ Fram none' w w' ∧ ∃ e, a' = Fr 158 (upds e [(0, ptr sb), (25, .slice va TL.length vc), (26, i64c TL.length), (27, i64c i)]) []) TL.length ⟨0, rfl, Nat.zero_le _, hF, kp _ ⟨rfl, rfl, rfl, rfl, trivial⟩⟩ ?_
      clear hF hX
      rintro n a' u1 ⟨i, rfl, hi, hF, e, rfl⟩
      have hX := hF.blkN hX0
      refine c_seq (fun K6 hK6 => ?_)
      refine c_reg ?_ -- region 4 syn.go:65
      refine wl (ro_cmp rfl rfl rfl) ?_
      refine wl_nil (x_then (hK6 _ _ ?_))
      clear hK6 K6
      refine forget [(0, _), (25, _), (26, _), (27, _), (28, _)] ⟨rfl, rfl, rfl, rfl, rfl, trivial⟩ (fun e => ?_)
      refine c_seq (fun K7 hK7 => ?_)
      refine wc_cond rfl (fun hc28 => ?_) (fun hc28 => ?_)
      · try simp only [decide_eq_true_eq, decide_eq_false_iff_not, Bool.not_eq_true', Bool.not_eq_false', Bool.not_eq_eq_eq_not, Bool.not_true, Bool.not_false, beq_iff_eq, bne_iff_ne, ne_eq, beq_eq_false_iff_ne, bne_eq_false_iff_eq, gt_iff_lt, ge_iff_le, Int.not_lt, Int.not_le] at hc28
        have hlt : i < TL.length := by omega
        obtain ⟨t, ht⟩ : ∃ t, TL[i]? = some t := ⟨_, List.getElem?_eq_getElem hlt⟩
        obtain ⟨tb, cap, l, ev, hTb, k1, k2, k3, k4, k5⟩ := OwT.at tkc_len hV ht
        cases ev
        obtain ⟨g1, g2, g3, g4, g5, g6⟩ := (hTL.resolve_left (fun q => by rw [q] at hlt; exact absurd hlt (by simp))).at ht
        have hp : ∀ u, 0 < i → TL[i - 1]? = some u → u.pl < t.pl := g6
        replace hTb := hF.blkN hTb
        refine c_skip (x_then (hK7 _ _ ?_))
        clear hK7 K7
        refine forget [(0, _), (25, _), (26, _), (27, _)] ⟨rfl, rfl, rfl, rfl, trivial⟩ (fun e => ?_)
        refine c_seq (fun K8 hK8 => ?_)
        refine c_block ?_
        refine c_seq (fun K9 hK9 => ?_)
        refine c_reg ?_ -- region 5 syn.go:65
        refine wl (ro_move rfl) ?_
        refine wl (ro_indexAddr (et := 182) (k := 5) rfl rfl se_76 (rfl) (hlt)) ?_
        refine wl (ro_loadAggB rfl ag_182 (hTb) ((tkc_len t)) ((k5 i t ht))) ?_
        refine wl_new (ze_182) (fun b4 w1 hbb4 h4 F1 => ?_)
        have hbsb4 := Nat.le_trans hF.size hbb4
        have hnesbb4 : sb < b4 := Nat.lt_of_lt_of_le hX.lt hbb4
        have hnetbb4 : tb < b4 := Nat.lt_of_lt_of_le hTb.lt hbb4
        replace hF := hF.thenDrew.thenN F1
        replace hX := F1.blkN hX
        replace hTb := F1.blkN hTb
        refine wl (ro_assign rfl) ?_
        refine wl_puta rfl rfl ((tkc_one t)) sz_182 (rfl) h4 ((by simp)) (rfl) (fun w2 h4 F2 => ?_)
        replace hF := hF.thenDrew.thenO F2 (by first | exact .inr (by omega) | exact .inl rfl | exact .inl (by assumption) | assumption)
        replace hX := F2.blkO hX (by omega)
        replace hTb := F2.blkO hTb (by omega)
        refine wl_nil (x_then (hK9 _ _ ?_))
        clear hK9 K9
        refine forget [(0, _), (3, _), (4, _), (25, _), (26, _), (27, _)] ⟨rfl, rfl, rfl, rfl, rfl, rfl, trivial⟩ (fun e => ?_)
        refine c_seq (fun K10 hK10 => ?_)
        refine c_reg ?_ -- region 6 syn.go:66
        refine wl (ro_fieldAddr (k := 0) rfl fo_182_0) ?_
        refine wl (ro_loadB rfl sc_180 (h4) (rfl)) ?_
        refine wl (ro_cmp (r := decide (t.k = 0)) rfl rfl (congrArg some (decide_eq_decide.2 (by omega)))) ?_
        refine wl_fork rfl (fun hg35 => ?_) (fun hg35 => ?_)
        · try simp only [decide_eq_true_eq, decide_eq_false_iff_not, Bool.not_eq_true', Bool.not_eq_false', Bool.not_eq_eq_eq_not, Bool.not_true, Bool.not_false, beq_iff_eq, bne_iff_ne, ne_eq, beq_eq_false_iff_ne, bne_eq_false_iff_eq, gt_iff_lt, ge_iff_le, Int.not_lt, Int.not_le] at hg35
          refine wlg_no rfl ?_
          refine wlg_no rfl ?_
          refine wlg_no rfl ?_
          refine wl (ro_pick rfl rfl rfl) ?_
          refine wl (ro_assign rfl) ?_
          refine wl_nil (x_then (hK10 _ _ ?_))
          clear hK10 K10
          refine c_seq (fun K11 hK11 => ?_)
          refine c_seq (fun K12 hK12 => ?_)
          refine c_reg ?_ -- region 7 syn.go:67
          refine wl (ro_move rfl) ?_
          refine wl (ro_move rfl) ?_
          refine wl (ro_move rfl) ?_
          refine wl (ro_nilCheck rfl) ?_
          refine wl (ro_fieldAddr (k := 1) rfl fo_79_1) ?_
          refine wl (ro_loadB rfl sc_76 (by assumption) rfl) ?_
          refine wl (ro_lenL rfl se_76) ?_
          refine wl (ro_arith rfl rfl rfl (Go.IntWalk.i64_in _ (by omega))) ?_
          refine wl (ro_cmp rfl rfl rfl) ?_
          refine wl (ro_eqBool (r := false) rfl rfl Tryz.underlying4 (congrArg some (nbeq (by simp; omega)))) ?_
          refine wl (ro_move rfl) ?_
          refine wlg_yes rfl (ro_fieldAddr (k := 0) rfl fo_182_0) ?_
          refine wlg_yes rfl (ro_loadB rfl sc_180 (h4) (rfl)) ?_
          refine wlg_yes rfl (ro_cmp rfl rfl rfl) ?_
          refine wl (ro_pick rfl rfl rfl) ?_
          refine wl_fork rfl (fun hg55 => ?_) (fun hg55 => ?_)
          · try simp only [decide_eq_true_eq, decide_eq_false_iff_not, Bool.not_eq_true', Bool.not_eq_false', Bool.not_eq_eq_eq_not, Bool.not_true, Bool.not_false, beq_iff_eq, bne_iff_ne, ne_eq, beq_eq_false_iff_ne, bne_eq_false_iff_eq, gt_iff_lt, ge_iff_le, Int.not_lt, Int.not_le] at hg55
            exfalso; omega
          · try simp only [decide_eq_true_eq, decide_eq_false_iff_not, Bool.not_eq_true', Bool.not_eq_false', Bool.not_eq_eq_eq_not, Bool.not_true, Bool.not_false, beq_iff_eq, bne_iff_ne, ne_eq, beq_eq_false_iff_ne, bne_eq_false_iff_eq, gt_iff_lt, ge_iff_le, Int.not_lt, Int.not_le] at hg55
            refine wlg_yes rfl (ro_fieldAddr (k := 0) rfl fo_182_0) ?_
            refine wlg_yes rfl (ro_loadB rfl sc_180 (h4) (rfl)) ?_
            refine wlg_yes rfl (ro_cmp rfl rfl rfl) ?_
            refine wl (ro_pick rfl rfl rfl) ?_
            refine wl_nil (x_then (hK12 _ _ ?_))
            clear hK12 K12
            refine wc_cond rfl (fun hc59 => ?_) (fun hc59 => ?_)
            · try simp only [decide_eq_true_eq, decide_eq_false_iff_not, Bool.not_eq_true', Bool.not_eq_false', Bool.not_eq_eq_eq_not, Bool.not_true, Bool.not_false, beq_iff_eq, bne_iff_ne, ne_eq, beq_eq_false_iff_ne, bne_eq_false_iff_eq, gt_iff_lt, ge_iff_le, Int.not_lt, Int.not_le] at hc59
              exfalso; omega
            · try simp only [decide_eq_true_eq, decide_eq_false_iff_not, Bool.not_eq_true', Bool.not_eq_false', Bool.not_eq_eq_eq_not, Bool.not_true, Bool.not_false, beq_iff_eq, bne_iff_ne, ne_eq, beq_eq_false_iff_ne, bne_eq_false_iff_eq, gt_iff_lt, ge_iff_le, Int.not_lt, Int.not_le] at hc59
              refine c_skip (x_then (hK11 _ _ ?_))
              clear hK11 K11
              refine c_seq (fun K13 hK13 => ?_)
              refine c_seq (fun K14 hK14 => ?_)
              refine c_reg ?_ -- region 9 syn.go:70
              refine wl (ro_fieldAddr (k := 1) rfl fo_182_1) ?_
              refine wl (ro_loadB rfl sc_3 (h4) (rfl)) ?_
              refine wl (ro_move rfl) ?_
              refine wl (ro_cmp rfl rfl rfl) ?_
              refine wl_fork rfl (fun hg64 => ?_) (fun hg64 => ?_)
              · try simp only [decide_eq_true_eq, decide_eq_false_iff_not, Bool.not_eq_true', Bool.not_eq_false', Bool.not_eq_eq_eq_not, Bool.not_true, Bool.not_false, beq_iff_eq, bne_iff_ne, ne_eq, beq_eq_false_iff_ne, bne_eq_false_iff_eq, gt_iff_lt, ge_iff_le, Int.not_lt, Int.not_le] at hg64
                exfalso; omega
              · try simp only [decide_eq_true_eq, decide_eq_false_iff_not, Bool.not_eq_true', Bool.not_eq_false', Bool.not_eq_eq_eq_not, Bool.not_true, Bool.not_false, beq_iff_eq, bne_iff_ne, ne_eq, beq_eq_false_iff_ne, bne_eq_false_iff_eq, gt_iff_lt, ge_iff_le, Int.not_lt, Int.not_le] at hg64
                refine wlg_yes rfl (ro_fieldAddr (k := 1) rfl fo_182_1) ?_
                refine wlg_yes rfl (ro_loadB rfl sc_3 (h4) (rfl)) ?_
                refine wlg_yes rfl (ro_cmp rfl rfl rfl) ?_
                refine wl (ro_pick rfl rfl rfl) ?_
                refine wl_fork rfl (fun hg69 => ?_) (fun hg69 => ?_)
                · try simp only [decide_eq_true_eq, decide_eq_false_iff_not, Bool.not_eq_true', Bool.not_eq_false', Bool.not_eq_eq_eq_not, Bool.not_true, Bool.not_false, beq_iff_eq, bne_iff_ne, ne_eq, beq_eq_false_iff_ne, bne_eq_false_iff_eq, gt_iff_lt, ge_iff_le, Int.not_lt, Int.not_le] at hg69
                  exfalso; omega
                · try simp only [decide_eq_true_eq, decide_eq_false_iff_not, Bool.not_eq_true', Bool.not_eq_false', Bool.not_eq_eq_eq_not, Bool.not_true, Bool.not_false, beq_iff_eq, bne_iff_ne, ne_eq, beq_eq_false_iff_ne, bne_eq_false_iff_eq, gt_iff_lt, ge_iff_le, Int.not_lt, Int.not_le] at hg69
                  refine wlg_yes rfl (ro_fieldAddr (k := 4) rfl fo_182_4) ?_
                  refine wlg_yes rfl (ro_loadB rfl sc_54 (h4) (rfl)) ?_
                  refine wlg_yes rfl (ro_cmp rfl rfl rfl) ?_
                  refine wlg_yes rfl (ro_fieldAddr (k := 0) rfl fo_182_0) ?_
                  refine wlg_yes rfl (ro_loadB rfl sc_180 (h4) (rfl)) ?_
                  refine wlg_yes rfl (ro_cmp rfl rfl rfl) ?_
                  refine wlg_yes rfl (ro_eqBool (r := false) rfl rfl Tryz.underlying4 (congrArg some (nbeq (by simp; omega)))) ?_
                  refine wl (ro_pick rfl rfl rfl) ?_
                  refine wl_nil (x_then (hK14 _ _ ?_))
                  clear hK14 K14
                  refine wc_condF rfl ?_
                  refine c_skip (x_then (hK13 _ _ ?_))
                  clear hK13 K13
                  refine forget [(0, _), (3, _), (4, _), (25, _), (26, _), (27, _), (51, _), (52, _), (53, _), (56, _), (57, _), (58, _), (65, _), (66, _), (67, _), (70, _), (71, _), (72, _), (73, _), (74, _), (75, _), (76, _)] ⟨rfl, rfl, rfl, rfl, rfl, rfl, rfl, rfl, rfl, rfl, rfl, rfl, rfl, rfl, rfl, rfl, rfl, rfl, rfl, rfl, rfl, rfl, trivial⟩ (fun e => ?_)
                  refine c_seq (fun K15 hK15 => ?_)
                  rcases Nat.eq_zero_or_pos i with hi0 | hi0
                  · skip
                    refine c_pi [(0, false), (1, false), (2, false), (3, false), (4, false), (5, false), (6, false), (7, false), (8, false), (9, false), (10, false), (11, false), (12, false), (13, false), (14, false), (15, false)] (SameH _) mixed (by kernel_rfl) rfl (by kernel_rfl) (po_then (po_blk (po_then (po_then (po_blk (po_then (po_bp))))))) (sameH_now _ _) ?_ -- region 11 syn.go:73
                    refine pi_ro rfl (fun w hS => ro_move rfl) ?_
                    refine pi_ro rfl (fun w hS => ro_cmp (r := false) rfl rfl (congrArg some (by simp; omega))) ?_
                    refine pi_ro rfl (fun w hS => ro_move rfl) ?_
                    refine pi_gno rfl rfl ?_
                    refine pi_gno rfl rfl ?_
                    refine pi_gno rfl rfl ?_
                    refine pi_gno rfl rfl ?_
                    refine pi_gno rfl rfl ?_
                    refine pi_gno rfl rfl ?_
                    refine pi_gno rfl rfl ?_
                    refine pi_gno rfl rfl ?_
                    refine pi_gno rfl rfl ?_
                    refine pi_gno rfl rfl ?_
                    refine pi_gno rfl rfl ?_
                    refine pi_gno rfl rfl ?_
                    refine pi_ro rfl (fun w hS => ro_pick rfl rfl rfl) ?_
                    refine pi_nil (x_then (hK15 _ _ ?_))
                    clear hK15 K15
                    refine wc_condF rfl ?_
                    refine c_skip (x_blk (x_then (hK8 _ _ ?_)))
                    clear hK8 K8
                    refine c_reg ?_ -- region 13 syn.go:65
                    refine wl (ro_adT (m := i) (k := 1) rfl rfl (by omega)) ?_
                    refine wl (ro_move rfl) ?_
                    refine wl_nil (x_then ?_)
                    exact ⟨TL.length - (i + 1), by omega, i + 1, rfl, by omega, hF.thenDrew, kp _ ⟨rfl, rfl, rfl, rfl, trivial⟩⟩
                  · skip
                    obtain ⟨v, hv⟩ : ∃ v, TL[i - 1]? = some v := ⟨_, List.getElem?_eq_getElem (by omega)⟩
                    have hvp := hp v hi0 hv
                    refine c_pi [(0, false), (1, false), (2, false), (3, false), (4, false), (5, false), (6, false), (7, false), (8, false), (9, false), (10, false), (11, false), (12, false), (13, false), (14, false), (15, false)] (SameH _) mixed (by kernel_rfl) rfl (by kernel_rfl) (po_then (po_blk (po_then (po_then (po_blk (po_then (po_bp))))))) (sameH_now _ _) ?_ -- region 11 syn.go:73
                    refine pi_ro rfl (fun w hS => ro_move rfl) ?_
                    refine pi_ro rfl (fun w hS => ro_cmp (r := true) rfl rfl (congrArg some (by simp; omega))) ?_
                    refine pi_ro rfl (fun w hS => ro_move rfl) ?_
                    refine pi_gyes rfl rfl (fun w hS => ro_fieldAddr (k := 1) rfl fo_182_1) ?_
                    refine pi_gyes rfl rfl (fun w hS => ro_loadB rfl sc_3 (Blk.of_heap h4 hS) (rfl)) ?_
                    refine pi_gyes rfl rfl (fun w hS => ro_move rfl) ?_
                    refine pi_gyes rfl rfl (fun w hS => ro_nilCheck rfl) ?_
                    refine pi_gyes rfl rfl (fun w hS => ro_fieldAddr (k := 1) rfl fo_79_1) ?_
                    refine pi_gyes rfl rfl (fun w hS => ro_loadB rfl sc_76 (Blk.of_heap hX hS) rfl) ?_
                    refine pi_gyes rfl rfl (fun w hS => ro_move rfl) ?_
                    refine pi_gyes rfl rfl (fun w hS => ro_arith (r := ((i - 1 : Nat) : Int)) rfl rfl (congrArg some (by omega)) (Go.IntWalk.i64_in _ (by omega))) ?_
                    refine pi_gyes rfl rfl (fun w hS => ro_indexAddr (et := 182) (k := 5) rfl rfl se_76 (rfl) ((by omega))) ?_
                    refine pi_gyes rfl rfl (fun w hS => ro_fieldAddr (k := 1) rfl fo_182_1) ?_
                    refine pi_gyes rfl rfl (fun w hS => ro_loadB rfl sc_3 (Blk.of_heap hTb hS) ((row_cell3 (j := 1) (k5 (i - 1) v hv) rfl))) ?_
                    refine pi_gyes rfl rfl (fun w hS => ro_cmp (r := false) rfl rfl (congrArg some (by simp; omega))) ?_
                    refine pi_ro rfl (fun w hS => ro_pick rfl rfl rfl) ?_
                    refine pi_nil (x_then (hK15 _ _ ?_))
                    clear hK15 K15
                    refine wc_condF rfl ?_
                    refine c_skip (x_blk (x_then (hK8 _ _ ?_)))
                    clear hK8 K8
                    refine c_reg ?_ -- region 13 syn.go:65
                    refine wl (ro_adT (m := i) (k := 1) rfl rfl (by omega)) ?_
                    refine wl (ro_move rfl) ?_
                    refine wl_nil (x_then ?_)
                    exact ⟨TL.length - (i + 1), by omega, i + 1, rfl, by omega, hF.thenDrew, kp _ ⟨rfl, rfl, rfl, rfl, trivial⟩⟩
        · try simp only [decide_eq_true_eq, decide_eq_false_iff_not, Bool.not_eq_true', Bool.not_eq_false', Bool.not_eq_eq_eq_not, Bool.not_true, Bool.not_false, beq_iff_eq, bne_iff_ne, ne_eq, beq_eq_false_iff_ne, bne_eq_false_iff_eq, gt_iff_lt, ge_iff_le, Int.not_lt, Int.not_le] at hg35
          refine wlg_yes rfl (ro_fieldAddr (k := 0) rfl fo_182_0) ?_
          refine wlg_yes rfl (ro_loadB rfl sc_180 (h4) (rfl)) ?_
          refine wlg_yes rfl (ro_cmp rfl rfl rfl) ?_
          refine wl (ro_pick rfl rfl rfl) ?_
          refine wl (ro_assign rfl) ?_
          refine wl_nil (x_then (hK10 _ _ ?_))
          clear hK10 K10
          refine c_seq (fun K16 hK16 => ?_)
          refine c_seq (fun K17 hK17 => ?_)
          refine c_reg ?_ -- region 7 syn.go:67
          refine wl (ro_move rfl) ?_
          refine wl (ro_move rfl) ?_
          refine wl (ro_move rfl) ?_
          refine wl (ro_nilCheck rfl) ?_
          refine wl (ro_fieldAddr (k := 1) rfl fo_79_1) ?_
          refine wl (ro_loadB rfl sc_76 (by assumption) rfl) ?_
          refine wl (ro_lenL rfl se_76) ?_
          refine wl (ro_arith rfl rfl rfl (Go.IntWalk.i64_in _ (by omega))) ?_
          refine wl (ro_cmp rfl rfl rfl) ?_
          refine wl (ro_eqBool (r := false) rfl rfl Tryz.underlying4 (congrArg some (nbeq (by simp; omega)))) ?_
          refine wl (ro_move rfl) ?_
          refine wlg_yes rfl (ro_fieldAddr (k := 0) rfl fo_182_0) ?_
          refine wlg_yes rfl (ro_loadB rfl sc_180 (h4) (rfl)) ?_
          refine wlg_yes rfl (ro_cmp rfl rfl rfl) ?_
          refine wl (ro_pick rfl rfl rfl) ?_
          refine wl_fork rfl (fun hg55 => ?_) (fun hg55 => ?_)
          · try simp only [decide_eq_true_eq, decide_eq_false_iff_not, Bool.not_eq_true', Bool.not_eq_false', Bool.not_eq_eq_eq_not, Bool.not_true, Bool.not_false, beq_iff_eq, bne_iff_ne, ne_eq, beq_eq_false_iff_ne, bne_eq_false_iff_eq, gt_iff_lt, ge_iff_le, Int.not_lt, Int.not_le] at hg55
            exfalso; omega
          · try simp only [decide_eq_true_eq, decide_eq_false_iff_not, Bool.not_eq_true', Bool.not_eq_false', Bool.not_eq_eq_eq_not, Bool.not_true, Bool.not_false, beq_iff_eq, bne_iff_ne, ne_eq, beq_eq_false_iff_ne, bne_eq_false_iff_eq, gt_iff_lt, ge_iff_le, Int.not_lt, Int.not_le] at hg55
            refine wlg_yes rfl (ro_fieldAddr (k := 0) rfl fo_182_0) ?_
            refine wlg_yes rfl (ro_loadB rfl sc_180 (h4) (rfl)) ?_
            refine wlg_yes rfl (ro_cmp rfl rfl rfl) ?_
            refine wl (ro_pick rfl rfl rfl) ?_
            refine wl_nil (x_then (hK17 _ _ ?_))
            clear hK17 K17
            refine wc_cond rfl (fun hc59 => ?_) (fun hc59 => ?_)
            · try simp only [decide_eq_true_eq, decide_eq_false_iff_not, Bool.not_eq_true', Bool.not_eq_false', Bool.not_eq_eq_eq_not, Bool.not_true, Bool.not_false, beq_iff_eq, bne_iff_ne, ne_eq, beq_eq_false_iff_ne, bne_eq_false_iff_eq, gt_iff_lt, ge_iff_le, Int.not_lt, Int.not_le] at hc59
              exfalso; omega
            · try simp only [decide_eq_true_eq, decide_eq_false_iff_not, Bool.not_eq_true', Bool.not_eq_false', Bool.not_eq_eq_eq_not, Bool.not_true, Bool.not_false, beq_iff_eq, bne_iff_ne, ne_eq, beq_eq_false_iff_ne, bne_eq_false_iff_eq, gt_iff_lt, ge_iff_le, Int.not_lt, Int.not_le] at hc59
              refine c_skip (x_then (hK16 _ _ ?_))
              clear hK16 K16
              refine c_seq (fun K18 hK18 => ?_)
              refine c_seq (fun K19 hK19 => ?_)
              refine c_reg ?_ -- region 9 syn.go:70
              refine wl (ro_fieldAddr (k := 1) rfl fo_182_1) ?_
              refine wl (ro_loadB rfl sc_3 (h4) (rfl)) ?_
              refine wl (ro_move rfl) ?_
              refine wl (ro_cmp rfl rfl rfl) ?_
              refine wl_fork rfl (fun hg64 => ?_) (fun hg64 => ?_)
              · try simp only [decide_eq_true_eq, decide_eq_false_iff_not, Bool.not_eq_true', Bool.not_eq_false', Bool.not_eq_eq_eq_not, Bool.not_true, Bool.not_false, beq_iff_eq, bne_iff_ne, ne_eq, beq_eq_false_iff_ne, bne_eq_false_iff_eq, gt_iff_lt, ge_iff_le, Int.not_lt, Int.not_le] at hg64
                exfalso; omega
              · try simp only [decide_eq_true_eq, decide_eq_false_iff_not, Bool.not_eq_true', Bool.not_eq_false', Bool.not_eq_eq_eq_not, Bool.not_true, Bool.not_false, beq_iff_eq, bne_iff_ne, ne_eq, beq_eq_false_iff_ne, bne_eq_false_iff_eq, gt_iff_lt, ge_iff_le, Int.not_lt, Int.not_le] at hg64
                refine wlg_yes rfl (ro_fieldAddr (k := 1) rfl fo_182_1) ?_
                refine wlg_yes rfl (ro_loadB rfl sc_3 (h4) (rfl)) ?_
                refine wlg_yes rfl (ro_cmp rfl rfl rfl) ?_
                refine wl (ro_pick rfl rfl rfl) ?_
                refine wl_fork rfl (fun hg69 => ?_) (fun hg69 => ?_)
                · try simp only [decide_eq_true_eq, decide_eq_false_iff_not, Bool.not_eq_true', Bool.not_eq_false', Bool.not_eq_eq_eq_not, Bool.not_true, Bool.not_false, beq_iff_eq, bne_iff_ne, ne_eq, beq_eq_false_iff_ne, bne_eq_false_iff_eq, gt_iff_lt, ge_iff_le, Int.not_lt, Int.not_le] at hg69
                  exfalso; omega
                · try simp only [decide_eq_true_eq, decide_eq_false_iff_not, Bool.not_eq_true', Bool.not_eq_false', Bool.not_eq_eq_eq_not, Bool.not_true, Bool.not_false, beq_iff_eq, bne_iff_ne, ne_eq, beq_eq_false_iff_ne, bne_eq_false_iff_eq, gt_iff_lt, ge_iff_le, Int.not_lt, Int.not_le] at hg69
                  refine wlg_yes rfl (ro_fieldAddr (k := 4) rfl fo_182_4) ?_
                  refine wlg_yes rfl (ro_loadB rfl sc_54 (h4) (rfl)) ?_
                  refine wlg_yes rfl (ro_cmp rfl rfl rfl) ?_
                  refine wlg_yes rfl (ro_fieldAddr (k := 0) rfl fo_182_0) ?_
                  refine wlg_yes rfl (ro_loadB rfl sc_180 (h4) (rfl)) ?_
                  refine wlg_yes rfl (ro_cmp rfl rfl rfl) ?_
                  refine wlg_yes rfl (ro_eqBool (r := false) rfl rfl Tryz.underlying4 (congrArg some (nbeq (by simp; omega)))) ?_
                  refine wl (ro_pick rfl rfl rfl) ?_
                  refine wl_nil (x_then (hK19 _ _ ?_))
                  clear hK19 K19
                  refine wc_condF rfl ?_
                  refine c_skip (x_then (hK18 _ _ ?_))
                  clear hK18 K18
                  refine forget [(0, _), (3, _), (4, _), (25, _), (26, _), (27, _), (36, _), (37, _), (38, _), (51, _), (52, _), (53, _), (56, _), (57, _), (58, _), (65, _), (66, _), (67, _), (70, _), (71, _), (72, _), (73, _), (74, _), (75, _), (76, _)] ⟨rfl, rfl, rfl, rfl, rfl, rfl, rfl, rfl, rfl, rfl, rfl, rfl, rfl, rfl, rfl, rfl, rfl, rfl, rfl, rfl, rfl, rfl, rfl, rfl, rfl, trivial⟩ (fun e => ?_)
                  refine c_seq (fun K20 hK20 => ?_)
                  rcases Nat.eq_zero_or_pos i with hi0 | hi0
                  · skip
                    refine c_pi [(0, false), (1, false), (2, false), (3, false), (4, false), (5, false), (6, false), (7, false), (8, false), (9, false), (10, false), (11, false), (12, false), (13, false), (14, false), (15, false)] (SameH _) mixed (by kernel_rfl) rfl (by kernel_rfl) (po_then (po_blk (po_then (po_then (po_blk (po_then (po_bp))))))) (sameH_now _ _) ?_ -- region 11 syn.go:73
                    refine pi_ro rfl (fun w hS => ro_move rfl) ?_
                    refine pi_ro rfl (fun w hS => ro_cmp (r := false) rfl rfl (congrArg some (by simp; omega))) ?_
                    refine pi_ro rfl (fun w hS => ro_move rfl) ?_
                    refine pi_gno rfl rfl ?_
                    refine pi_gno rfl rfl ?_
                    refine pi_gno rfl rfl ?_
                    refine pi_gno rfl rfl ?_
                    refine pi_gno rfl rfl ?_
                    refine pi_gno rfl rfl ?_
                    refine pi_gno rfl rfl ?_
                    refine pi_gno rfl rfl ?_
                    refine pi_gno rfl rfl ?_
                    refine pi_gno rfl rfl ?_
                    refine pi_gno rfl rfl ?_
                    refine pi_gno rfl rfl ?_
                    refine pi_ro rfl (fun w hS => ro_pick rfl rfl rfl) ?_
                    refine pi_nil (x_then (hK20 _ _ ?_))
                    clear hK20 K20
                    refine wc_condF rfl ?_
                    refine c_skip (x_blk (x_then (hK8 _ _ ?_)))
                    clear hK8 K8
                    refine c_reg ?_ -- region 13 syn.go:65
                    refine wl (ro_adT (m := i) (k := 1) rfl rfl (by omega)) ?_
                    refine wl (ro_move rfl) ?_
                    refine wl_nil (x_then ?_)
                    exact ⟨TL.length - (i + 1), by omega, i + 1, rfl, by omega, hF.thenDrew, kp _ ⟨rfl, rfl, rfl, rfl, trivial⟩⟩
                  · skip
                    obtain ⟨v, hv⟩ : ∃ v, TL[i - 1]? = some v := ⟨_, List.getElem?_eq_getElem (by omega)⟩
                    have hvp := hp v hi0 hv
                    refine c_pi [(0, false), (1, false), (2, false), (3, false), (4, false), (5, false), (6, false), (7, false), (8, false), (9, false), (10, false), (11, false), (12, false), (13, false), (14, false), (15, false)] (SameH _) mixed (by kernel_rfl) rfl (by kernel_rfl) (po_then (po_blk (po_then (po_then (po_blk (po_then (po_bp))))))) (sameH_now _ _) ?_ -- region 11 syn.go:73
                    refine pi_ro rfl (fun w hS => ro_move rfl) ?_
                    refine pi_ro rfl (fun w hS => ro_cmp (r := true) rfl rfl (congrArg some (by simp; omega))) ?_
                    refine pi_ro rfl (fun w hS => ro_move rfl) ?_
                    refine pi_gyes rfl rfl (fun w hS => ro_fieldAddr (k := 1) rfl fo_182_1) ?_
                    refine pi_gyes rfl rfl (fun w hS => ro_loadB rfl sc_3 (Blk.of_heap h4 hS) (rfl)) ?_
                    refine pi_gyes rfl rfl (fun w hS => ro_move rfl) ?_
                    refine pi_gyes rfl rfl (fun w hS => ro_nilCheck rfl) ?_
                    refine pi_gyes rfl rfl (fun w hS => ro_fieldAddr (k := 1) rfl fo_79_1) ?_
                    refine pi_gyes rfl rfl (fun w hS => ro_loadB rfl sc_76 (Blk.of_heap hX hS) rfl) ?_
                    refine pi_gyes rfl rfl (fun w hS => ro_move rfl) ?_
                    refine pi_gyes rfl rfl (fun w hS => ro_arith (r := ((i - 1 : Nat) : Int)) rfl rfl (congrArg some (by omega)) (Go.IntWalk.i64_in _ (by omega))) ?_
                    refine pi_gyes rfl rfl (fun w hS => ro_indexAddr (et := 182) (k := 5) rfl rfl se_76 (rfl) ((by omega))) ?_
                    refine pi_gyes rfl rfl (fun w hS => ro_fieldAddr (k := 1) rfl fo_182_1) ?_
                    refine pi_gyes rfl rfl (fun w hS => ro_loadB rfl sc_3 (Blk.of_heap hTb hS) ((row_cell3 (j := 1) (k5 (i - 1) v hv) rfl))) ?_
                    refine pi_gyes rfl rfl (fun w hS => ro_cmp (r := false) rfl rfl (congrArg some (by simp; omega))) ?_
                    refine pi_ro rfl (fun w hS => ro_pick rfl rfl rfl) ?_
                    refine pi_nil (x_then (hK20 _ _ ?_))
                    clear hK20 K20
                    refine wc_condF rfl ?_
                    refine c_skip (x_blk (x_then (hK8 _ _ ?_)))
                    clear hK8 K8
                    refine c_reg ?_ -- region 13 syn.go:65
                    refine wl (ro_adT (m := i) (k := 1) rfl rfl (by omega)) ?_
                    refine wl (ro_move rfl) ?_
                    refine wl_nil (x_then ?_)
                    exact ⟨TL.length - (i + 1), by omega, i + 1, rfl, by omega, hF.thenDrew, kp _ ⟨rfl, rfl, rfl, rfl, trivial⟩⟩
      · try simp only [decide_eq_true_eq, decide_eq_false_iff_not, Bool.not_eq_true', Bool.not_eq_false', Bool.not_eq_eq_eq_not, Bool.not_true, Bool.not_false, beq_iff_eq, bne_iff_ne, ne_eq, beq_eq_false_iff_ne, bne_eq_false_iff_eq, gt_iff_lt, ge_iff_le, Int.not_lt, Int.not_le] at hc28
        refine c_exit (x_thenX (x_thenX (x_blkX (x_then (hK4 _ _ ?_)))))
        clear hK7 K7 hK4 K4
        refine c_seq (fun K21 hK21 => ?_)
        refine c_seq (fun K22 hK22 => ?_)
        refine c_reg ?_ -- region 14 syn.go:77
        refine wl (ro_move rfl) ?_
        refine wl (ro_nilCheck rfl) ?_
        refine wl (ro_fieldAddr (k := 2) rfl fo_79_2) ?_
        refine wl (ro_loadB rfl sc_77 (by assumption) rfl) ?_
        refine wl (ro_lenL rfl se_77) ?_
        refine wl (ro_move rfl) ?_
        refine wl_nil (x_then (hK22 _ _ ?_))
        clear hK22 K22
        refine c_block ?_
        -- loop@r15: live slots [0, 98, 99, 100]
        refine c_loopG (fun n a' w' => ∃ i, n = G.length - i ∧ i ≤ G.length ∧ Fram none' w w' ∧ ∃ e, a' = Fr 158 (upds e [(0, ptr sb), (98, .slice na G.length nc), (99, i64c G.length), (100, i64c i)]) []) G.length ⟨0, rfl, Nat.zero_le _, hF, kp _ ⟨rfl, rfl, rfl, rfl, trivial⟩⟩ ?_
        clear hF hX
        rintro n a' u1 ⟨i, rfl, hi, hF, e, rfl⟩
        have hX := hF.blkN hX0
        refine c_seq (fun K23 hK23 => ?_)
        refine c_reg ?_ -- region 15 syn.go:77
        refine wl (ro_cmp rfl rfl rfl) ?_
        refine wl_nil (x_then (hK23 _ _ ?_))
        clear hK23 K23
        refine forget [(0, _), (98, _), (99, _), (100, _), (101, _)] ⟨rfl, rfl, rfl, rfl, rfl, trivial⟩ (fun e => ?_)
        refine c_seq (fun K24 hK24 => ?_)
        refine wc_cond rfl (fun hc101 => ?_) (fun hc101 => ?_)
        · try simp only [decide_eq_true_eq, decide_eq_false_iff_not, Bool.not_eq_true', Bool.not_eq_false', Bool.not_eq_eq_eq_not, Bool.not_true, Bool.not_false, beq_iff_eq, bne_iff_ne, ne_eq, beq_eq_false_iff_ne, bne_eq_false_iff_eq, gt_iff_lt, ge_iff_le, Int.not_lt, Int.not_le] at hc101
          have hlt : i < G.length := by omega
          obtain ⟨y, hy⟩ : ∃ y, G[i]? = some y := ⟨_, List.getElem?_eq_getElem hlt⟩
          obtain ⟨gb, cap, l, ev, hGb, k1, k2, k3, k4, k5⟩ := OwT.at ndc_len hN hy
          cases ev
          obtain ⟨q1, ⟨qa, qb, qc⟩, q3⟩ := hND i y hy
          replace hGb := hF.blkN hGb
          have hk5 := k5 i y hy
          refine c_skip (x_then (hK24 _ _ ?_))
          clear hK24 K24
          refine forget [(0, _), (98, _), (99, _), (100, _)] ⟨rfl, rfl, rfl, rfl, trivial⟩ (fun e => ?_)
          refine c_seq (fun K25 hK25 => ?_)
          refine c_block ?_
          refine c_seq (fun K26 hK26 => ?_)
          refine c_reg ?_ -- region 16 syn.go:77
          refine wl (ro_move rfl) ?_
          refine wl (ro_indexAddr (et := 148) (k := 8) rfl rfl se_77 (rfl) (hlt)) ?_
          refine wl (ro_loadAggB rfl ag_148 (hGb) ((ndc_len y)) (hk5)) ?_
          refine wl_new (ze_148) (fun b7 w3 hbb7 h7 F3 => ?_)
          have hbsb7 := Nat.le_trans hF.size hbb7
          have hnesbb7 : sb < b7 := Nat.lt_of_lt_of_le hX.lt hbb7
          have hnegbb7 : gb < b7 := Nat.lt_of_lt_of_le hGb.lt hbb7
          replace hF := hF.thenDrew.thenN F3
          replace hX := F3.blkN hX
          replace hGb := F3.blkN hGb
          refine wl (ro_assign rfl) ?_
          refine wl_puta rfl rfl ((ndc_one y)) sz_148 (rfl) h7 ((by simp)) (rfl) (fun w4 h7 F4 => ?_)
          replace hF := hF.thenDrew.thenO F4 (by first | exact .inr (by omega) | exact .inl rfl | exact .inl (by assumption) | assumption)
          replace hX := F4.blkO hX (by omega)
          replace hGb := F4.blkO hGb (by omega)
          refine wl_nil (x_then (hK26 _ _ ?_))
          clear hK26 K26
          refine c_seq (fun K27 hK27 => ?_)
          refine c_seq (fun K28 hK28 => ?_)
          rcases Nat.eq_zero_or_pos i with hi0 | hi0
          · skip
            have hy0 := q1 hi0
            refine c_reg ?_ -- region 17 syn.go:78
            refine wl (ro_move rfl) ?_
            refine wl (ro_cmp (r := true) rfl rfl (congrArg some (by simp; omega))) ?_
            refine wl (ro_move rfl) ?_
            refine wlg_yes rfl (ro_loadAggB rfl ag_148 (h7) (rfl) ((show _ = ndc (Nd.zero, 0) by rw [hy0]; rfl))) ?_
            refine wlg_yes rfl (ro_build rfl bld_148) ?_
            refine wlg_yes rfl (ro_neNd0 rfl rfl) ?_
            refine wl (ro_pick rfl rfl rfl) ?_
            refine wl_nil (x_then (hK28 _ _ ?_))
            clear hK28 K28
            refine wc_condF rfl ?_
            refine c_skip (x_then (hK27 _ _ ?_))
            clear hK27 K27
            refine c_seq (fun K29 hK29 => ?_)
            refine c_seq (fun K30 hK30 => ?_)
            refine c_reg ?_ -- region 19 syn.go:81
            refine wl (ro_fieldAddr (k := 1) rfl fo_148_1) ?_
            refine wl (ro_loadB rfl sc_3 (h7) (rfl)) ?_
            refine wl (ro_cmp rfl rfl rfl) ?_
            refine wl_fork rfl (fun hg115 => ?_) (fun hg115 => ?_)
            · try simp only [decide_eq_true_eq, decide_eq_false_iff_not, Bool.not_eq_true', Bool.not_eq_false', Bool.not_eq_eq_eq_not, Bool.not_true, Bool.not_false, beq_iff_eq, bne_iff_ne, ne_eq, beq_eq_false_iff_ne, bne_eq_false_iff_eq, gt_iff_lt, ge_iff_le, Int.not_lt, Int.not_le] at hg115
              exfalso; omega
            · try simp only [decide_eq_true_eq, decide_eq_false_iff_not, Bool.not_eq_true', Bool.not_eq_false', Bool.not_eq_eq_eq_not, Bool.not_true, Bool.not_false, beq_iff_eq, bne_iff_ne, ne_eq, beq_eq_false_iff_ne, bne_eq_false_iff_eq, gt_iff_lt, ge_iff_le, Int.not_lt, Int.not_le] at hg115
              refine wlg_yes rfl (ro_fieldAddr (k := 2) rfl fo_148_2) ?_
              refine wlg_yes rfl (ro_loadB rfl sc_3 (h7) (rfl)) ?_
              refine wlg_yes rfl (ro_cmp rfl rfl rfl) ?_
              refine wl (ro_pick rfl rfl rfl) ?_
              refine wl_fork rfl (fun hg120 => ?_) (fun hg120 => ?_)
              · try simp only [decide_eq_true_eq, decide_eq_false_iff_not, Bool.not_eq_true', Bool.not_eq_false', Bool.not_eq_eq_eq_not, Bool.not_true, Bool.not_false, beq_iff_eq, bne_iff_ne, ne_eq, beq_eq_false_iff_ne, bne_eq_false_iff_eq, gt_iff_lt, ge_iff_le, Int.not_lt, Int.not_le] at hg120
                exfalso; omega
              · try simp only [decide_eq_true_eq, decide_eq_false_iff_not, Bool.not_eq_true', Bool.not_eq_false', Bool.not_eq_eq_eq_not, Bool.not_true, Bool.not_false, beq_iff_eq, bne_iff_ne, ne_eq, beq_eq_false_iff_ne, bne_eq_false_iff_eq, gt_iff_lt, ge_iff_le, Int.not_lt, Int.not_le] at hg120
                refine wlg_yes rfl (ro_fieldAddr (k := 3) rfl fo_148_3) ?_
                refine wlg_yes rfl (ro_loadB rfl sc_3 (h7) (rfl)) ?_
                refine wlg_yes rfl (ro_cmp rfl rfl rfl) ?_
                refine wl (ro_pick rfl rfl rfl) ?_
                refine wl_fork rfl (fun hg125 => ?_) (fun hg125 => ?_)
                · try simp only [decide_eq_true_eq, decide_eq_false_iff_not, Bool.not_eq_true', Bool.not_eq_false', Bool.not_eq_eq_eq_not, Bool.not_true, Bool.not_false, beq_iff_eq, bne_iff_ne, ne_eq, beq_eq_false_iff_ne, bne_eq_false_iff_eq, gt_iff_lt, ge_iff_le, Int.not_lt, Int.not_le] at hg125
                  exfalso; omega
                · try simp only [decide_eq_true_eq, decide_eq_false_iff_not, Bool.not_eq_true', Bool.not_eq_false', Bool.not_eq_eq_eq_not, Bool.not_true, Bool.not_false, beq_iff_eq, bne_iff_ne, ne_eq, beq_eq_false_iff_ne, bne_eq_false_iff_eq, gt_iff_lt, ge_iff_le, Int.not_lt, Int.not_le] at hg125
                  refine wlg_yes rfl (ro_fieldAddr (k := 1) rfl fo_148_1) ?_
                  refine wlg_yes rfl (ro_loadB rfl sc_3 (h7) (rfl)) ?_
                  refine wlg_yes rfl (ro_fieldAddr (k := 2) rfl fo_148_2) ?_
                  refine wlg_yes rfl (ro_loadB rfl sc_3 (h7) (rfl)) ?_
                  refine wlg_yes rfl (ro_fieldAddr (k := 3) rfl fo_148_3) ?_
                  refine wlg_yes rfl (ro_loadB rfl sc_3 (h7) (rfl)) ?_
                  refine wlg_yes rfl (ro_max4 rfl rfl rfl rfl) ?_
                  refine wlg_yes rfl (ro_move rfl) ?_
                  refine wlg_yes rfl (ro_arith rfl rfl rfl (Go.IntWalk.i64_in _ (by omega))) ?_
                  refine wlg_yes rfl (ro_max rfl rfl) ?_
                  refine wlg_yes rfl (ro_cmp (r := false) rfl rfl (congrArg some (decide_eq_false (by split <;> omega)))) ?_
                  refine wl (ro_pick rfl rfl rfl) ?_
                  refine wl_nil (x_then (hK30 _ _ ?_))
                  clear hK30 K30
                  refine wc_condF rfl ?_
                  refine c_skip (x_then (hK29 _ _ ?_))
                  clear hK29 K29
                  refine forget [(0, _), (6, _), (7, _), (98, _), (99, _), (100, _), (108, _), (109, _), (110, _), (116, _), (117, _), (118, _), (121, _), (122, _), (123, _), (126, _), (127, _), (128, _), (129, _), (130, _), (131, _), (132, _), (133, _), (134, _), (135, _), (136, _)] ⟨rfl, rfl, rfl, rfl, rfl, rfl, rfl, rfl, rfl, rfl, rfl, rfl, rfl, rfl, rfl, rfl, rfl, rfl, rfl, rfl, rfl, rfl, rfl, rfl, rfl, rfl, trivial⟩ (fun e => ?_)
                  refine c_seq (fun K31 hK31 => ?_)
                  by_cases hn0 : y.1.Nx = 0
                  · skip
                    refine c_pi [(0, false), (1, false), (2, false), (3, false), (4, false), (5, false), (6, false), (7, false), (8, false), (9, false), (10, false), (11, false), (12, false), (13, false), (14, false), (15, false), (16, false), (17, false), (18, false)] (SameH _) mixed (by kernel_rfl) rfl (by kernel_rfl) (po_then (po_blk (po_then (po_then (po_blk (po_then (po_bp))))))) (sameH_now _ _) ?_ -- region 21 syn.go:84
                    refine pi_ro rfl (fun w hS => ro_fieldAddr (k := 4) rfl fo_148_4) ?_
                    refine pi_ro rfl (fun w hS => ro_loadB rfl sc_3 (Blk.of_heap h7 hS) (rfl)) ?_
                    refine pi_ro rfl (fun w hS => ro_cmp (r := false) rfl rfl (congrArg some (by simp; omega))) ?_
                    refine pi_ro rfl (fun w hS => ro_move rfl) ?_
                    refine pi_gno rfl rfl ?_
                    refine pi_gno rfl rfl ?_
                    refine pi_gno rfl rfl ?_
                    refine pi_gno rfl rfl ?_
                    refine pi_gno rfl rfl ?_
                    refine pi_gno rfl rfl ?_
                    refine pi_gno rfl rfl ?_
                    refine pi_gno rfl rfl ?_
                    refine pi_gno rfl rfl ?_
                    refine pi_gno rfl rfl ?_
                    refine pi_gno rfl rfl ?_
                    refine pi_gno rfl rfl ?_
                    refine pi_gno rfl rfl ?_
                    refine pi_gno rfl rfl ?_
                    refine pi_ro rfl (fun w hS => ro_pick rfl rfl rfl) ?_
                    refine pi_nil (x_then (hK31 _ _ ?_))
                    clear hK31 K31
                    refine wc_condF rfl ?_
                    refine c_skip (x_blk (x_then (hK25 _ _ ?_)))
                    clear hK25 K25
                    refine c_reg ?_ -- region 23 syn.go:77
                    refine wl (ro_adT (m := i) (k := 1) rfl rfl (by omega)) ?_
                    refine wl (ro_move rfl) ?_
                    refine wl_nil (x_then ?_)
                    exact ⟨G.length - (i + 1), by omega, i + 1, rfl, by omega, hF.thenDrew, kp _ ⟨rfl, rfl, rfl, rfl, trivial⟩⟩
                  · skip
                    refine c_pi [(0, false), (1, false), (2, false), (3, false), (4, false), (5, false), (6, false), (7, false), (8, false), (9, false), (10, false), (11, false), (12, false), (13, false), (14, false), (15, false), (16, false), (17, false), (18, false)] (SameH _) mixed (by kernel_rfl) rfl (by kernel_rfl) (po_then (po_blk (po_then (po_then (po_blk (po_then (po_bp))))))) (sameH_now _ _) ?_ -- region 21 syn.go:84
                    refine pi_ro rfl (fun w hS => ro_fieldAddr (k := 4) rfl fo_148_4) ?_
                    refine pi_ro rfl (fun w hS => ro_loadB rfl sc_3 (Blk.of_heap h7 hS) (rfl)) ?_
                    refine pi_ro rfl (fun w hS => ro_cmp (r := true) rfl rfl (congrArg some (by simp; omega))) ?_
                    refine pi_ro rfl (fun w hS => ro_move rfl) ?_
                    refine pi_gyes rfl rfl (fun w hS => ro_fieldAddr (k := 4) rfl fo_148_4) ?_
                    refine pi_gyes rfl rfl (fun w hS => ro_loadB rfl sc_3 (Blk.of_heap h7 hS) (rfl)) ?_
                    refine pi_gyes rfl rfl (fun w hS => ro_move rfl) ?_
                    refine pi_gyes rfl rfl (fun w hS => ro_cmp (r := false) rfl rfl (congrArg some (by simp; omega))) ?_
                    refine pi_gyes rfl rfl (fun w hS => ro_move rfl) ?_
                    refine pi_gyes rfl rfl (fun w hS => ro_fieldAddr (k := 4) rfl fo_148_4) ?_
                    refine pi_gyes rfl rfl (fun w hS => ro_loadB rfl sc_3 (Blk.of_heap h7 hS) (rfl)) ?_
                    refine pi_gyes rfl rfl (fun w hS => ro_move rfl) ?_
                    refine pi_gyes rfl rfl (fun w hS => ro_nilCheck rfl) ?_
                    refine pi_gyes rfl rfl (fun w hS => ro_fieldAddr (k := 2) rfl fo_79_2) ?_
                    refine pi_gyes rfl rfl (fun w hS => ro_loadB rfl sc_77 (Blk.of_heap hX hS) rfl) ?_
                    refine pi_gyes rfl rfl (fun w hS => ro_lenL rfl se_77) ?_
                    refine pi_gyes rfl rfl (fun w hS => ro_cmp (r := false) rfl rfl (congrArg some (by simp; omega))) ?_
                    refine pi_gyes rfl rfl (fun w hS => ro_pick rfl rfl rfl) ?_
                    refine pi_ro rfl (fun w hS => ro_pick rfl rfl rfl) ?_
                    refine pi_nil (x_then (hK31 _ _ ?_))
                    clear hK31 K31
                    refine wc_condF rfl ?_
                    refine c_skip (x_blk (x_then (hK25 _ _ ?_)))
                    clear hK25 K25
                    refine c_reg ?_ -- region 23 syn.go:77
                    refine wl (ro_adT (m := i) (k := 1) rfl rfl (by omega)) ?_
                    refine wl (ro_move rfl) ?_
                    refine wl_nil (x_then ?_)
                    exact ⟨G.length - (i + 1), by omega, i + 1, rfl, by omega, hF.thenDrew, kp _ ⟨rfl, rfl, rfl, rfl, trivial⟩⟩
          · skip
            refine c_reg ?_ -- region 17 syn.go:78
            refine wl (ro_move rfl) ?_
            refine wl (ro_cmp (r := false) rfl rfl (congrArg some (by simp; omega))) ?_
            refine wl (ro_move rfl) ?_
            refine wlg_no rfl ?_
            refine wlg_no rfl ?_
            refine wlg_no rfl ?_
            refine wl (ro_pick rfl rfl rfl) ?_
            refine wl_nil (x_then (hK28 _ _ ?_))
            clear hK28 K28
            refine wc_condF rfl ?_
            refine c_skip (x_then (hK27 _ _ ?_))
            clear hK27 K27
            refine c_seq (fun K32 hK32 => ?_)
            refine c_seq (fun K33 hK33 => ?_)
            refine c_reg ?_ -- region 19 syn.go:81
            refine wl (ro_fieldAddr (k := 1) rfl fo_148_1) ?_
            refine wl (ro_loadB rfl sc_3 (h7) (rfl)) ?_
            refine wl (ro_cmp rfl rfl rfl) ?_
            refine wl_fork rfl (fun hg115 => ?_) (fun hg115 => ?_)
            · try simp only [decide_eq_true_eq, decide_eq_false_iff_not, Bool.not_eq_true', Bool.not_eq_false', Bool.not_eq_eq_eq_not, Bool.not_true, Bool.not_false, beq_iff_eq, bne_iff_ne, ne_eq, beq_eq_false_iff_ne, bne_eq_false_iff_eq, gt_iff_lt, ge_iff_le, Int.not_lt, Int.not_le] at hg115
              exfalso; omega
            · try simp only [decide_eq_true_eq, decide_eq_false_iff_not, Bool.not_eq_true', Bool.not_eq_false', Bool.not_eq_eq_eq_not, Bool.not_true, Bool.not_false, beq_iff_eq, bne_iff_ne, ne_eq, beq_eq_false_iff_ne, bne_eq_false_iff_eq, gt_iff_lt, ge_iff_le, Int.not_lt, Int.not_le] at hg115
              refine wlg_yes rfl (ro_fieldAddr (k := 2) rfl fo_148_2) ?_
              refine wlg_yes rfl (ro_loadB rfl sc_3 (h7) (rfl)) ?_
              refine wlg_yes rfl (ro_cmp rfl rfl rfl) ?_
              refine wl (ro_pick rfl rfl rfl) ?_
              refine wl_fork rfl (fun hg120 => ?_) (fun hg120 => ?_)
              · try simp only [decide_eq_true_eq, decide_eq_false_iff_not, Bool.not_eq_true', Bool.not_eq_false', Bool.not_eq_eq_eq_not, Bool.not_true, Bool.not_false, beq_iff_eq, bne_iff_ne, ne_eq, beq_eq_false_iff_ne, bne_eq_false_iff_eq, gt_iff_lt, ge_iff_le, Int.not_lt, Int.not_le] at hg120
                exfalso; omega
              · try simp only [decide_eq_true_eq, decide_eq_false_iff_not, Bool.not_eq_true', Bool.not_eq_false', Bool.not_eq_eq_eq_not, Bool.not_true, Bool.not_false, beq_iff_eq, bne_iff_ne, ne_eq, beq_eq_false_iff_ne, bne_eq_false_iff_eq, gt_iff_lt, ge_iff_le, Int.not_lt, Int.not_le] at hg120
                refine wlg_yes rfl (ro_fieldAddr (k := 3) rfl fo_148_3) ?_
                refine wlg_yes rfl (ro_loadB rfl sc_3 (h7) (rfl)) ?_
                refine wlg_yes rfl (ro_cmp rfl rfl rfl) ?_
                refine wl (ro_pick rfl rfl rfl) ?_
                refine wl_fork rfl (fun hg125 => ?_) (fun hg125 => ?_)
                · try simp only [decide_eq_true_eq, decide_eq_false_iff_not, Bool.not_eq_true', Bool.not_eq_false', Bool.not_eq_eq_eq_not, Bool.not_true, Bool.not_false, beq_iff_eq, bne_iff_ne, ne_eq, beq_eq_false_iff_ne, bne_eq_false_iff_eq, gt_iff_lt, ge_iff_le, Int.not_lt, Int.not_le] at hg125
                  exfalso; omega
                · try simp only [decide_eq_true_eq, decide_eq_false_iff_not, Bool.not_eq_true', Bool.not_eq_false', Bool.not_eq_eq_eq_not, Bool.not_true, Bool.not_false, beq_iff_eq, bne_iff_ne, ne_eq, beq_eq_false_iff_ne, bne_eq_false_iff_eq, gt_iff_lt, ge_iff_le, Int.not_lt, Int.not_le] at hg125
                  refine wlg_yes rfl (ro_fieldAddr (k := 1) rfl fo_148_1) ?_
                  refine wlg_yes rfl (ro_loadB rfl sc_3 (h7) (rfl)) ?_
                  refine wlg_yes rfl (ro_fieldAddr (k := 2) rfl fo_148_2) ?_
                  refine wlg_yes rfl (ro_loadB rfl sc_3 (h7) (rfl)) ?_
                  refine wlg_yes rfl (ro_fieldAddr (k := 3) rfl fo_148_3) ?_
                  refine wlg_yes rfl (ro_loadB rfl sc_3 (h7) (rfl)) ?_
                  refine wlg_yes rfl (ro_max4 rfl rfl rfl rfl) ?_
                  refine wlg_yes rfl (ro_move rfl) ?_
                  refine wlg_yes rfl (ro_arith rfl rfl rfl (Go.IntWalk.i64_in _ (by omega))) ?_
                  refine wlg_yes rfl (ro_max rfl rfl) ?_
                  refine wlg_yes rfl (ro_cmp (r := false) rfl rfl (congrArg some (decide_eq_false (by split <;> omega)))) ?_
                  refine wl (ro_pick rfl rfl rfl) ?_
                  refine wl_nil (x_then (hK33 _ _ ?_))
                  clear hK33 K33
                  refine wc_condF rfl ?_
                  refine c_skip (x_then (hK32 _ _ ?_))
                  clear hK32 K32
                  refine forget [(0, _), (6, _), (7, _), (98, _), (99, _), (100, _), (116, _), (117, _), (118, _), (121, _), (122, _), (123, _), (126, _), (127, _), (128, _), (129, _), (130, _), (131, _), (132, _), (133, _), (134, _), (135, _), (136, _)] ⟨rfl, rfl, rfl, rfl, rfl, rfl, rfl, rfl, rfl, rfl, rfl, rfl, rfl, rfl, rfl, rfl, rfl, rfl, rfl, rfl, rfl, rfl, rfl, trivial⟩ (fun e => ?_)
                  refine c_seq (fun K34 hK34 => ?_)
                  by_cases hn0 : y.1.Nx = 0
                  · skip
                    refine c_pi [(0, false), (1, false), (2, false), (3, false), (4, false), (5, false), (6, false), (7, false), (8, false), (9, false), (10, false), (11, false), (12, false), (13, false), (14, false), (15, false), (16, false), (17, false), (18, false)] (SameH _) mixed (by kernel_rfl) rfl (by kernel_rfl) (po_then (po_blk (po_then (po_then (po_blk (po_then (po_bp))))))) (sameH_now _ _) ?_ -- region 21 syn.go:84
                    refine pi_ro rfl (fun w hS => ro_fieldAddr (k := 4) rfl fo_148_4) ?_
                    refine pi_ro rfl (fun w hS => ro_loadB rfl sc_3 (Blk.of_heap h7 hS) (rfl)) ?_
                    refine pi_ro rfl (fun w hS => ro_cmp (r := false) rfl rfl (congrArg some (by simp; omega))) ?_
                    refine pi_ro rfl (fun w hS => ro_move rfl) ?_
                    refine pi_gno rfl rfl ?_
                    refine pi_gno rfl rfl ?_
                    refine pi_gno rfl rfl ?_
                    refine pi_gno rfl rfl ?_
                    refine pi_gno rfl rfl ?_
                    refine pi_gno rfl rfl ?_
                    refine pi_gno rfl rfl ?_
                    refine pi_gno rfl rfl ?_
                    refine pi_gno rfl rfl ?_
                    refine pi_gno rfl rfl ?_
                    refine pi_gno rfl rfl ?_
                    refine pi_gno rfl rfl ?_
                    refine pi_gno rfl rfl ?_
                    refine pi_gno rfl rfl ?_
                    refine pi_ro rfl (fun w hS => ro_pick rfl rfl rfl) ?_
                    refine pi_nil (x_then (hK34 _ _ ?_))
                    clear hK34 K34
                    refine wc_condF rfl ?_
                    refine c_skip (x_blk (x_then (hK25 _ _ ?_)))
                    clear hK25 K25
                    refine c_reg ?_ -- region 23 syn.go:77
                    refine wl (ro_adT (m := i) (k := 1) rfl rfl (by omega)) ?_
                    refine wl (ro_move rfl) ?_
                    refine wl_nil (x_then ?_)
                    exact ⟨G.length - (i + 1), by omega, i + 1, rfl, by omega, hF.thenDrew, kp _ ⟨rfl, rfl, rfl, rfl, trivial⟩⟩
                  · skip
                    refine c_pi [(0, false), (1, false), (2, false), (3, false), (4, false), (5, false), (6, false), (7, false), (8, false), (9, false), (10, false), (11, false), (12, false), (13, false), (14, false), (15, false), (16, false), (17, false), (18, false)] (SameH _) mixed (by kernel_rfl) rfl (by kernel_rfl) (po_then (po_blk (po_then (po_then (po_blk (po_then (po_bp))))))) (sameH_now _ _) ?_ -- region 21 syn.go:84
                    refine pi_ro rfl (fun w hS => ro_fieldAddr (k := 4) rfl fo_148_4) ?_
                    refine pi_ro rfl (fun w hS => ro_loadB rfl sc_3 (Blk.of_heap h7 hS) (rfl)) ?_
                    refine pi_ro rfl (fun w hS => ro_cmp (r := true) rfl rfl (congrArg some (by simp; omega))) ?_
                    refine pi_ro rfl (fun w hS => ro_move rfl) ?_
                    refine pi_gyes rfl rfl (fun w hS => ro_fieldAddr (k := 4) rfl fo_148_4) ?_
                    refine pi_gyes rfl rfl (fun w hS => ro_loadB rfl sc_3 (Blk.of_heap h7 hS) (rfl)) ?_
                    refine pi_gyes rfl rfl (fun w hS => ro_move rfl) ?_
                    refine pi_gyes rfl rfl (fun w hS => ro_cmp (r := false) rfl rfl (congrArg some (by simp; omega))) ?_
                    refine pi_gyes rfl rfl (fun w hS => ro_move rfl) ?_
                    refine pi_gyes rfl rfl (fun w hS => ro_fieldAddr (k := 4) rfl fo_148_4) ?_
                    refine pi_gyes rfl rfl (fun w hS => ro_loadB rfl sc_3 (Blk.of_heap h7 hS) (rfl)) ?_
                    refine pi_gyes rfl rfl (fun w hS => ro_move rfl) ?_
                    refine pi_gyes rfl rfl (fun w hS => ro_nilCheck rfl) ?_
                    refine pi_gyes rfl rfl (fun w hS => ro_fieldAddr (k := 2) rfl fo_79_2) ?_
                    refine pi_gyes rfl rfl (fun w hS => ro_loadB rfl sc_77 (Blk.of_heap hX hS) rfl) ?_
                    refine pi_gyes rfl rfl (fun w hS => ro_lenL rfl se_77) ?_
                    refine pi_gyes rfl rfl (fun w hS => ro_cmp (r := false) rfl rfl (congrArg some (by simp; omega))) ?_
                    refine pi_gyes rfl rfl (fun w hS => ro_pick rfl rfl rfl) ?_
                    refine pi_ro rfl (fun w hS => ro_pick rfl rfl rfl) ?_
                    refine pi_nil (x_then (hK34 _ _ ?_))
                    clear hK34 K34
                    refine wc_condF rfl ?_
                    refine c_skip (x_blk (x_then (hK25 _ _ ?_)))
                    clear hK25 K25
                    refine c_reg ?_ -- region 23 syn.go:77
                    refine wl (ro_adT (m := i) (k := 1) rfl rfl (by omega)) ?_
                    refine wl (ro_move rfl) ?_
                    refine wl_nil (x_then ?_)
                    exact ⟨G.length - (i + 1), by omega, i + 1, rfl, by omega, hF.thenDrew, kp _ ⟨rfl, rfl, rfl, rfl, trivial⟩⟩
        · try simp only [decide_eq_true_eq, decide_eq_false_iff_not, Bool.not_eq_true', Bool.not_eq_false', Bool.not_eq_eq_eq_not, Bool.not_true, Bool.not_false, beq_iff_eq, bne_iff_ne, ne_eq, beq_eq_false_iff_ne, bne_eq_false_iff_eq, gt_iff_lt, ge_iff_le, Int.not_lt, Int.not_le] at hc101
          refine c_exit (x_thenX (x_thenX (x_blkX (x_then (hK21 _ _ ?_)))))
          clear hK24 K24 hK21 K21
          refine forget [] trivial (fun e => ?_)
          refine c_seq (fun K35 hK35 => ?_)
          refine c_reg ?_ -- region 24 syn.go:88
          refine wl (ro_assign rfl) ?_
          refine wl_nil (x_then (hK35 _ _ ?_))
          clear hK35 K35
          refine c_ret ?_
          refine bp_ret Tryz.results94 rfl ?_
          exact ⟨rfl, hF⟩
end Go.Proofs.Qxb6500568aGreatDoor
