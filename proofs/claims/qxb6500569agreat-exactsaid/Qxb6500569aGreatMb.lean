import Derived.Test.Qxb6500569aGreatMa
/- The model heap: its readers. -/
namespace Go.Proofs.Qxb6500569aGreat
set_option linter.unusedVariables false
set_option linter.unusedSimpArgs false

theorem eqnil (l : List UInt8) : (l == []) = decide (l = []) := by cases l <;> simp

/-- The head of a node: nothing, or a letter and a digit. -/
def HdOK (h : List UInt8) : Prop := h = [] ∨ ∃ f d : UInt8, h = [f, d] ∧ 48 ≤ d.toNat ∧ d.toNat ≤ 52

theorem wfh_hd {hp : List Nd} (wf : WFH hp) {a : Nat} {nd : Nd} (h : hp[a]? = some nd) : HdOK nd.h := by
  by_cases h0 : nd.h = []
  · exact .inl h0
  · exact .inr (wf.str a nd h h0).1

theorem arity104 {w : World} {h : List UInt8} (hh : HdOK h) : Ret Tryz.prog 104 [S h] w (fun r w' => r = i64c (ar h) ∧ w' = w) := by
  rcases hh with rfl | ⟨f, d, rfl, h1, h2⟩
  · skip
    refine ret_of Tryz.func104 rfl Tryz.ntmps104 rfl ?_
    refine c_seq (fun K1 hK1 => ?_)
    refine c_reg ?_ -- region 0 heapm.go:39
    refine wl (ro_assign rfl) ?_
    refine wl_nil (x_then (hK1 _ _ ?_))
    clear hK1 K1
    refine c_seq (fun K2 hK2 => ?_)
    refine c_seq (fun K3 hK3 => ?_)
    refine c_reg ?_ -- region 1 heapm.go:40
    refine wl (ro_move rfl) ?_
    refine wl (ro_eqS (r := true) rfl rfl (by rfl)) ?_
    refine wl_nil (x_then (hK3 _ _ ?_))
    clear hK3 K3
    refine wc_condT rfl ?_
    refine c_seq (fun K4 hK4 => ?_)
    refine c_reg ?_ -- region 2 heapm.go:41
    refine wl (ro_assign rfl) ?_
    refine wl_nil (x_then (hK4 _ _ ?_))
    clear hK4 K4
    refine c_ret (x_thenR ?_)
    refine bp_ret Tryz.results104 rfl ?_
    exact ⟨rfl, rfl⟩
  · skip
    refine ret_of Tryz.func104 rfl Tryz.ntmps104 rfl ?_
    refine c_seq (fun K1 hK1 => ?_)
    refine c_reg ?_ -- region 0 heapm.go:39
    refine wl (ro_assign rfl) ?_
    refine wl_nil (x_then (hK1 _ _ ?_))
    clear hK1 K1
    refine c_seq (fun K2 hK2 => ?_)
    refine c_seq (fun K3 hK3 => ?_)
    refine c_reg ?_ -- region 1 heapm.go:40
    refine wl (ro_move rfl) ?_
    refine wl (ro_eqS (r := false) rfl rfl (by rfl)) ?_
    refine wl_nil (x_then (hK3 _ _ ?_))
    clear hK3 K3
    refine wc_condF rfl ?_
    refine c_skip (x_then (hK2 _ _ ?_))
    clear hK2 K2
    refine forget [(0, _)] ⟨rfl, trivial⟩ (fun e => ?_)
    refine c_seq (fun K4 hK4 => ?_)
    refine c_reg ?_ -- region 3 heapm.go:43
    refine wl (ro_move rfl) ?_
    refine wl (ro_indexS rfl rfl st_9 rfl (rfl)) ?_
    refine wl (ro_arith rfl rfl rfl (Go.IntWalk.u8_in _ (by omega))) ?_
    refine wl (ro_conv rfl sc_5 in_3 (Go.IntWalk.i64_in _ (by omega))) ?_
    refine wl (ro_assign rfl) ?_
    refine wl_nil (x_then (hK4 _ _ ?_))
    clear hK4 K4
    refine c_ret ?_
    refine bp_ret Tryz.results104 rfl ?_
    refine ⟨?_, rfl⟩
    show Value.int .i64 ((d.toNat : Int) - 48) = .int .i64 ((d.toNat - 48 : Nat) : Int)
    congr 1; omega

section
variable {w : World} {hb : Nat} {V : Value} {hp : List Nd}

theorem Deref105 (M : MH w.heap hb V hp) (wf : WFH hp) {a : Nat} (ha : a < hp.length) (h64 : hp.length ≤ 64) : Ret Tryz.prog 105 [ptr hb, i64c a] w (fun r w' => r = i64c (deref hp a) ∧ w' = w) := by
  obtain ⟨g, cap, l, rfl, hBl, hc1, hc2, hl1, hl2⟩ := M.own.pos (by omega)
  have hB := M.blk
  refine ret_of Tryz.func105 rfl Tryz.ntmps105 rfl ?_
  refine c_seq (fun K1 hK1 => ?_)
  refine c_reg ?_ -- region 0 heapm.go:46
  refine wl (ro_assign rfl) ?_
  refine wl_nil (x_then (hK1 _ _ ?_))
  clear hK1 K1
  refine c_seq (fun K2 hK2 => ?_)
  refine c_seq (fun K3 hK3 => ?_)
  refine c_reg ?_ -- region 1 heapm.go:47
  refine wl (ro_move rfl) ?_
  refine wl (ro_cmp (r := false) rfl rfl (by simp)) ?_
  refine wl (ro_move rfl) ?_
  refine wlg_yes rfl (ro_move rfl) ?_
  refine wlg_yes rfl (ro_move rfl) ?_
  refine wlg_yes rfl (ro_nilCheck rfl) ?_
  refine wlg_yes rfl (ro_fieldAddr (k := 0) rfl fo_121_0) ?_
  refine wlg_yes rfl (ro_loadB rfl sc_118 (by assumption) rfl) ?_
  refine wlg_yes rfl (ro_lenL rfl se_118) ?_
  refine wlg_yes rfl (ro_cmp (r := false) rfl rfl (by simp; omega)) ?_
  refine wl (ro_pick rfl rfl rfl) ?_
  refine wl_nil (x_then (hK3 _ _ ?_))
  clear hK3 K3
  refine wc_condF rfl ?_
  refine c_skip (x_then (hK2 _ _ ?_))
  clear hK2 K2
  refine forget [(0, _), (1, _)] ⟨rfl, rfl, trivial⟩ (fun e => ?_)
  refine c_seq (fun K4 hK4 => ?_)
  refine c_block ?_
  -- loop@r3: live slots [0, 1]
  refine c_loop (fun a' w' => w' = w ∧ ∃ b : Nat, b < hp.length ∧ deref hp b = deref hp a ∧ ∃ e, a' = Fr 46 (upds e [(0, ptr hb), (1, i64c b)]) []) (fun a' _ => rank hp (slotN a' 1)) ⟨rfl, a, ha, rfl, kp _ ⟨rfl, rfl, trivial⟩⟩ ?_
  rintro a' w' ⟨rfl, b, hbl, hDb, e, rfl⟩
  obtain ⟨nd, hnd⟩ : ∃ nd, hp[b]? = some nd := ⟨_, List.getElem?_eq_getElem hbl⟩
  have hch := own_cell hl2 (ndcs_get M.a4 hnd (ndc_h nd))
  have hcr := own_cell hl2 (ndcs_get M.a4 hnd (ndc_r nd))
  refine c_seq (fun K5 hK5 => ?_)
  refine c_seq (fun K6 hK6 => ?_)
  by_cases hn : nd.h = []
  · skip
    refine c_reg ?_ -- region 3 heapm.go:50
    refine wl (ro_move rfl) ?_
    refine wl (ro_nilCheck rfl) ?_
    refine wl (ro_fieldAddr (k := 0) rfl fo_121_0) ?_
    refine wl (ro_loadB rfl sc_118 (by assumption) rfl) ?_
    refine wl (ro_move rfl) ?_
    refine wl (ro_indexAddr (et := 184) (k := 6) rfl rfl se_118 rfl (hbl)) ?_
    refine wl (ro_fieldAddr (k := 0) rfl fo_184_0) ?_
    refine wl (ro_loadB rfl sc_9 (hBl) ((by rw [show 0 + b * 6 + 0 = b * 6 + 0 by omega]; exact hch))) ?_
    refine wl (ro_eqS (r := true) rfl rfl (by rw [hn]; rfl)) ?_
    refine wl (ro_move rfl) ?_
    refine wlg_yes rfl (ro_move rfl) ?_
    refine wlg_yes rfl (ro_nilCheck rfl) ?_
    refine wlg_yes rfl (ro_fieldAddr (k := 0) rfl fo_121_0) ?_
    refine wlg_yes rfl (ro_loadB rfl sc_118 (by assumption) rfl) ?_
    refine wlg_yes rfl (ro_move rfl) ?_
    refine wlg_yes rfl (ro_indexAddr (et := 184) (k := 6) rfl rfl se_118 rfl (hbl)) ?_
    refine wlg_yes rfl (ro_fieldAddr (k := 1) rfl fo_184_1) ?_
    refine wlg_yes rfl (ro_loadB rfl sc_3 (hBl) ((by rw [show 0 + b * 6 + 1 = b * 6 + 1 by omega]; exact hcr))) ?_
    refine wlg_yes rfl (ro_move rfl) ?_
    refine wlg_yes rfl (ro_cmp (r := decide (nd.r ≠ b)) rfl rfl (congrArg some (by have := beqc nd.r b; simp [bne, this]))) ?_
    refine wl (ro_pick rfl rfl rfl) ?_
    refine wl_nil (x_then (hK6 _ _ ?_))
    clear hK6 K6
    refine wc_cond rfl (fun hc36 => ?_) (fun hc36 => ?_)
    · try simp only [decide_eq_true_eq, decide_eq_false_iff_not, Bool.not_eq_true', Bool.not_eq_false', Bool.not_eq_eq_eq_not, Bool.not_true, Bool.not_false, beq_iff_eq, bne_iff_ne, ne_eq, beq_eq_false_iff_ne, bne_eq_false_iff_eq, gt_iff_lt, ge_iff_le, Int.not_lt, Int.not_le] at hc36
      have hr : nd.r ≠ b := by simpa using hc36
      have hDy := deref_step wf hnd hn hr
      have hrk := rank_lt wf hnd hn hr
      have hyl := (wf.var b nd hnd hn).1
      refine c_skip (x_then (hK5 _ _ ?_))
      clear hK5 K5
      refine c_block ?_
      refine c_reg ?_ -- region 4 heapm.go:51
      refine wl (ro_move rfl) ?_
      refine wl (ro_nilCheck rfl) ?_
      refine wl (ro_fieldAddr (k := 0) rfl fo_121_0) ?_
      refine wl (ro_loadB rfl sc_118 (by assumption) rfl) ?_
      refine wl (ro_move rfl) ?_
      refine wl (ro_indexAddr (et := 184) (k := 6) rfl rfl se_118 rfl (hbl)) ?_
      refine wl (ro_fieldAddr (k := 1) rfl fo_184_1) ?_
      refine wl (ro_loadB rfl sc_3 (hBl) ((by rw [show 0 + b * 6 + 1 = b * 6 + 1 by omega]; exact hcr))) ?_
      refine wl (ro_assign rfl) ?_
      refine wl_nil (x_blk (x_then ?_))
      refine ⟨⟨rfl, nd.r, hyl, by rw [← hDy]; exact hDb, kp _ ⟨rfl, rfl, trivial⟩⟩, ?_⟩
      rw [slotN_fr (b := (nd.r : Int)) rfl, slotN_fr (b := (b : Int)) rfl]
      exact hrk
    · try simp only [decide_eq_true_eq, decide_eq_false_iff_not, Bool.not_eq_true', Bool.not_eq_false', Bool.not_eq_eq_eq_not, Bool.not_true, Bool.not_false, beq_iff_eq, bne_iff_ne, ne_eq, beq_eq_false_iff_ne, bne_eq_false_iff_eq, gt_iff_lt, ge_iff_le, Int.not_lt, Int.not_le] at hc36
      have hr : nd.r = b := by simpa using hc36
      refine c_exit (x_thenX (x_thenX (x_blkX (x_then (hK4 _ _ ?_)))))
      clear hK5 K5 hK4 K4
      refine forget [(1, _)] ⟨rfl, trivial⟩ (fun e => ?_)
      refine c_seq (fun K7 hK7 => ?_)
      refine c_reg ?_ -- region 5 heapm.go:53
      refine wl (ro_move rfl) ?_
      refine wl (ro_assign rfl) ?_
      refine wl_nil (x_then (hK7 _ _ ?_))
      clear hK7 K7
      refine c_ret ?_
      refine bp_ret Tryz.results105 rfl ?_
      exact ⟨by rw [← hDb, deref_stop wf hnd (.inr hr)], rfl⟩
  · skip
    refine c_reg ?_ -- region 3 heapm.go:50
    refine wl (ro_move rfl) ?_
    refine wl (ro_nilCheck rfl) ?_
    refine wl (ro_fieldAddr (k := 0) rfl fo_121_0) ?_
    refine wl (ro_loadB rfl sc_118 (by assumption) rfl) ?_
    refine wl (ro_move rfl) ?_
    refine wl (ro_indexAddr (et := 184) (k := 6) rfl rfl se_118 rfl (hbl)) ?_
    refine wl (ro_fieldAddr (k := 0) rfl fo_184_0) ?_
    refine wl (ro_loadB rfl sc_9 (hBl) ((by rw [show 0 + b * 6 + 0 = b * 6 + 0 by omega]; exact hch))) ?_
    refine wl (ro_eqS (r := false) rfl rfl (by show some (nd.h == []) = some false; rw [eqnil]; simp [hn])) ?_
    refine wl (ro_move rfl) ?_
    refine wlg_no rfl ?_
    refine wlg_no rfl ?_
    refine wlg_no rfl ?_
    refine wlg_no rfl ?_
    refine wlg_no rfl ?_
    refine wlg_no rfl ?_
    refine wlg_no rfl ?_
    refine wlg_no rfl ?_
    refine wlg_no rfl ?_
    refine wlg_no rfl ?_
    refine wl (ro_pick rfl rfl rfl) ?_
    refine wl_nil (x_then (hK6 _ _ ?_))
    clear hK6 K6
    refine wc_condF rfl ?_
    refine c_exit (x_thenX (x_thenX (x_blkX (x_then (hK4 _ _ ?_)))))
    clear hK5 K5 hK4 K4
    refine forget [(1, _)] ⟨rfl, trivial⟩ (fun e => ?_)
    refine c_seq (fun K8 hK8 => ?_)
    refine c_reg ?_ -- region 5 heapm.go:53
    refine wl (ro_move rfl) ?_
    refine wl (ro_assign rfl) ?_
    refine wl_nil (x_then (hK8 _ _ ?_))
    clear hK8 K8
    refine c_ret ?_
    refine bp_ret Tryz.results105 rfl ?_
    exact ⟨by rw [← hDb, deref_stop wf hnd (.inl hn)], rfl⟩

theorem Deref105n (M : MH w.heap hb V hp) : Ret Tryz.prog 105 [ptr hb, .int .i64 (-1)] w (fun r w' => r = .int .i64 (-1) ∧ w' = w) := by
  have hB := M.blk
  refine ret_of Tryz.func105 rfl Tryz.ntmps105 rfl ?_
  refine c_seq (fun K1 hK1 => ?_)
  refine c_reg ?_ -- region 0 heapm.go:46
  refine wl (ro_assign rfl) ?_
  refine wl_nil (x_then (hK1 _ _ ?_))
  clear hK1 K1
  refine c_seq (fun K2 hK2 => ?_)
  refine c_seq (fun K3 hK3 => ?_)
  refine c_reg ?_ -- region 1 heapm.go:47
  refine wl (ro_move rfl) ?_
  refine wl (ro_cmp (r := true) rfl rfl (by simp)) ?_
  refine wl (ro_move rfl) ?_
  refine wlg_no rfl ?_
  refine wlg_no rfl ?_
  refine wlg_no rfl ?_
  refine wlg_no rfl ?_
  refine wlg_no rfl ?_
  refine wlg_no rfl ?_
  refine wlg_no rfl ?_
  refine wl (ro_pick rfl rfl rfl) ?_
  refine wl_nil (x_then (hK3 _ _ ?_))
  clear hK3 K3
  refine wc_condT rfl ?_
  refine c_seq (fun K4 hK4 => ?_)
  refine c_reg ?_ -- region 2 heapm.go:48
  refine wl (ro_assign rfl) ?_
  refine wl_nil (x_then (hK4 _ _ ?_))
  clear hK4 K4
  refine c_ret (x_thenR ?_)
  refine bp_ret Tryz.results105 rfl ?_
  exact ⟨rfl, rfl⟩

theorem Head64n (M : MH w.heap hb V hp) : Ret Tryz.prog 64 [ptr hb, .int .i64 (-1)] w (fun r w' => r = S [] ∧ w' = w) := by
  refine ret_of Tryz.func64 rfl Tryz.ntmps64 rfl ?_
  refine c_seq (fun K1 hK1 => ?_)
  refine c_reg ?_ -- region 0 heapm.go:56
  refine wl (ro_assign rfl) ?_
  refine wl_nil (x_then (hK1 _ _ ?_))
  clear hK1 K1
  refine forget [(0, _), (1, _)] ⟨rfl, rfl, trivial⟩ (fun e => ?_)
  refine c_seq (fun K2 hK2 => ?_)
  refine c_reg ?_ -- region 1 heapm.go:57
  refine wl (ro_move rfl) ?_
  refine wl (ro_move rfl) ?_
  refine wl_call rfl en_105 (Deref105n M) ?_
  rintro _ w ⟨rfl, rfl⟩
  refine wl (ro_assign rfl) ?_
  refine wl_nil (x_then (hK2 _ _ ?_))
  clear hK2 K2
  refine c_seq (fun K3 hK3 => ?_)
  refine c_seq (fun K4 hK4 => ?_)
  refine c_reg ?_ -- region 2 heapm.go:58
  refine wl (ro_move rfl) ?_
  refine wl (ro_cmp (r := true) rfl rfl (by simp)) ?_
  refine wl_nil (x_then (hK4 _ _ ?_))
  clear hK4 K4
  refine wc_condT rfl ?_
  refine c_seq (fun K5 hK5 => ?_)
  refine c_reg ?_ -- region 3 heapm.go:59
  refine wl (ro_assign rfl) ?_
  refine wl_nil (x_then (hK5 _ _ ?_))
  clear hK5 K5
  refine c_ret (x_thenR ?_)
  refine bp_ret Tryz.results64 rfl ?_
  exact ⟨rfl, rfl⟩

theorem Head64 (M : MH w.heap hb V hp) (wf : WFH hp) {a : Nat} (ha : a < hp.length) (h64 : hp.length ≤ 64) : Ret Tryz.prog 64 [ptr hb, i64c a] w (fun r w' => r = S (hd hp a) ∧ w' = w) := by
  have hdl := deref_lt wf ha
  obtain ⟨nd, hnd⟩ : ∃ nd, hp[deref hp a]? = some nd := ⟨_, List.getElem?_eq_getElem hdl⟩
  obtain ⟨g, cap, l, rfl, hBl, hc1, hc2, hl1, hl2⟩ := M.own.pos (by omega)
  have hB := M.blk
  have hch := own_cell hl2 (ndcs_get M.a4 hnd (ndc_h nd))
  refine ret_of Tryz.func64 rfl Tryz.ntmps64 rfl ?_
  refine c_seq (fun K1 hK1 => ?_)
  refine c_reg ?_ -- region 0 heapm.go:56
  refine wl (ro_assign rfl) ?_
  refine wl_nil (x_then (hK1 _ _ ?_))
  clear hK1 K1
  refine forget [(0, _), (1, _)] ⟨rfl, rfl, trivial⟩ (fun e => ?_)
  refine c_seq (fun K2 hK2 => ?_)
  refine c_reg ?_ -- region 1 heapm.go:57
  refine wl (ro_move rfl) ?_
  refine wl (ro_move rfl) ?_
  refine wl_call rfl en_105 (Deref105 M wf ha h64) ?_
  rintro _ w ⟨rfl, rfl⟩
  refine wl (ro_assign rfl) ?_
  refine wl_nil (x_then (hK2 _ _ ?_))
  clear hK2 K2
  refine c_seq (fun K3 hK3 => ?_)
  refine c_seq (fun K4 hK4 => ?_)
  refine c_reg ?_ -- region 2 heapm.go:58
  refine wl (ro_move rfl) ?_
  refine wl (ro_cmp (r := false) rfl rfl (by simp)) ?_
  refine wl_nil (x_then (hK4 _ _ ?_))
  clear hK4 K4
  refine wc_condF rfl ?_
  refine c_skip (x_then (hK3 _ _ ?_))
  clear hK3 K3
  refine forget [(0, _), (1, _)] ⟨rfl, rfl, trivial⟩ (fun e => ?_)
  refine c_seq (fun K5 hK5 => ?_)
  refine c_reg ?_ -- region 4 heapm.go:61
  refine wl (ro_move rfl) ?_
  refine wl (ro_nilCheck rfl) ?_
  refine wl (ro_fieldAddr (k := 0) rfl fo_121_0) ?_
  refine wl (ro_loadB rfl sc_118 (by assumption) rfl) ?_
  refine wl (ro_move rfl) ?_
  refine wl (ro_indexAddr (et := 184) (k := 6) rfl rfl se_118 rfl (hdl)) ?_
  refine wl (ro_fieldAddr (k := 0) rfl fo_184_0) ?_
  refine wl (ro_loadB rfl sc_9 (hBl) ((by rw [show 0 + deref hp a * 6 + 0 = deref hp a * 6 + 0 by omega]; exact hch))) ?_
  refine wl (ro_assign rfl) ?_
  refine wl_nil (x_then (hK5 _ _ ?_))
  clear hK5 K5
  refine c_ret ?_
  refine bp_ret Tryz.results64 rfl ?_
  exact ⟨by simp [hd, hnd], rfl⟩

theorem Arg62 (M : MH w.heap hb V hp) (wf : WFH hp) {a : Nat} (ha : a < hp.length) (h64 : hp.length ≤ 64) (i : Nat) (hi : i < 1000) :
    Ret Tryz.prog 62 [ptr hb, i64c a, i64c i] w (fun r w' => r = optc (argOf hp a i) ∧ w' = w) := by
  have hdl := deref_lt wf ha
  obtain ⟨nd, hnd⟩ : ∃ nd, hp[deref hp a]? = some nd := ⟨_, List.getElem?_eq_getElem hdl⟩
  obtain ⟨g, cap, l, rfl, hBl, hc1, hc2, hl1, hl2⟩ := M.own.pos (by omega)
  have hB := M.blk
  have hch := own_cell hl2 (ndcs_get M.a4 hnd (ndc_h nd))
  have hlen : nd.a.length = 4 := M.a4 nd (List.mem_of_getElem? hnd)
  have hhd := wfh_hd wf hnd
  by_cases hia : i < ar nd.h
  · have har4 : ar nd.h ≤ 4 := by
      rcases hhd with h | ⟨f, d, h, h1, h2⟩
      · rw [h]; simp [ar]
      · rw [h]; simp [ar]; omega
    obtain ⟨k, hk⟩ : ∃ k, nd.a[i]? = some k := ⟨_, List.getElem?_eq_getElem (by omega)⟩
    have hca := own_cell hl2 (ndcs_get M.a4 hnd (ndc_a hk))
    refine ret_of Tryz.func62 rfl Tryz.ntmps62 rfl ?_
    refine c_seq (fun K1 hK1 => ?_)
    refine c_reg ?_ -- region 0 heapm.go:64
    refine wl (ro_assign rfl) ?_
    refine wl_nil (x_then (hK1 _ _ ?_))
    clear hK1 K1
    refine forget [(0, _), (1, _), (2, _)] ⟨rfl, rfl, rfl, trivial⟩ (fun e => ?_)
    refine c_seq (fun K2 hK2 => ?_)
    refine c_reg ?_ -- region 1 heapm.go:65
    refine wl (ro_move rfl) ?_
    refine wl (ro_move rfl) ?_
    refine wl_call rfl en_105 (Deref105 M wf ha h64) ?_
    rintro _ w ⟨rfl, rfl⟩
    refine wl (ro_assign rfl) ?_
    refine wl_nil (x_then (hK2 _ _ ?_))
    clear hK2 K2
    refine c_seq (fun K3 hK3 => ?_)
    refine c_seq (fun K4 hK4 => ?_)
    refine c_reg ?_ -- region 2 heapm.go:66
    refine wl (ro_move rfl) ?_
    refine wl (ro_cmp (r := false) rfl rfl (by simp)) ?_
    refine wl (ro_move rfl) ?_
    refine wlg_yes rfl (ro_move rfl) ?_
    refine wlg_yes rfl (ro_cmp (r := false) rfl rfl (by simp)) ?_
    refine wl (ro_pick rfl rfl rfl) ?_
    refine wl (ro_move rfl) ?_
    refine wlg_yes rfl (ro_move rfl) ?_
    refine wlg_yes rfl (ro_move rfl) ?_
    refine wlg_yes rfl (ro_nilCheck rfl) ?_
    refine wlg_yes rfl (ro_fieldAddr (k := 0) rfl fo_121_0) ?_
    refine wlg_yes rfl (ro_loadB rfl sc_118 (by assumption) rfl) ?_
    refine wlg_yes rfl (ro_move rfl) ?_
    refine wlg_yes rfl (ro_indexAddr (et := 184) (k := 6) rfl rfl se_118 rfl (hdl)) ?_
    refine wlg_yes rfl (ro_fieldAddr (k := 0) rfl fo_184_0) ?_
    refine wlg_yes rfl (ro_loadB rfl sc_9 (hBl) ((by rw [show 0 + deref hp a * 6 + 0 = deref hp a * 6 + 0 by omega]; exact hch))) ?_
    refine wlg_call rfl rfl en_104 (arity104 hhd) ?_
    rintro _ w ⟨rfl, rfl⟩
    refine wlg_yes rfl (ro_cmp (r := false) rfl rfl (by simp; omega)) ?_
    refine wl (ro_pick rfl rfl rfl) ?_
    refine wl_nil (x_then (hK4 _ _ ?_))
    clear hK4 K4
    refine wc_condF rfl ?_
    refine c_skip (x_then (hK3 _ _ ?_))
    clear hK3 K3
    refine forget [(0, _), (1, _), (2, _)] ⟨rfl, rfl, rfl, trivial⟩ (fun e => ?_)
    refine c_seq (fun K5 hK5 => ?_)
    refine c_reg ?_ -- region 4 heapm.go:69
    refine wl (ro_move rfl) ?_
    refine wl (ro_nilCheck rfl) ?_
    refine wl (ro_fieldAddr (k := 0) rfl fo_121_0) ?_
    refine wl (ro_loadB rfl sc_118 (by assumption) rfl) ?_
    refine wl (ro_move rfl) ?_
    refine wl (ro_move rfl) ?_
    refine wl (ro_indexAddr (et := 184) (k := 6) rfl rfl se_118 rfl (hdl)) ?_
    refine wl (ro_fieldAddr (k := 2) rfl fo_184_2) ?_
    refine wl (ro_indexAddrA (et := 3) (k := 1) rfl rfl ar_182 rfl ((by omega))) ?_
    refine wl (ro_loadB rfl sc_3 (hBl) ((by rw [show 0 + deref hp a * 6 + 2 + i * 1 = deref hp a * 6 + (2 + i) by omega]; exact hca))) ?_
    refine wl (ro_assign rfl) ?_
    refine wl_nil (x_then (hK5 _ _ ?_))
    clear hK5 K5
    refine c_ret ?_
    refine bp_ret Tryz.results62 rfl ?_
    exact ⟨by simp [argOf, hnd, hia, hk, optc, optI, i64c], rfl⟩
  · skip
    refine ret_of Tryz.func62 rfl Tryz.ntmps62 rfl ?_
    refine c_seq (fun K1 hK1 => ?_)
    refine c_reg ?_ -- region 0 heapm.go:64
    refine wl (ro_assign rfl) ?_
    refine wl_nil (x_then (hK1 _ _ ?_))
    clear hK1 K1
    refine forget [(0, _), (1, _), (2, _)] ⟨rfl, rfl, rfl, trivial⟩ (fun e => ?_)
    refine c_seq (fun K2 hK2 => ?_)
    refine c_reg ?_ -- region 1 heapm.go:65
    refine wl (ro_move rfl) ?_
    refine wl (ro_move rfl) ?_
    refine wl_call rfl en_105 (Deref105 M wf ha h64) ?_
    rintro _ w ⟨rfl, rfl⟩
    refine wl (ro_assign rfl) ?_
    refine wl_nil (x_then (hK2 _ _ ?_))
    clear hK2 K2
    refine c_seq (fun K3 hK3 => ?_)
    refine c_seq (fun K4 hK4 => ?_)
    refine c_reg ?_ -- region 2 heapm.go:66
    refine wl (ro_move rfl) ?_
    refine wl (ro_cmp (r := false) rfl rfl (by simp)) ?_
    refine wl (ro_move rfl) ?_
    refine wlg_yes rfl (ro_move rfl) ?_
    refine wlg_yes rfl (ro_cmp (r := false) rfl rfl (by simp)) ?_
    refine wl (ro_pick rfl rfl rfl) ?_
    refine wl (ro_move rfl) ?_
    refine wlg_yes rfl (ro_move rfl) ?_
    refine wlg_yes rfl (ro_move rfl) ?_
    refine wlg_yes rfl (ro_nilCheck rfl) ?_
    refine wlg_yes rfl (ro_fieldAddr (k := 0) rfl fo_121_0) ?_
    refine wlg_yes rfl (ro_loadB rfl sc_118 (by assumption) rfl) ?_
    refine wlg_yes rfl (ro_move rfl) ?_
    refine wlg_yes rfl (ro_indexAddr (et := 184) (k := 6) rfl rfl se_118 rfl (hdl)) ?_
    refine wlg_yes rfl (ro_fieldAddr (k := 0) rfl fo_184_0) ?_
    refine wlg_yes rfl (ro_loadB rfl sc_9 (hBl) ((by rw [show 0 + deref hp a * 6 + 0 = deref hp a * 6 + 0 by omega]; exact hch))) ?_
    refine wlg_call rfl rfl en_104 (arity104 hhd) ?_
    rintro _ w ⟨rfl, rfl⟩
    refine wlg_yes rfl (ro_cmp (r := true) rfl rfl (by simp; omega)) ?_
    refine wl (ro_pick rfl rfl rfl) ?_
    refine wl_nil (x_then (hK4 _ _ ?_))
    clear hK4 K4
    refine wc_condT rfl ?_
    refine c_seq (fun K5 hK5 => ?_)
    refine c_reg ?_ -- region 3 heapm.go:67
    refine wl (ro_assign rfl) ?_
    refine wl_nil (x_then (hK5 _ _ ?_))
    clear hK5 K5
    refine c_ret (x_thenR ?_)
    refine bp_ret Tryz.results62 rfl ?_
    exact ⟨by simp [argOf, hnd, hia, optc, optI], rfl⟩

end
end Go.Proofs.Qxb6500569aGreat
