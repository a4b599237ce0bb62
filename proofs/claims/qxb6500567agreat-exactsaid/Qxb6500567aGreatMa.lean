import Derived.Test.Qxb6500567aGreatLc
import Derived.Test.Qxb6500567aGreatHd
/- The finder: templates. -/
namespace Go.Proofs.Qxb6500567aGreat
set_option linter.unusedVariables false
set_option linter.unusedSimpArgs false

abbrev pcc (p : PC) : List Value := [i64c p.lo, i64c p.hi, icv p.g]
def PcV (pf : Nat → Value) (P : List PC) : Prop := ∀ (k : Nat) (p : PC), P[k]? = some p → pf (k * 3) = i64c p.lo ∧ pf (k * 3 + 1) = i64c p.hi ∧ pf (k * 3 + 2) = icv p.g

theorem PcV.app {pf : Nat → Value} {P : List PC} (h : PcV pf P) (p : PC) : PcV (pts pf (P.length * 3) (pcc p)) (P ++ [p]) := by
  intro k q hk
  by_cases hkl : k < P.length
  · rw [List.getElem?_append_left hkl] at hk
    rw [pts_out (by omega), pts_out (by omega), pts_out (by omega)]
    exact h k q hk
  · rw [List.getElem?_append_right (by omega)] at hk
    have hk0 : k = P.length := by
      have := (List.getElem?_eq_some_iff.1 hk).1
      simp at this
      omega
    subst hk0
    simp at hk
    subst hk
    exact ⟨pts_in (j := 0) rfl, pts_in (j := 1) rfl, pts_in (j := 2) rfl⟩
theorem PcV.last {pf : Nat → Value} {Q : List PC} {p : PC} {hi : Nat} (h : PcV pf (Q ++ [p])) : PcV (pt pf (Q.length * 3 + 1) (i64c hi)) (Q ++ [⟨p.lo, hi, p.g⟩]) := by
  intro k q hk
  by_cases hkl : k < Q.length
  · rw [List.getElem?_append_left hkl] at hk
    rw [pt_ne (by omega), pt_ne (by omega), pt_ne (by omega)]
    exact h k q (by rw [List.getElem?_append_left hkl]; exact hk)
  · have hk0 : k = Q.length := by
      have := (List.getElem?_eq_some_iff.1 hk).1
      simp at this
      omega
    subst hk0
    simp at hk
    subst hk
    obtain ⟨h1, h2, h3⟩ := h Q.length p (by simp)
    rw [pt_ne (by omega), pt_same, pt_ne (by omega)]
    exact ⟨h1, rfl, h3⟩
theorem PcV.nil (pf : Nat → Value) : PcV pf [] := fun k p h => by simp at h

theorem lit_len (P : List PC) (lo hi : Nat) : P.length ≤ (litP P lo hi).length ∧ (litP P lo hi).length ≤ P.length + 1 := by
  rcases lit_cases P lo hi with ⟨Q, p, rfl, -, -, e⟩ | ⟨e, -⟩
  · rw [e]; simp
  · rw [e]; simp

/-- Pieces that the check finds fine. -/
structure PcF (P : List PC) : Prop where
  ok : ∀ p ∈ P, (p.g = -1 ∧ p.lo < p.hi ∧ p.hi ≤ 32) ∨ (0 ≤ p.g ∧ p.g ≤ 3 ∧ p.lo = 0 ∧ p.hi = 0)
  ap : ∀ (k : Nat) (p q : PC), P[k]? = some p → P[k + 1]? = some q → ¬ (p.g < 0 ∧ q.g < 0 ∧ p.hi = q.lo)

theorem PcF.nil : PcF [] := ⟨by simp, fun k p q h => by simp at h⟩
theorem app_two {α : Type} {P : List α} {x : α} {k : Nat} {p q : α} (h1 : (P ++ [x])[k]? = some p) (h2 : (P ++ [x])[k + 1]? = some q) : (P[k]? = some p ∧ P[k + 1]? = some q) ∨ (∃ Q, P = Q ++ [p] ∧ q = x) := by
  by_cases hk : k + 1 < P.length
  · rw [List.getElem?_append_left (by omega)] at h1
    rw [List.getElem?_append_left hk] at h2
    exact .inl ⟨h1, h2⟩
  · have hk2 : k + 1 = P.length := by
      have := (List.getElem?_eq_some_iff.1 h2).1
      simp at this
      omega
    rw [List.getElem?_append_left (by omega)] at h1
    rw [List.getElem?_append_right (by omega), hk2] at h2
    simp at h2
    refine .inr ⟨P.take k, ?_, h2.symm⟩
    obtain ⟨h3, h4⟩ := List.getElem?_eq_some_iff.1 h1
    rw [← h4, List.take_append_getElem]
    exact (List.take_of_length_le (by omega)).symm
theorem PcF.app {P : List PC} (h : PcF P) {x : PC} (hx : (x.g = -1 ∧ x.lo < x.hi ∧ x.hi ≤ 32) ∨ (0 ≤ x.g ∧ x.g ≤ 3 ∧ x.lo = 0 ∧ x.hi = 0)) (hl : ∀ Q p, P = Q ++ [p] → ¬ (p.g < 0 ∧ x.g < 0 ∧ p.hi = x.lo)) : PcF (P ++ [x]) := by
  refine ⟨fun p hp => ?_, fun k p q h1 h2 => ?_⟩
  · rcases List.mem_append.1 hp with hp | hp
    · exact h.ok p hp
    · simp at hp; subst hp; exact hx
  · rcases app_two h1 h2 with ⟨a, b⟩ | ⟨Q, a, b⟩
    · exact h.ap k p q a b
    · subst b; exact hl Q p a
theorem PcF.init {Q : List PC} {p : PC} (h : PcF (Q ++ [p])) : PcF Q := by
  refine ⟨fun q hq => h.ok q (List.mem_append_left _ hq), fun k p q h1 h2 => h.ap k p q ?_ ?_⟩
  · rw [List.getElem?_append_left (List.getElem?_eq_some_iff.1 h1).1]; exact h1
  · rw [List.getElem?_append_left (List.getElem?_eq_some_iff.1 h2).1]; exact h2
theorem PcF.lit {P : List PC} (h : PcF P) {lo hi : Nat} (h1 : lo < hi) (h2 : hi ≤ 32) : PcF (litP P lo hi) := by
  rcases lit_cases P lo hi with ⟨Q, p, rfl, hg, hh, e⟩ | ⟨e, hn⟩
  · rw [e]
    have hp := h.ok p (by simp)
    refine h.init.app ?_ ?_
    · rcases hp with hp | hp
      · exact .inl ⟨hp.1, by show p.lo < hi; omega, h2⟩
      · omega
    · intro Q' q hq hx
      subst hq
      refine h.ap Q'.length q p ?_ ?_ ⟨hx.1, hg, hx.2.2⟩
      · simp
      · simp
  · rw [e]
    refine h.app (.inl ⟨rfl, h1, h2⟩) ?_
    intro Q p hq hx
    exact hn Q p hq ⟨hx.1, hx.2.2⟩

set_option maxHeartbeats 4000000 in
theorem literal53 {w : World} {fb ps eb xs n lo hi : Nat} {P : List PC} {pf : Nat → Value} (hB : Blk w.heap fb [ptr eb, sl xs 257, i64c n, sl ps 32, i64c P.length] 120) (hP : FB w.heap ps 96 pf 146) (hV : PcV pf P) (hlt : fb < ps) (hr : P.length < 32) :
    Ret Tryz.prog 53 [ptr fb, i64c lo, i64c hi] w (fun v w' => v = .tuple #[] ∧ Blk w'.heap fb [ptr eb, sl xs 257, i64c n, sl ps 32, i64c (litP P lo hi).length] 120 ∧ (∃ pf', FB w'.heap ps 96 pf' 146 ∧ PcV pf' (litP P lo hi)) ∧ Fram (two fb ps) w w') := by
  have hF : Fram (two fb ps) w w := Fram.refl _ _
  have hm1 : two fb ps fb := .inl rfl
  have hm2 : two fb ps ps := .inr rfl
  refine ret_of Tryz.func53 rfl Tryz.ntmps53 rfl ?_
  refine c_seq (fun K1 hK1 => ?_)
  refine c_seq (fun K2 hK2 => ?_)
  have h4 : P = [] ∨ (∃ Q p, P = Q ++ [p] ∧ 0 ≤ p.g) ∨ (∃ Q p, P = Q ++ [p] ∧ p.g < 0 ∧ p.hi ≠ lo) ∨ (∃ Q p, P = Q ++ [p] ∧ p.g < 0 ∧ p.hi = lo) := by
    rcases List.eq_nil_or_concat P with h | ⟨Q, p, h⟩
    · exact .inl h
    · rw [List.concat_eq_append] at h
      rcases Int.lt_or_le p.g 0 with hg | hg
      · by_cases hh : p.hi = lo
        · exact .inr (.inr (.inr ⟨Q, p, h, hg, hh⟩))
        · exact .inr (.inr (.inl ⟨Q, p, h, hg, hh⟩))
      · exact .inr (.inl ⟨Q, p, h, hg⟩)
  rcases h4 with rfl | ⟨Q, p, rfl, hg⟩ | ⟨Q, p, rfl, hg, hh⟩ | ⟨Q, p, rfl, hg, hh⟩
  · skip
    have hlit : litP [] lo hi = [] ++ [⟨lo, hi, -1⟩] := rfl
    refine c_pi [(0, false), (1, false), (2, false), (3, false), (4, false), (5, false), (6, false), (7, false), (8, false), (9, false), (10, false), (11, false), (12, false), (13, false), (14, false), (15, false), (16, false), (17, false), (18, false), (19, false), (20, false), (21, false), (22, false), (23, false), (24, false), (25, false), (26, false), (27, false), (28, false), (29, false), (30, false), (31, false), (32, false), (33, false), (34, false), (35, false)] (SameH _) mixed (by kernel_rfl) rfl (by kernel_rfl) (po_then (po_then (po_bp))) (sameH_now _ _) ?_ -- region 0 tmpl.go:13
    refine pi_ro rfl (fun w hS => ro_move rfl) ?_
    refine pi_ro rfl (fun w hS => ro_nilCheck rfl) ?_
    refine pi_ro rfl (fun w hS => ro_fieldAddr (k := 4) rfl fo_120_4) ?_
    refine pi_ro rfl (fun w hS => ro_loadB rfl sc_3 (Blk.of_heap hB hS) (rfl)) ?_
    refine pi_ro rfl (fun w hS => ro_cmp (r := false) rfl rfl rfl) ?_
    refine pi_ro rfl (fun w hS => ro_move rfl) ?_
    refine pi_gno rfl rfl ?_
    refine pi_gno rfl rfl ?_
    refine pi_gno rfl rfl ?_
    refine pi_gno rfl rfl ?_
    refine pi_gno rfl rfl ?_
    refine pi_gno rfl rfl ?_
    refine pi_gno rfl rfl ?_
    refine pi_gno rfl rfl ?_
    refine pi_gno rfl rfl ?_
    refine pi_gno rfl rfl ?_
    refine pi_gno rfl rfl ?_
    refine pi_gno rfl rfl ?_
    refine pi_gno rfl rfl ?_
    refine pi_ro rfl (fun w hS => ro_pick rfl rfl rfl) ?_
    refine pi_ro rfl (fun w hS => ro_move rfl) ?_
    refine pi_gno rfl rfl ?_
    refine pi_gno rfl rfl ?_
    refine pi_gno rfl rfl ?_
    refine pi_gno rfl rfl ?_
    refine pi_gno rfl rfl ?_
    refine pi_gno rfl rfl ?_
    refine pi_gno rfl rfl ?_
    refine pi_gno rfl rfl ?_
    refine pi_gno rfl rfl ?_
    refine pi_gno rfl rfl ?_
    refine pi_gno rfl rfl ?_
    refine pi_gno rfl rfl ?_
    refine pi_gno rfl rfl ?_
    refine pi_gno rfl rfl ?_
    refine pi_ro rfl (fun w hS => ro_pick rfl rfl rfl) ?_
    refine pi_nil (x_then (hK2 _ _ ?_))
    clear hK2 K2
    refine wc_condF rfl ?_
    refine c_skip (x_then (hK1 _ _ ?_))
    clear hK1 K1
    refine forget [(0, _), (1, _), (2, _)] ⟨rfl, rfl, rfl, trivial⟩ (fun e => ?_)
    refine c_seq (fun K3 hK3 => ?_)
    refine c_piL 12 [(0, false), (1, false), (2, false), (3, false), (4, false), (5, false), (6, false), (7, false), (8, false), (9, false), (10, false), (11, false)] (SameH _) mixed (by kernel_rfl) rfl (by kernel_rfl) (po_then (po_bp)) (sameH_now _ _) ?_ -- region 2 tmpl.go:17
    refine ql_ro rfl (fun w hS => ro_move rfl) ?_
    refine ql_ro rfl (fun w hS => ro_nilCheck rfl) ?_
    refine ql_ro rfl (fun w hS => ro_fieldAddr (k := 3) rfl fo_120_3) ?_
    refine ql_ro rfl (fun w hS => ro_loadB rfl sc_118 (Blk.of_heap hB hS) (rfl)) ?_
    refine ql_ro rfl (fun w hS => ro_move rfl) ?_
    refine ql_ro rfl (fun w hS => ro_nilCheck rfl) ?_
    refine ql_ro rfl (fun w hS => ro_fieldAddr (k := 4) rfl fo_120_4) ?_
    refine ql_ro rfl (fun w hS => ro_loadB rfl sc_3 (Blk.of_heap hB hS) (rfl)) ?_
    refine ql_ro rfl (fun w hS => ro_move rfl) ?_
    refine ql_ro rfl (fun w hS => ro_move rfl) ?_
    refine ql_ro rfl (fun w hS => ro_build rfl bld_146_0_1_2) ?_
    refine ql_ro rfl (fun w hS => ro_indexAddr (et := 146) (k := 3) rfl rfl se_118 (rfl) (hr)) ?_
    refine ql_puta rfl rfl rfl (by simp [Value.oneCell', i64c, u64c, u8c, ptr]) sz_146 (rfl) hP ((by rw [cel_len]; show _ + 3 ≤ _; omega)) ((cel_puts (([] : List PC).length * 3) (by omega) rfl (by show _ + 3 ≤ _; omega))) (fun w1 hP F1 => ?_)
    replace hF := hF.thenDrew.thenO F1 (by first | exact .inr (by omega) | exact .inl rfl | exact .inl (by assumption))
    replace hB := F1.blkO hB (by omega)
    refine x_then (hK3 _ _ ?_)
    clear hK3 K3
    refine c_reg ?_ -- region 3 tmpl.go:18
    refine wl (ro_move rfl) ?_
    refine wl (ro_nilCheck rfl) ?_
    refine wl (ro_fieldAddr (k := 4) rfl fo_120_4) ?_
    refine wl (ro_loadB rfl sc_3 (hB) (rfl)) ?_
    refine wl (ro_arith (r := ((List.length _ + 1 : Nat) : Int)) rfl rfl rfl (Go.IntWalk.i64_in _ (by omega))) ?_
    refine wl (ro_nilCheck rfl) ?_
    refine wl (ro_fieldAddr (k := 4) rfl fo_120_4) ?_
    refine wl_put rfl rfl rfl sz_3 hB ((by simp)) (rfl) (fun w2 hB F2 => ?_)
    replace hF := hF.thenDrew.thenO F2 (by first | exact .inr (by omega) | exact .inl rfl | exact .inl (by assumption))
    replace hP := F2.blkO hP (by omega)
    refine wl_nil ?_
    refine bp_end Tryz.results53 rfl ?_
    rw [hlit]
    exact ⟨rfl, by rw [List.length_append]; exact hB, ⟨_, hP, hV.app ⟨lo, hi, -1⟩⟩, hF⟩
  · skip
    have hlen : (Q ++ [p]).length = Q.length + 1 := by simp
    obtain ⟨hp1, hp2, hp3⟩ := hV Q.length p (by simp)
    have hlit : litP (Q ++ [p]) lo hi = Q ++ [p] ++ [⟨lo, hi, -1⟩] := by unfold litP; simp only [List.getLast?_append, List.getLast?_singleton, Option.some_or]; rw [if_neg (by omega)]
    refine c_pi [(0, false), (1, false), (2, false), (3, false), (4, false), (5, false), (6, false), (7, false), (8, false), (9, false), (10, false), (11, false), (12, false), (13, false), (14, false), (15, false), (16, false), (17, false), (18, false), (19, false), (20, false), (21, false), (22, false), (23, false), (24, false), (25, false), (26, false), (27, false), (28, false), (29, false), (30, false), (31, false), (32, false), (33, false), (34, false), (35, false)] (SameH _) mixed (by kernel_rfl) rfl (by kernel_rfl) (po_then (po_then (po_bp))) (sameH_now _ _) ?_ -- region 0 tmpl.go:13
    refine pi_ro rfl (fun w hS => ro_move rfl) ?_
    refine pi_ro rfl (fun w hS => ro_nilCheck rfl) ?_
    refine pi_ro rfl (fun w hS => ro_fieldAddr (k := 4) rfl fo_120_4) ?_
    refine pi_ro rfl (fun w hS => ro_loadB rfl sc_3 (Blk.of_heap hB hS) (rfl)) ?_
    refine pi_ro rfl (fun w hS => ro_cmp (r := true) rfl rfl (congrArg some (decide_eq_true (by rw [hlen]; show ((Q.length + 1 : Nat) : Int) > 0; omega)))) ?_
    refine pi_ro rfl (fun w hS => ro_move rfl) ?_
    refine pi_gyes rfl rfl (fun w hS => ro_move rfl) ?_
    refine pi_gyes rfl rfl (fun w hS => ro_nilCheck rfl) ?_
    refine pi_gyes rfl rfl (fun w hS => ro_fieldAddr (k := 3) rfl fo_120_3) ?_
    refine pi_gyes rfl rfl (fun w hS => ro_loadB rfl sc_118 (Blk.of_heap hB hS) (rfl)) ?_
    refine pi_gyes rfl rfl (fun w hS => ro_move rfl) ?_
    refine pi_gyes rfl rfl (fun w hS => ro_nilCheck rfl) ?_
    refine pi_gyes rfl rfl (fun w hS => ro_fieldAddr (k := 4) rfl fo_120_4) ?_
    refine pi_gyes rfl rfl (fun w hS => ro_loadB rfl sc_3 (Blk.of_heap hB hS) (rfl)) ?_
    refine pi_gyes rfl rfl (fun w hS => ro_arith (r := (Q.length : Int)) rfl rfl (congrArg some (by rw [hlen]; omega)) (Go.IntWalk.i64_in _ (by omega))) ?_
    refine pi_gyes rfl rfl (fun w hS => ro_indexAddr (et := 146) (k := 3) rfl rfl se_118 (rfl) ((by omega : Q.length < 32))) ?_
    refine pi_gyes rfl rfl (fun w hS => ro_fieldAddr (k := 2) rfl fo_146_2) ?_
    refine pi_gyes rfl rfl (fun w hS => ro_loadB rfl sc_3 (Blk.of_heap hP hS) (cel_at (by omega) (by omega) hp3)) ?_
    refine pi_gyes rfl rfl (fun w hS => ro_cmp (r := false) rfl rfl (congrArg some (decide_eq_false (by omega)))) ?_
    refine pi_ro rfl (fun w hS => ro_pick rfl rfl rfl) ?_
    refine pi_ro rfl (fun w hS => ro_move rfl) ?_
    refine pi_gno rfl rfl ?_
    refine pi_gno rfl rfl ?_
    refine pi_gno rfl rfl ?_
    refine pi_gno rfl rfl ?_
    refine pi_gno rfl rfl ?_
    refine pi_gno rfl rfl ?_
    refine pi_gno rfl rfl ?_
    refine pi_gno rfl rfl ?_
    refine pi_gno rfl rfl ?_
    refine pi_gno rfl rfl ?_
    refine pi_gno rfl rfl ?_
    refine pi_gno rfl rfl ?_
    refine pi_gno rfl rfl ?_
    refine pi_gno rfl rfl ?_
    refine pi_ro rfl (fun w hS => ro_pick rfl rfl rfl) ?_
    refine pi_nil (x_then (hK2 _ _ ?_))
    clear hK2 K2
    refine wc_condF rfl ?_
    refine c_skip (x_then (hK1 _ _ ?_))
    clear hK1 K1
    refine forget [(0, _), (1, _), (2, _)] ⟨rfl, rfl, rfl, trivial⟩ (fun e => ?_)
    refine c_seq (fun K4 hK4 => ?_)
    refine c_piL 12 [(0, false), (1, false), (2, false), (3, false), (4, false), (5, false), (6, false), (7, false), (8, false), (9, false), (10, false), (11, false)] (SameH _) mixed (by kernel_rfl) rfl (by kernel_rfl) (po_then (po_bp)) (sameH_now _ _) ?_ -- region 2 tmpl.go:17
    refine ql_ro rfl (fun w hS => ro_move rfl) ?_
    refine ql_ro rfl (fun w hS => ro_nilCheck rfl) ?_
    refine ql_ro rfl (fun w hS => ro_fieldAddr (k := 3) rfl fo_120_3) ?_
    refine ql_ro rfl (fun w hS => ro_loadB rfl sc_118 (Blk.of_heap hB hS) (rfl)) ?_
    refine ql_ro rfl (fun w hS => ro_move rfl) ?_
    refine ql_ro rfl (fun w hS => ro_nilCheck rfl) ?_
    refine ql_ro rfl (fun w hS => ro_fieldAddr (k := 4) rfl fo_120_4) ?_
    refine ql_ro rfl (fun w hS => ro_loadB rfl sc_3 (Blk.of_heap hB hS) (rfl)) ?_
    refine ql_ro rfl (fun w hS => ro_move rfl) ?_
    refine ql_ro rfl (fun w hS => ro_move rfl) ?_
    refine ql_ro rfl (fun w hS => ro_build rfl bld_146_0_1_2) ?_
    refine ql_ro rfl (fun w hS => ro_indexAddr (et := 146) (k := 3) rfl rfl se_118 (rfl) (hr)) ?_
    refine ql_puta rfl rfl rfl (by simp [Value.oneCell', i64c, u64c, u8c, ptr]) sz_146 (rfl) hP ((by rw [cel_len]; show _ + 3 ≤ _; omega)) ((cel_puts ((Q ++ [p]).length * 3) (by omega) rfl (by show _ + 3 ≤ _; omega))) (fun w3 hP F3 => ?_)
    replace hF := hF.thenDrew.thenO F3 (by first | exact .inr (by omega) | exact .inl rfl | exact .inl (by assumption))
    replace hB := F3.blkO hB (by omega)
    refine x_then (hK4 _ _ ?_)
    clear hK4 K4
    refine c_reg ?_ -- region 3 tmpl.go:18
    refine wl (ro_move rfl) ?_
    refine wl (ro_nilCheck rfl) ?_
    refine wl (ro_fieldAddr (k := 4) rfl fo_120_4) ?_
    refine wl (ro_loadB rfl sc_3 (hB) (rfl)) ?_
    refine wl (ro_arith (r := ((List.length _ + 1 : Nat) : Int)) rfl rfl rfl (Go.IntWalk.i64_in _ (by omega))) ?_
    refine wl (ro_nilCheck rfl) ?_
    refine wl (ro_fieldAddr (k := 4) rfl fo_120_4) ?_
    refine wl_put rfl rfl rfl sz_3 hB ((by simp)) (rfl) (fun w4 hB F4 => ?_)
    replace hF := hF.thenDrew.thenO F4 (by first | exact .inr (by omega) | exact .inl rfl | exact .inl (by assumption))
    replace hP := F4.blkO hP (by omega)
    refine wl_nil ?_
    refine bp_end Tryz.results53 rfl ?_
    rw [hlit]
    exact ⟨rfl, by rw [List.length_append]; exact hB, ⟨_, hP, hV.app ⟨lo, hi, -1⟩⟩, hF⟩
  · skip
    have hlen : (Q ++ [p]).length = Q.length + 1 := by simp
    obtain ⟨hp1, hp2, hp3⟩ := hV Q.length p (by simp)
    have hlit : litP (Q ++ [p]) lo hi = Q ++ [p] ++ [⟨lo, hi, -1⟩] := by unfold litP; simp only [List.getLast?_append, List.getLast?_singleton, Option.some_or]; rw [if_neg (by omega)]
    refine c_pi [(0, false), (1, false), (2, false), (3, false), (4, false), (5, false), (6, false), (7, false), (8, false), (9, false), (10, false), (11, false), (12, false), (13, false), (14, false), (15, false), (16, false), (17, false), (18, false), (19, false), (20, false), (21, false), (22, false), (23, false), (24, false), (25, false), (26, false), (27, false), (28, false), (29, false), (30, false), (31, false), (32, false), (33, false), (34, false), (35, false)] (SameH _) mixed (by kernel_rfl) rfl (by kernel_rfl) (po_then (po_then (po_bp))) (sameH_now _ _) ?_ -- region 0 tmpl.go:13
    refine pi_ro rfl (fun w hS => ro_move rfl) ?_
    refine pi_ro rfl (fun w hS => ro_nilCheck rfl) ?_
    refine pi_ro rfl (fun w hS => ro_fieldAddr (k := 4) rfl fo_120_4) ?_
    refine pi_ro rfl (fun w hS => ro_loadB rfl sc_3 (Blk.of_heap hB hS) (rfl)) ?_
    refine pi_ro rfl (fun w hS => ro_cmp (r := true) rfl rfl (congrArg some (decide_eq_true (by rw [hlen]; show ((Q.length + 1 : Nat) : Int) > 0; omega)))) ?_
    refine pi_ro rfl (fun w hS => ro_move rfl) ?_
    refine pi_gyes rfl rfl (fun w hS => ro_move rfl) ?_
    refine pi_gyes rfl rfl (fun w hS => ro_nilCheck rfl) ?_
    refine pi_gyes rfl rfl (fun w hS => ro_fieldAddr (k := 3) rfl fo_120_3) ?_
    refine pi_gyes rfl rfl (fun w hS => ro_loadB rfl sc_118 (Blk.of_heap hB hS) (rfl)) ?_
    refine pi_gyes rfl rfl (fun w hS => ro_move rfl) ?_
    refine pi_gyes rfl rfl (fun w hS => ro_nilCheck rfl) ?_
    refine pi_gyes rfl rfl (fun w hS => ro_fieldAddr (k := 4) rfl fo_120_4) ?_
    refine pi_gyes rfl rfl (fun w hS => ro_loadB rfl sc_3 (Blk.of_heap hB hS) (rfl)) ?_
    refine pi_gyes rfl rfl (fun w hS => ro_arith (r := (Q.length : Int)) rfl rfl (congrArg some (by rw [hlen]; omega)) (Go.IntWalk.i64_in _ (by omega))) ?_
    refine pi_gyes rfl rfl (fun w hS => ro_indexAddr (et := 146) (k := 3) rfl rfl se_118 (rfl) ((by omega : Q.length < 32))) ?_
    refine pi_gyes rfl rfl (fun w hS => ro_fieldAddr (k := 2) rfl fo_146_2) ?_
    refine pi_gyes rfl rfl (fun w hS => ro_loadB rfl sc_3 (Blk.of_heap hP hS) (cel_at (by omega) (by omega) hp3)) ?_
    refine pi_gyes rfl rfl (fun w hS => ro_cmp (r := true) rfl rfl (congrArg some (decide_eq_true hg))) ?_
    refine pi_ro rfl (fun w hS => ro_pick rfl rfl rfl) ?_
    refine pi_ro rfl (fun w hS => ro_move rfl) ?_
    refine pi_gyes rfl rfl (fun w hS => ro_move rfl) ?_
    refine pi_gyes rfl rfl (fun w hS => ro_nilCheck rfl) ?_
    refine pi_gyes rfl rfl (fun w hS => ro_fieldAddr (k := 3) rfl fo_120_3) ?_
    refine pi_gyes rfl rfl (fun w hS => ro_loadB rfl sc_118 (Blk.of_heap hB hS) (rfl)) ?_
    refine pi_gyes rfl rfl (fun w hS => ro_move rfl) ?_
    refine pi_gyes rfl rfl (fun w hS => ro_nilCheck rfl) ?_
    refine pi_gyes rfl rfl (fun w hS => ro_fieldAddr (k := 4) rfl fo_120_4) ?_
    refine pi_gyes rfl rfl (fun w hS => ro_loadB rfl sc_3 (Blk.of_heap hB hS) (rfl)) ?_
    refine pi_gyes rfl rfl (fun w hS => ro_arith (r := (Q.length : Int)) rfl rfl (congrArg some (by rw [hlen]; omega)) (Go.IntWalk.i64_in _ (by omega))) ?_
    refine pi_gyes rfl rfl (fun w hS => ro_indexAddr (et := 146) (k := 3) rfl rfl se_118 (rfl) ((by omega : Q.length < 32))) ?_
    refine pi_gyes rfl rfl (fun w hS => ro_fieldAddr (k := 1) rfl fo_146_1) ?_
    refine pi_gyes rfl rfl (fun w hS => ro_loadB rfl sc_3 (Blk.of_heap hP hS) (cel_at (by omega) (by omega) hp2)) ?_
    refine pi_gyes rfl rfl (fun w hS => ro_move rfl) ?_
    refine pi_gyes rfl rfl (fun w hS => ro_cmp (r := false) rfl rfl (congrArg some ((beqc p.hi lo).trans (decide_eq_false hh)))) ?_
    refine pi_ro rfl (fun w hS => ro_pick rfl rfl rfl) ?_
    refine pi_nil (x_then (hK2 _ _ ?_))
    clear hK2 K2
    refine wc_condF rfl ?_
    refine c_skip (x_then (hK1 _ _ ?_))
    clear hK1 K1
    refine forget [(0, _), (1, _), (2, _)] ⟨rfl, rfl, rfl, trivial⟩ (fun e => ?_)
    refine c_seq (fun K5 hK5 => ?_)
    refine c_piL 12 [(0, false), (1, false), (2, false), (3, false), (4, false), (5, false), (6, false), (7, false), (8, false), (9, false), (10, false), (11, false)] (SameH _) mixed (by kernel_rfl) rfl (by kernel_rfl) (po_then (po_bp)) (sameH_now _ _) ?_ -- region 2 tmpl.go:17
    refine ql_ro rfl (fun w hS => ro_move rfl) ?_
    refine ql_ro rfl (fun w hS => ro_nilCheck rfl) ?_
    refine ql_ro rfl (fun w hS => ro_fieldAddr (k := 3) rfl fo_120_3) ?_
    refine ql_ro rfl (fun w hS => ro_loadB rfl sc_118 (Blk.of_heap hB hS) (rfl)) ?_
    refine ql_ro rfl (fun w hS => ro_move rfl) ?_
    refine ql_ro rfl (fun w hS => ro_nilCheck rfl) ?_
    refine ql_ro rfl (fun w hS => ro_fieldAddr (k := 4) rfl fo_120_4) ?_
    refine ql_ro rfl (fun w hS => ro_loadB rfl sc_3 (Blk.of_heap hB hS) (rfl)) ?_
    refine ql_ro rfl (fun w hS => ro_move rfl) ?_
    refine ql_ro rfl (fun w hS => ro_move rfl) ?_
    refine ql_ro rfl (fun w hS => ro_build rfl bld_146_0_1_2) ?_
    refine ql_ro rfl (fun w hS => ro_indexAddr (et := 146) (k := 3) rfl rfl se_118 (rfl) (hr)) ?_
    refine ql_puta rfl rfl rfl (by simp [Value.oneCell', i64c, u64c, u8c, ptr]) sz_146 (rfl) hP ((by rw [cel_len]; show _ + 3 ≤ _; omega)) ((cel_puts ((Q ++ [p]).length * 3) (by omega) rfl (by show _ + 3 ≤ _; omega))) (fun w5 hP F5 => ?_)
    replace hF := hF.thenDrew.thenO F5 (by first | exact .inr (by omega) | exact .inl rfl | exact .inl (by assumption))
    replace hB := F5.blkO hB (by omega)
    refine x_then (hK5 _ _ ?_)
    clear hK5 K5
    refine c_reg ?_ -- region 3 tmpl.go:18
    refine wl (ro_move rfl) ?_
    refine wl (ro_nilCheck rfl) ?_
    refine wl (ro_fieldAddr (k := 4) rfl fo_120_4) ?_
    refine wl (ro_loadB rfl sc_3 (hB) (rfl)) ?_
    refine wl (ro_arith (r := ((List.length _ + 1 : Nat) : Int)) rfl rfl rfl (Go.IntWalk.i64_in _ (by omega))) ?_
    refine wl (ro_nilCheck rfl) ?_
    refine wl (ro_fieldAddr (k := 4) rfl fo_120_4) ?_
    refine wl_put rfl rfl rfl sz_3 hB ((by simp)) (rfl) (fun w6 hB F6 => ?_)
    replace hF := hF.thenDrew.thenO F6 (by first | exact .inr (by omega) | exact .inl rfl | exact .inl (by assumption))
    replace hP := F6.blkO hP (by omega)
    refine wl_nil ?_
    refine bp_end Tryz.results53 rfl ?_
    rw [hlit]
    exact ⟨rfl, by rw [List.length_append]; exact hB, ⟨_, hP, hV.app ⟨lo, hi, -1⟩⟩, hF⟩
  · skip
    have hlen : (Q ++ [p]).length = Q.length + 1 := by simp
    obtain ⟨hp1, hp2, hp3⟩ := hV Q.length p (by simp)
    have hlit : litP (Q ++ [p]) lo hi = Q ++ [⟨p.lo, hi, p.g⟩] := by unfold litP; simp only [List.getLast?_append, List.getLast?_singleton, Option.some_or]; rw [if_pos ⟨hg, hh⟩, List.dropLast_concat]
    refine c_pi [(0, false), (1, false), (2, false), (3, false), (4, false), (5, false), (6, false), (7, false), (8, false), (9, false), (10, false), (11, false), (12, false), (13, false), (14, false), (15, false), (16, false), (17, false), (18, false), (19, false), (20, false), (21, false), (22, false), (23, false), (24, false), (25, false), (26, false), (27, false), (28, false), (29, false), (30, false), (31, false), (32, false), (33, false), (34, false), (35, false)] (SameH _) mixed (by kernel_rfl) rfl (by kernel_rfl) (po_then (po_then (po_bp))) (sameH_now _ _) ?_ -- region 0 tmpl.go:13
    refine pi_ro rfl (fun w hS => ro_move rfl) ?_
    refine pi_ro rfl (fun w hS => ro_nilCheck rfl) ?_
    refine pi_ro rfl (fun w hS => ro_fieldAddr (k := 4) rfl fo_120_4) ?_
    refine pi_ro rfl (fun w hS => ro_loadB rfl sc_3 (Blk.of_heap hB hS) (rfl)) ?_
    refine pi_ro rfl (fun w hS => ro_cmp (r := true) rfl rfl (congrArg some (decide_eq_true (by rw [hlen]; show ((Q.length + 1 : Nat) : Int) > 0; omega)))) ?_
    refine pi_ro rfl (fun w hS => ro_move rfl) ?_
    refine pi_gyes rfl rfl (fun w hS => ro_move rfl) ?_
    refine pi_gyes rfl rfl (fun w hS => ro_nilCheck rfl) ?_
    refine pi_gyes rfl rfl (fun w hS => ro_fieldAddr (k := 3) rfl fo_120_3) ?_
    refine pi_gyes rfl rfl (fun w hS => ro_loadB rfl sc_118 (Blk.of_heap hB hS) (rfl)) ?_
    refine pi_gyes rfl rfl (fun w hS => ro_move rfl) ?_
    refine pi_gyes rfl rfl (fun w hS => ro_nilCheck rfl) ?_
    refine pi_gyes rfl rfl (fun w hS => ro_fieldAddr (k := 4) rfl fo_120_4) ?_
    refine pi_gyes rfl rfl (fun w hS => ro_loadB rfl sc_3 (Blk.of_heap hB hS) (rfl)) ?_
    refine pi_gyes rfl rfl (fun w hS => ro_arith (r := (Q.length : Int)) rfl rfl (congrArg some (by rw [hlen]; omega)) (Go.IntWalk.i64_in _ (by omega))) ?_
    refine pi_gyes rfl rfl (fun w hS => ro_indexAddr (et := 146) (k := 3) rfl rfl se_118 (rfl) ((by omega : Q.length < 32))) ?_
    refine pi_gyes rfl rfl (fun w hS => ro_fieldAddr (k := 2) rfl fo_146_2) ?_
    refine pi_gyes rfl rfl (fun w hS => ro_loadB rfl sc_3 (Blk.of_heap hP hS) (cel_at (by omega) (by omega) hp3)) ?_
    refine pi_gyes rfl rfl (fun w hS => ro_cmp (r := true) rfl rfl (congrArg some (decide_eq_true hg))) ?_
    refine pi_ro rfl (fun w hS => ro_pick rfl rfl rfl) ?_
    refine pi_ro rfl (fun w hS => ro_move rfl) ?_
    refine pi_gyes rfl rfl (fun w hS => ro_move rfl) ?_
    refine pi_gyes rfl rfl (fun w hS => ro_nilCheck rfl) ?_
    refine pi_gyes rfl rfl (fun w hS => ro_fieldAddr (k := 3) rfl fo_120_3) ?_
    refine pi_gyes rfl rfl (fun w hS => ro_loadB rfl sc_118 (Blk.of_heap hB hS) (rfl)) ?_
    refine pi_gyes rfl rfl (fun w hS => ro_move rfl) ?_
    refine pi_gyes rfl rfl (fun w hS => ro_nilCheck rfl) ?_
    refine pi_gyes rfl rfl (fun w hS => ro_fieldAddr (k := 4) rfl fo_120_4) ?_
    refine pi_gyes rfl rfl (fun w hS => ro_loadB rfl sc_3 (Blk.of_heap hB hS) (rfl)) ?_
    refine pi_gyes rfl rfl (fun w hS => ro_arith (r := (Q.length : Int)) rfl rfl (congrArg some (by rw [hlen]; omega)) (Go.IntWalk.i64_in _ (by omega))) ?_
    refine pi_gyes rfl rfl (fun w hS => ro_indexAddr (et := 146) (k := 3) rfl rfl se_118 (rfl) ((by omega : Q.length < 32))) ?_
    refine pi_gyes rfl rfl (fun w hS => ro_fieldAddr (k := 1) rfl fo_146_1) ?_
    refine pi_gyes rfl rfl (fun w hS => ro_loadB rfl sc_3 (Blk.of_heap hP hS) (cel_at (by omega) (by omega) hp2)) ?_
    refine pi_gyes rfl rfl (fun w hS => ro_move rfl) ?_
    refine pi_gyes rfl rfl (fun w hS => ro_cmp (r := true) rfl rfl (congrArg some ((beqc p.hi lo).trans (decide_eq_true hh)))) ?_
    refine pi_ro rfl (fun w hS => ro_pick rfl rfl rfl) ?_
    refine pi_nil (x_then (hK2 _ _ ?_))
    clear hK2 K2
    refine wc_condT rfl ?_
    refine c_seq (fun K6 hK6 => ?_)
    refine c_piL 12 [(0, false), (1, false), (2, false), (3, false), (4, false), (5, false), (6, false), (7, false), (8, false), (9, false), (10, false), (11, false)] (SameH _) mixed (by kernel_rfl) rfl (by kernel_rfl) (po_then (po_then (po_bp))) (sameH_now _ _) ?_ -- region 1 tmpl.go:14
    refine ql_ro rfl (fun w hS => ro_move rfl) ?_
    refine ql_ro rfl (fun w hS => ro_nilCheck rfl) ?_
    refine ql_ro rfl (fun w hS => ro_fieldAddr (k := 3) rfl fo_120_3) ?_
    refine ql_ro rfl (fun w hS => ro_loadB rfl sc_118 (Blk.of_heap hB hS) (rfl)) ?_
    refine ql_ro rfl (fun w hS => ro_move rfl) ?_
    refine ql_ro rfl (fun w hS => ro_nilCheck rfl) ?_
    refine ql_ro rfl (fun w hS => ro_fieldAddr (k := 4) rfl fo_120_4) ?_
    refine ql_ro rfl (fun w hS => ro_loadB rfl sc_3 (Blk.of_heap hB hS) (rfl)) ?_
    refine ql_ro rfl (fun w hS => ro_arith (r := (Q.length : Int)) rfl rfl (congrArg some (by rw [hlen]; omega)) (Go.IntWalk.i64_in _ (by omega))) ?_
    refine ql_ro rfl (fun w hS => ro_move rfl) ?_
    refine ql_ro rfl (fun w hS => ro_indexAddr (et := 146) (k := 3) rfl rfl se_118 (rfl) ((by omega : Q.length < 32))) ?_
    refine ql_ro rfl (fun w hS => ro_fieldAddr (k := 1) rfl fo_146_1) ?_
    refine ql_put rfl rfl rfl rfl sz_3 hP ((cel_lt (by omega))) ((cel_put (Q.length * 3 + 1) (by omega))) (fun w7 hP F7 => ?_)
    replace hF := hF.thenDrew.thenO F7 (by first | exact .inr (by omega) | exact .inl rfl | exact .inl (by assumption))
    replace hB := F7.blkO hB (by omega)
    refine x_then (hK6 _ _ ?_)
    clear hK6 K6
    refine c_ret (x_thenR ?_)
    refine bp_ret Tryz.results53 rfl ?_
    rw [hlit]
    exact ⟨rfl, by rw [List.length_append] at hB ⊢; exact hB, ⟨_, hP, hV.last⟩, hF⟩

end Go.Proofs.Qxb6500567aGreat
