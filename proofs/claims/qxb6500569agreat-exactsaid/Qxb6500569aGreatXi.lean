import Derived.Test.Qxb6500569aGreatXh
/- The real machine: Next. -/
namespace Go.Proofs.Qxb6500569aGreat
set_option linter.unusedVariables false
set_option linter.unusedSimpArgs false

theorem ro_b2sE {P : Program} {n : Nat} {e : Nat → Option Value} {w : World} {src dst et : Nat} {x : Operand} {bs : List UInt8} (h0 : bs = []) (hx : evO n e x = some (.slice none 0 0)) (hs : selB P src et 1 = true) (he : intB P et .u8 = true) (hd : strB P dst = true) : RO P n e w (.convert src dst x) (S bs) := by
  subst h0; exact ro_b2sN hx hs he hd

theorem str_tried {cls : List Cl2} {fuel : Nat} : ∀ (L : List An) (E : Nat × Nat × Nat) (b : Bool) (ms : Ms), Str cls fuel L E (Yield cls fuel b ms) → ms.tried ≤ E.2.2
  | [], E, b, ms, h => by
    obtain ⟨e, s', ⟨n, hn⟩, h1, h2, _⟩ := h
    have := (mrun_mono _ _ _ _ hn).2
    simp only at this
    omega
  | a :: L, E, b, ms, h => by
    obtain ⟨s', ⟨n, hn⟩, h1, h2, h3⟩ := h
    have := (mrun_mono _ _ _ _ hn).2
    simp only at this
    have := str_tried L E true s' h3
    omega

/-- The machine behind an answer. -/
structure Ans (s : RSt) (K : List Ch) : Prop where
  ct : s.cont = -1
  ps : ∀ q ∈ s.chs, q.pr < s.proof.length
  kh : ∀ c ∈ K, c.hp.length ≤ s.hp.length
  ft : Fit s.frs s.hp.length

/-- The answers to come of an open machine. -/
def Strm (s : RSt) (L : List An) (E : Nat × Nat × Nat) : Prop :=
  (s.given = 0 ∧ ∃ ms, RunOK s ms ∧ Str s.cls s.fuel L E (Yield s.cls s.fuel false ms)) ∨ (0 < s.given ∧ ∃ K, BackOK s K ∧ Ans s K ∧ Str s.cls s.fuel L E (Yield s.cls s.fuel true (back K s.inf s.tried)))

def OutOK (cls : List Cl2) (fuel : Nat) (L : List An) (E : Nat × Nat × Nat) (out : Nat × Ms) : Prop :=
  (L = [] ∧ out.2.inf = E.2.1 ∧ out.2.tried = E.2.2 ∧ ((out.1 ≠ 0 ∧ out.1 = E.1) ∨ (out.1 = 0 ∧ (putF 49 out.2.hp 0 [] []).1 = false ∧ E.1 = 8))) ∨
  (∃ a L', L = a :: L' ∧ out.1 = 0 ∧ (putF 49 out.2.hp 0 [] []).1 = true ∧ a = (0, out.2.inf, out.2.tried, ansT out.2) ∧ Str cls fuel L' E (Yield cls fuel true out.2))

theorem str_out {cls : List Cl2} {fuel : Nat} {L : List An} {E : Nat × Nat × Nat} {Y : Nat × Ms → Prop} (h : Str cls fuel L E Y) : ∃ out, Y out ∧ out.2.tried ≤ E.2.2 ∧ OutOK cls fuel L E out := by
  cases L with
  | nil =>
    obtain ⟨e, s', hY, h1, h2, h3⟩ := h
    exact ⟨(e, s'), hY, by simp only; omega, .inl ⟨rfl, h1, h2, h3⟩⟩
  | cons a L =>
    obtain ⟨s', hY, h1, h2, h3⟩ := h
    exact ⟨(0, s'), hY, str_tried L E true s' h3, .inr ⟨a, L, rfl, rfl, h1, h2, h3⟩⟩

theorem strm_out {s : RSt} {L : List An} {E : Nat × Nat × Nat} (h : Strm s L E) : ∃ b n out, ((b = true ∧ 0 < s.given) ∨ (b = false ∧ s.given = 0)) ∧ RunPre s.cls s.fuel s b n out ∧ out.2.tried ≤ E.2.2 ∧ OutOK s.cls s.fuel L E out := by
  rcases h with ⟨hg, ms, hR, hs⟩ | ⟨hg, K, hK, _, hs⟩
  · obtain ⟨out, ⟨n, hn⟩, h2, h3⟩ := str_out hs
    exact ⟨false, n, out, .inr ⟨rfl, hg⟩, .inl ⟨rfl, ms, hR, hn⟩, h2, h3⟩
  · obtain ⟨out, ⟨n, hn⟩, h2, h3⟩ := str_out hs
    exact ⟨true, n, out, .inl ⟨rfl, hg⟩, .inr ⟨rfl, K, hK, hn⟩, h2, h3⟩

def NextPost (F : Nat → Prop) (sb : Nat) (s : RSt) (L : List An) (E : Nat × Nat × Nat) (w : World) (r : Value) (w' : World) : Prop :=
  ∃ (a : An) (s' : RSt), (L ++ [(E.1, E.2.1, E.2.2, [])]).head? = some a ∧ r = .tuple #[S a.2.2.2, i64c a.2.1, i64c a.2.2.1, i64c a.1] ∧ RPostF F sb s' w w' ∧ s'.cls = s.cls ∧ s'.q = s.q ∧ s'.fuel = s.fuel ∧ s'.given = s.given + 1 ∧
    ((L = [] ∧ s'.opn = false ∧ s'.frs = [] ∧ s'.chs = [] ∧ s'.proof = [] ∧ s'.cont = -1) ∨ (∃ L', L = a :: L' ∧ s'.opn = true ∧ Strm s' L' E ∧ a.1 = 0))

theorem Next24i {w : World} {sb : Nat} {s : RSt} {F : Nat → Prop} (M : RAll w.heap sb s F) (ho : s.opn = false) :
    Ret Tryz.prog 24 [ptr sb] w (fun r w' => r = .tuple #[S [], i64c 0, i64c 0, i64c 3] ∧ w' = w) := by
  obtain ⟨L, pb, V, Fp, M, ok, hF⟩ := M
  have hB := M.blk
  simp only [ho] at hB
  refine ret_of Tryz.func24 rfl Tryz.ntmps24 rfl ?_
  refine c_seq (fun K1 hK1 => ?_)
  refine c_reg ?_ -- region 0 solve.go:105
  refine wl (ro_assign rfl) ?_
  refine wl (ro_assign rfl) ?_
  refine wl (ro_assign rfl) ?_
  refine wl (ro_assign rfl) ?_
  refine wl_nil (x_then (hK1 _ _ ?_))
  clear hK1 K1
  refine c_seq (fun K2 hK2 => ?_)
  refine c_seq (fun K3 hK3 => ?_)
  refine c_reg ?_ -- region 1 solve.go:106
  refine wl (ro_move rfl) ?_
  refine wl (ro_nilCheck rfl) ?_
  refine wl (ro_fieldAddr (k := 2) rfl fo_82_2) ?_
  refine wl (ro_loadB rfl sc_4 (by assumption) rfl) ?_
  refine wl (ro_not rfl) ?_
  refine wl_nil (x_then (hK3 _ _ ?_))
  clear hK3 K3
  refine wc_condT rfl ?_
  refine c_seq (fun K4 hK4 => ?_)
  refine c_reg ?_ -- region 2 solve.go:107
  refine wl (ro_assign rfl) ?_
  refine wl (ro_assign rfl) ?_
  refine wl (ro_assign rfl) ?_
  refine wl (ro_assign rfl) ?_
  refine wl_nil (x_then (hK4 _ _ ?_))
  clear hK4 K4
  refine c_ret (x_thenR ?_)
  refine bp_ret Tryz.results24 rfl ?_
  exact ⟨rfl, rfl⟩

set_option maxHeartbeats 2000000 in
theorem Next24 {w : World} {sb : Nat} {s : RSt} {F : Nat → Prop} (M : RAll w.heap sb s F) (ho : s.opn = true) {An : List An} {E : Nat × Nat × Nat} (hst : Strm s An E) (hfu : s.fuel ≤ 24) (hE : E.2.2 ≤ 1000000) (hE0 : E.1 ≠ 0) (hg : s.given ≤ 1000) :
    Ret Tryz.prog 24 [ptr sb] w (NextPost F sb s An E w) := by
  obtain ⟨L, pb, V, Fp, M, ok, hF⟩ := M
  have hB := M.blk
  simp only [ho] at hB
  obtain ⟨b, n, out, hb, pre, htr, hout⟩ := strm_out hst
  clear hst
  refine ret_of Tryz.func24 rfl Tryz.ntmps24 rfl ?_
  refine c_seq (fun K1 hK1 => ?_)
  refine c_reg ?_ -- region 0 solve.go:105
  refine wl (ro_assign rfl) ?_
  refine wl (ro_assign rfl) ?_
  refine wl (ro_assign rfl) ?_
  refine wl (ro_assign rfl) ?_
  refine wl_nil (x_then (hK1 _ _ ?_))
  clear hK1 K1
  refine c_seq (fun K2 hK2 => ?_)
  refine c_seq (fun K3 hK3 => ?_)
  refine c_reg ?_ -- region 1 solve.go:106
  refine wl (ro_move rfl) ?_
  refine wl (ro_nilCheck rfl) ?_
  refine wl (ro_fieldAddr (k := 2) rfl fo_82_2) ?_
  refine wl (ro_loadB rfl sc_4 (by assumption) rfl) ?_
  refine wl (ro_not rfl) ?_
  refine wl_nil (x_then (hK3 _ _ ?_))
  clear hK3 K3
  refine wc_condF rfl ?_
  refine c_skip (x_then (hK2 _ _ ?_))
  clear hK2 K2
  refine forget [(0, _)] ⟨rfl, trivial⟩ (fun e => ?_)
  refine c_seq (fun K4 hK4 => ?_)
  refine c_reg ?_ -- region 3 solve.go:109
  refine wl (ro_move rfl) ?_
  refine wl (ro_move rfl) ?_
  refine wl (ro_nilCheck rfl) ?_
  refine wl (ro_fieldAddr (k := 5) rfl fo_82_5) ?_
  refine wl (ro_loadB rfl sc_3 (by assumption) rfl) ?_
  refine wl (ro_cmp (r := b) rfl rfl (by rcases hb with ⟨rfl, h⟩ | ⟨rfl, h⟩ <;> simp <;> omega)) ?_
  refine wl_call rfl en_41 (run41 M ok hfu pre (by omega)) ?_
  rintro _ w1 ⟨rfl, V1, s1, hI, hinf, htr1, hrun⟩
  have T1 := hI.stp
  have hB1 := T1.m.blk
  obtain ⟨c1, c2, c3, c4, c5⟩ := hI.cst
  refine wl (ro_assign rfl) ?_
  refine wl_nil (x_then (hK4 _ _ ?_))
  clear hK4 K4
  refine forget [(0, _), (6, _)] ⟨rfl, rfl, trivial⟩ (fun e => ?_)
  refine c_seq (fun K5 hK5 => ?_)
  refine c_reg ?_ -- region 4 solve.go:110
  refine wl (ro_move rfl) ?_
  refine wl (ro_nilCheck rfl) ?_
  refine wl (ro_fieldAddr (k := 5) rfl fo_82_5) ?_
  refine wl (ro_loadB rfl sc_3 (hB1) rfl) ?_
  refine wl (ro_arith rfl rfl rfl (Go.IntWalk.i64_in _ (by omega))) ?_
  refine wl (ro_nilCheck rfl) ?_
  refine wl (ro_fieldAddr (k := 5) rfl fo_82_5) ?_
  refine wls (so_storeB rfl rfl rfl sz_3 (hB1) (by simp)) ?_
  have T2 := T1.trans (T1.m.upS { s1 with given := s1.given + 1 } rfl rfl rfl rfl rfl rfl)
  refine gen1 (A := fun w2 => Stp w w2 sb L pb V V1 { s1 with given := s1.given + 1 } Fp) (C := fun w2 => WL _ _ _ _ _ w2) T2 ?_
  clear T2 T1 hB1 hI
  intro w2 T2
  have hB2 := T2.m.blk
  have ok1 : POK s1.cls := c1 ▸ ok
  refine wl_nil (x_then (hK5 _ _ ?_))
  clear hK5 K5
  refine forget [(0, _), (6, _)] ⟨rfl, rfl, trivial⟩ (fun e => ?_)
  refine c_seq (fun K6 hK6 => ?_)
  refine c_reg ?_ -- region 5 solve.go:111
  refine wl (ro_assign rfl) ?_
  refine wl_nil (x_then (hK6 _ _ ?_))
  clear hK6 K6
  refine c_seq (fun K7 hK7 => ?_)
  refine c_seq (fun K8 hK8 => ?_)
  refine c_reg ?_ -- region 6 solve.go:112
  refine wl (ro_move rfl) ?_
  refine wl (ro_cmp rfl rfl rfl) ?_
  refine wl_nil (x_then (hK8 _ _ ?_))
  clear hK8 K8
  refine wc_cond rfl (fun hc29 => ?_) (fun hc29 => ?_)
  · try simp only [decide_eq_true_eq, decide_eq_false_iff_not, Bool.not_eq_true', Bool.not_eq_false', Bool.not_eq_eq_eq_not, Bool.not_true, Bool.not_false, beq_iff_eq, bne_iff_ne, ne_eq, beq_eq_false_iff_ne, bne_eq_false_iff_eq, gt_iff_lt, ge_iff_le, Int.not_lt, Int.not_le] at hc29
    obtain ⟨hR, hgs⟩ := hrun (by omega)
    have hhp := hR.hp
    have hpos := hR.pos
    rw [← hhp] at hpos
    by_cases hpt : (putF 49 out.2.hp 0 [] []).1 = true
    · skip
      have hW : Ret Tryz.prog 42 [ptr L.h, i64c 0] w2 (fun r w' => r = .tuple #[S (putF 49 out.2.hp 0 [] []).2.1, i64c 0] ∧ Fram none' w2 w') := (hWrite T2.m.hpr hpos).mono (by
        rintro _ w' ⟨rfl, F'⟩
        refine ⟨?_, F'⟩
        simp only [wrV]
        rw [hhp, if_pos hpt])
      refine c_reg ?_ -- region 7 solve.go:113
      refine wl (ro_move rfl) ?_
      refine wl (ro_nilCheck rfl) ?_
      refine wl (ro_fieldAddr (k := 0) rfl fo_82_0) ?_
      refine wl (ro_loadB rfl sc_24 (by assumption) rfl) ?_
      refine wl_call rfl en_42 (hW) ?_
      rintro _ w3 ⟨rfl, F3⟩
      have T3 := T2.trans (Stp.none T2.m F3)
      clear T2 hB2 F3 hW
      have hB3 := T3.m.blk
      obtain ⟨a, L', hL, q1, q2, q3⟩ : ∃ a L', An = a :: L' ∧ a = (0, out.2.inf, out.2.tried, ansT out.2) ∧ Str s.cls s.fuel L' E (Yield s.cls s.fuel true out.2) ∧ out.1 = 0 := by
        rcases hout with ⟨h1, h2, h3, h4⟩ | ⟨a, L', h1, h2, h3, h4, h5⟩
        · rcases h4 with h | h
          · exact absurd (show out.1 = 0 by omega) h.1
          · rw [hpt] at h; exact absurd h.2.1 (by decide)
        · exact ⟨a, L', h1, h4, h5, h2⟩
      have htl : (putF 49 out.2.hp 0 [] []).2.1.length ≤ 48 := putF_len (f := 48) hpt
      have hpl := hR.pl
      have hil := hR.il
      have hkl := hR.kl
      have hpf := hR.pf
      have hrl := hR.rel.len
      have hpfl : s1.proof.length ≤ 24 := by rw [hpf]; omega
      refine wl (ro_move rfl) ?_
      refine wl (ro_extract rfl rfl) ?_
      refine wl (ro_extract rfl rfl) ?_
      refine wl (ro_assign rfl) ?_
      refine wl (ro_assign rfl) ?_
      refine wl_nil (x_then (hK7 _ _ ?_))
      clear hK7 K7
      refine c_seq (fun K9 hK9 => ?_)
      refine c_seq (fun K10 hK10 => ?_)
      refine c_reg ?_ -- region 8 solve.go:115
      refine wl (ro_move rfl) ?_
      refine wl (ro_cmp (r := false) rfl rfl (by simp)) ?_
      refine wl_nil (x_then (hK10 _ _ ?_))
      clear hK10 K10
      refine wc_condF rfl ?_
      refine c_skip (x_then (hK9 _ _ ?_))
      clear hK9 K9
      refine forget [(0, _), (7, _)] ⟨rfl, rfl, trivial⟩ (fun e => ?_)
      refine c_seq (fun K11 hK11 => ?_)
      refine c_reg ?_ -- region 11 solve.go:119
      refine wl (ro_assign rfl) ?_
      refine wl_nil (x_then (hK11 _ _ ?_))
      clear hK11 K11
      refine c_seq (fun K12 hK12 => ?_)
      refine c_seq (fun K13 hK13 => ?_)
      refine c_reg ?_ -- region 12 solve.go:120
      refine wl (ro_move rfl) ?_
      refine wl (ro_nilCheck rfl) ?_
      refine wl (ro_fieldAddr (k := 10) rfl fo_82_10) ?_
      refine wl_call rfl en_44 (mLen44 T3.m) ?_
      rintro _ w3 ⟨rfl, rfl⟩
      refine wl (ro_cmp rfl rfl rfl) ?_
      refine wl_nil (x_then (hK13 _ _ ?_))
      clear hK13 K13
      refine wc_cond rfl (fun hc55 => ?_) (fun hc55 => ?_)
      · try simp only [decide_eq_true_eq, decide_eq_false_iff_not, Bool.not_eq_true', Bool.not_eq_false', Bool.not_eq_eq_eq_not, Bool.not_true, Bool.not_false, beq_iff_eq, bne_iff_ne, ne_eq, beq_eq_false_iff_ne, bne_eq_false_iff_eq, gt_iff_lt, ge_iff_le, Int.not_lt, Int.not_le] at hc55
        refine c_reg ?_ -- region 13 solve.go:121
        refine wl (ro_assign rfl) ?_
        refine wl_nil (x_then (hK12 _ _ ?_))
        clear hK12 K12
        refine forget [(0, _), (7, _), (8, _)] ⟨rfl, rfl, rfl, trivial⟩ (fun e => ?_)
        refine c_seq (fun K14 hK14 => ?_)
        have hO3 := T3.m.pro
        simp only at hO3
        rcases hO3.2 with ⟨hv, hl0⟩ | ⟨g, cap, lp, hv, hBp, hcp, _, hlp, htk⟩
        · skip
          rw [hv] at hB3
          have hp0 : s1.proof = [] := List.eq_nil_of_length_eq_zero hl0
          refine c_pi [(0, false), (1, false), (2, false), (3, false), (4, false), (5, false), (6, false), (7, false), (8, false), (9, false), (10, false), (11, false), (12, false), (13, false), (14, false), (15, false), (16, false), (17, false), (18, false), (19, false), (20, false), (21, false)] (SameH w3.heap) mixed (by kernel_rfl) rfl (by kernel_rfl) (po_then (po_bp)) (rfl) ?_ -- region 14 solve.go:123
          refine pi_ro rfl (fun w hS => ro_move rfl) ?_
          refine pi_ro rfl (fun w hS => ro_catS rfl rfl (by simp only [List.length_singleton]; omega)) ?_
          refine pi_ro rfl (fun w hS => ro_move rfl) ?_
          refine pi_ro rfl (fun w hS => ro_nilCheck rfl) ?_
          refine pi_ro rfl (fun w hS => ro_fieldAddr (k := 11) rfl fo_82_11) ?_
          refine pi_ro rfl (fun w hS => ro_loadB rfl sc_66 (Blk.of_heap hB3 hS) rfl) ?_
          refine pi_ro rfl (fun w hS => ro_b2sE hp0 rfl se_66 in_5 st_9) ?_
          refine pi_ro rfl (fun w hS => ro_catS rfl rfl (by simp only [List.length_append, List.length_singleton]; omega)) ?_
          refine pi_ro rfl (fun w hS => ro_move rfl) ?_
          refine pi_ro rfl (fun w hS => ro_catS rfl rfl (by simp only [List.length_append, List.length_singleton]; omega)) ?_
          refine pi_ro rfl (fun w hS => ro_move rfl) ?_
          refine pi_ro rfl (fun w hS => ro_nilCheck rfl) ?_
          refine pi_ro rfl (fun w hS => ro_fieldAddr (k := 6) rfl fo_82_6) ?_
          refine pi_ro rfl (fun w hS => ro_loadB rfl sc_3 (Blk.of_heap hB3 hS) rfl) ?_
          refine pi_ro rfl (fun w hS => ro_move rfl) ?_
          refine pi_ro rfl (fun w hS => ro_nilCheck rfl) ?_
          refine pi_ro rfl (fun w hS => ro_fieldAddr (k := 7) rfl fo_82_7) ?_
          refine pi_ro rfl (fun w hS => ro_loadB rfl sc_3 (Blk.of_heap hB3 hS) rfl) ?_
          refine pi_ro rfl (fun w hS => ro_assign rfl) ?_
          refine pi_ro rfl (fun w hS => ro_assign rfl) ?_
          refine pi_ro rfl (fun w hS => ro_assign rfl) ?_
          refine pi_ro rfl (fun w hS => ro_assign rfl) ?_
          refine gen1 (A := fun w5 => Stp w w5 sb L pb V V1 { s1 with given := s1.given + 1 } Fp) (C := fun w5 => WP _ _ _ _ _ _ w5) (T3.trans (Stp.none T3.m (Fram.drew _ _ _))) ?_
          intro w5 T5
          refine pi_nil (x_then (hK14 _ _ ?_))
          clear hK14 K14
          refine c_ret ?_
          refine bp_ret Tryz.results24 rfl ?_
          refine ⟨a, _, by rw [hL]; rfl, ?_, T5.post ok1 hF, c1, c3, c4, by simp only [c5], .inr ⟨L', hL, c2.trans ho, ?_, by rw [q1]⟩⟩
          · rw [q1]
            simp only [ansT]
            rw [← hpf, ← hinf, ← htr1, ← hrl, if_pos (by omega)]
            rfl
          · refine .inr ⟨by simp only; omega, out.2.K, ⟨hR.rel, by omega, by simp only; rw [hpf, hinf]; exact hpl, by simp only; rw [hinf]; exact hR.fl, by simp only; rw [hinf]; exact hil, by simp only; rw [hinf]; exact hR.iF, by simp only; rw [hinf, htr1]; exact hR.it⟩, ⟨?_, ?_, ?_, ?_⟩, ?_⟩
            · have := hR.chain
              rw [hgs] at this
              exact this
            · simp only
              rw [hpf]
              exact hR.ps
            · simp only
              rw [hhp]
              exact hR.kh
            · simp only
              rw [hhp]
              exact hR.ft
            simp only
            rw [c1, c4]
            refine Str.mono ?_ q2
            rintro x ⟨n, hn⟩
            exact ⟨n, (mrun_back (s := back out.2.K s1.inf s1.tried) (s' := out.2) rfl hinf htr1).trans hn⟩
        · skip
          rw [hv] at hB3
          refine c_pi [(0, false), (1, false), (2, false), (3, false), (4, false), (5, false), (6, false), (7, false), (8, false), (9, false), (10, false), (11, false), (12, false), (13, false), (14, false), (15, false), (16, false), (17, false), (18, false), (19, false), (20, false), (21, false)] (SameH w3.heap) mixed (by kernel_rfl) rfl (by kernel_rfl) (po_then (po_bp)) (rfl) ?_ -- region 14 solve.go:123
          refine pi_ro rfl (fun w hS => ro_move rfl) ?_
          refine pi_ro rfl (fun w hS => ro_catS rfl rfl (by simp only [List.length_singleton]; omega)) ?_
          refine pi_ro rfl (fun w hS => ro_move rfl) ?_
          refine pi_ro rfl (fun w hS => ro_nilCheck rfl) ?_
          refine pi_ro rfl (fun w hS => ro_fieldAddr (k := 11) rfl fo_82_11) ?_
          refine pi_ro rfl (fun w hS => ro_loadB rfl sc_66 (Blk.of_heap hB3 hS) rfl) ?_
          refine pi_ro rfl (fun w hS => ro_b2s (bs := s1.proof) rfl se_66 in_5 st_9 (Blk.of_heap hBp hS) (by rw [List.drop_zero]; simpa using htk) rfl) ?_
          refine pi_ro rfl (fun w hS => ro_catS rfl rfl (by simp only [List.length_append, List.length_singleton]; omega)) ?_
          refine pi_ro rfl (fun w hS => ro_move rfl) ?_
          refine pi_ro rfl (fun w hS => ro_catS rfl rfl (by simp only [List.length_append, List.length_singleton]; omega)) ?_
          refine pi_ro rfl (fun w hS => ro_move rfl) ?_
          refine pi_ro rfl (fun w hS => ro_nilCheck rfl) ?_
          refine pi_ro rfl (fun w hS => ro_fieldAddr (k := 6) rfl fo_82_6) ?_
          refine pi_ro rfl (fun w hS => ro_loadB rfl sc_3 (Blk.of_heap hB3 hS) rfl) ?_
          refine pi_ro rfl (fun w hS => ro_move rfl) ?_
          refine pi_ro rfl (fun w hS => ro_nilCheck rfl) ?_
          refine pi_ro rfl (fun w hS => ro_fieldAddr (k := 7) rfl fo_82_7) ?_
          refine pi_ro rfl (fun w hS => ro_loadB rfl sc_3 (Blk.of_heap hB3 hS) rfl) ?_
          refine pi_ro rfl (fun w hS => ro_assign rfl) ?_
          refine pi_ro rfl (fun w hS => ro_assign rfl) ?_
          refine pi_ro rfl (fun w hS => ro_assign rfl) ?_
          refine pi_ro rfl (fun w hS => ro_assign rfl) ?_
          refine gen1 (A := fun w5 => Stp w w5 sb L pb V V1 { s1 with given := s1.given + 1 } Fp) (C := fun w5 => WP _ _ _ _ _ _ w5) (T3.trans (Stp.none T3.m (Fram.drew _ _ _))) ?_
          intro w5 T5
          refine pi_nil (x_then (hK14 _ _ ?_))
          clear hK14 K14
          refine c_ret ?_
          refine bp_ret Tryz.results24 rfl ?_
          refine ⟨a, _, by rw [hL]; rfl, ?_, T5.post ok1 hF, c1, c3, c4, by simp only [c5], .inr ⟨L', hL, c2.trans ho, ?_, by rw [q1]⟩⟩
          · rw [q1]
            simp only [ansT]
            rw [← hpf, ← hinf, ← htr1, ← hrl, if_pos (by omega)]
            rfl
          · refine .inr ⟨by simp only; omega, out.2.K, ⟨hR.rel, by omega, by simp only; rw [hpf, hinf]; exact hpl, by simp only; rw [hinf]; exact hR.fl, by simp only; rw [hinf]; exact hil, by simp only; rw [hinf]; exact hR.iF, by simp only; rw [hinf, htr1]; exact hR.it⟩, ⟨?_, ?_, ?_, ?_⟩, ?_⟩
            · have := hR.chain
              rw [hgs] at this
              exact this
            · simp only
              rw [hpf]
              exact hR.ps
            · simp only
              rw [hhp]
              exact hR.kh
            · simp only
              rw [hhp]
              exact hR.ft
            simp only
            rw [c1, c4]
            refine Str.mono ?_ q2
            rintro x ⟨n, hn⟩
            exact ⟨n, (mrun_back (s := back out.2.K s1.inf s1.tried) (s' := out.2) rfl hinf htr1).trans hn⟩
      · try simp only [decide_eq_true_eq, decide_eq_false_iff_not, Bool.not_eq_true', Bool.not_eq_false', Bool.not_eq_eq_eq_not, Bool.not_true, Bool.not_false, beq_iff_eq, bne_iff_ne, ne_eq, beq_eq_false_iff_ne, bne_eq_false_iff_eq, gt_iff_lt, ge_iff_le, Int.not_lt, Int.not_le] at hc55
        refine c_skip (x_then (hK12 _ _ ?_))
        clear hK12 K12
        refine forget [(0, _), (7, _), (8, _)] ⟨rfl, rfl, rfl, trivial⟩ (fun e => ?_)
        refine c_seq (fun K15 hK15 => ?_)
        have hO3 := T3.m.pro
        simp only at hO3
        rcases hO3.2 with ⟨hv, hl0⟩ | ⟨g, cap, lp, hv, hBp, hcp, _, hlp, htk⟩
        · skip
          rw [hv] at hB3
          have hp0 : s1.proof = [] := List.eq_nil_of_length_eq_zero hl0
          refine c_pi [(0, false), (1, false), (2, false), (3, false), (4, false), (5, false), (6, false), (7, false), (8, false), (9, false), (10, false), (11, false), (12, false), (13, false), (14, false), (15, false), (16, false), (17, false), (18, false), (19, false), (20, false), (21, false)] (SameH w3.heap) mixed (by kernel_rfl) rfl (by kernel_rfl) (po_then (po_bp)) (rfl) ?_ -- region 14 solve.go:123
          refine pi_ro rfl (fun w hS => ro_move rfl) ?_
          refine pi_ro rfl (fun w hS => ro_catS rfl rfl (by simp only [List.length_singleton]; omega)) ?_
          refine pi_ro rfl (fun w hS => ro_move rfl) ?_
          refine pi_ro rfl (fun w hS => ro_nilCheck rfl) ?_
          refine pi_ro rfl (fun w hS => ro_fieldAddr (k := 11) rfl fo_82_11) ?_
          refine pi_ro rfl (fun w hS => ro_loadB rfl sc_66 (Blk.of_heap hB3 hS) rfl) ?_
          refine pi_ro rfl (fun w hS => ro_b2sE hp0 rfl se_66 in_5 st_9) ?_
          refine pi_ro rfl (fun w hS => ro_catS rfl rfl (by simp only [List.length_append, List.length_singleton]; omega)) ?_
          refine pi_ro rfl (fun w hS => ro_move rfl) ?_
          refine pi_ro rfl (fun w hS => ro_catS rfl rfl (by simp only [List.length_append, List.length_singleton]; omega)) ?_
          refine pi_ro rfl (fun w hS => ro_move rfl) ?_
          refine pi_ro rfl (fun w hS => ro_nilCheck rfl) ?_
          refine pi_ro rfl (fun w hS => ro_fieldAddr (k := 6) rfl fo_82_6) ?_
          refine pi_ro rfl (fun w hS => ro_loadB rfl sc_3 (Blk.of_heap hB3 hS) rfl) ?_
          refine pi_ro rfl (fun w hS => ro_move rfl) ?_
          refine pi_ro rfl (fun w hS => ro_nilCheck rfl) ?_
          refine pi_ro rfl (fun w hS => ro_fieldAddr (k := 7) rfl fo_82_7) ?_
          refine pi_ro rfl (fun w hS => ro_loadB rfl sc_3 (Blk.of_heap hB3 hS) rfl) ?_
          refine pi_ro rfl (fun w hS => ro_assign rfl) ?_
          refine pi_ro rfl (fun w hS => ro_assign rfl) ?_
          refine pi_ro rfl (fun w hS => ro_assign rfl) ?_
          refine pi_ro rfl (fun w hS => ro_assign rfl) ?_
          refine gen1 (A := fun w5 => Stp w w5 sb L pb V V1 { s1 with given := s1.given + 1 } Fp) (C := fun w5 => WP _ _ _ _ _ _ w5) (T3.trans (Stp.none T3.m (Fram.drew _ _ _))) ?_
          intro w5 T5
          refine pi_nil (x_then (hK15 _ _ ?_))
          clear hK15 K15
          refine c_ret ?_
          refine bp_ret Tryz.results24 rfl ?_
          refine ⟨a, _, by rw [hL]; rfl, ?_, T5.post ok1 hF, c1, c3, c4, by simp only [c5], .inr ⟨L', hL, c2.trans ho, ?_, by rw [q1]⟩⟩
          · rw [q1]
            simp only [ansT]
            rw [← hpf, ← hinf, ← htr1, ← hrl, if_neg (by omega)]
            rfl
          · refine .inr ⟨by simp only; omega, out.2.K, ⟨hR.rel, by omega, by simp only; rw [hpf, hinf]; exact hpl, by simp only; rw [hinf]; exact hR.fl, by simp only; rw [hinf]; exact hil, by simp only; rw [hinf]; exact hR.iF, by simp only; rw [hinf, htr1]; exact hR.it⟩, ⟨?_, ?_, ?_, ?_⟩, ?_⟩
            · have := hR.chain
              rw [hgs] at this
              exact this
            · simp only
              rw [hpf]
              exact hR.ps
            · simp only
              rw [hhp]
              exact hR.kh
            · simp only
              rw [hhp]
              exact hR.ft
            simp only
            rw [c1, c4]
            refine Str.mono ?_ q2
            rintro x ⟨n, hn⟩
            exact ⟨n, (mrun_back (s := back out.2.K s1.inf s1.tried) (s' := out.2) rfl hinf htr1).trans hn⟩
        · skip
          rw [hv] at hB3
          refine c_pi [(0, false), (1, false), (2, false), (3, false), (4, false), (5, false), (6, false), (7, false), (8, false), (9, false), (10, false), (11, false), (12, false), (13, false), (14, false), (15, false), (16, false), (17, false), (18, false), (19, false), (20, false), (21, false)] (SameH w3.heap) mixed (by kernel_rfl) rfl (by kernel_rfl) (po_then (po_bp)) (rfl) ?_ -- region 14 solve.go:123
          refine pi_ro rfl (fun w hS => ro_move rfl) ?_
          refine pi_ro rfl (fun w hS => ro_catS rfl rfl (by simp only [List.length_singleton]; omega)) ?_
          refine pi_ro rfl (fun w hS => ro_move rfl) ?_
          refine pi_ro rfl (fun w hS => ro_nilCheck rfl) ?_
          refine pi_ro rfl (fun w hS => ro_fieldAddr (k := 11) rfl fo_82_11) ?_
          refine pi_ro rfl (fun w hS => ro_loadB rfl sc_66 (Blk.of_heap hB3 hS) rfl) ?_
          refine pi_ro rfl (fun w hS => ro_b2s (bs := s1.proof) rfl se_66 in_5 st_9 (Blk.of_heap hBp hS) (by rw [List.drop_zero]; simpa using htk) rfl) ?_
          refine pi_ro rfl (fun w hS => ro_catS rfl rfl (by simp only [List.length_append, List.length_singleton]; omega)) ?_
          refine pi_ro rfl (fun w hS => ro_move rfl) ?_
          refine pi_ro rfl (fun w hS => ro_catS rfl rfl (by simp only [List.length_append, List.length_singleton]; omega)) ?_
          refine pi_ro rfl (fun w hS => ro_move rfl) ?_
          refine pi_ro rfl (fun w hS => ro_nilCheck rfl) ?_
          refine pi_ro rfl (fun w hS => ro_fieldAddr (k := 6) rfl fo_82_6) ?_
          refine pi_ro rfl (fun w hS => ro_loadB rfl sc_3 (Blk.of_heap hB3 hS) rfl) ?_
          refine pi_ro rfl (fun w hS => ro_move rfl) ?_
          refine pi_ro rfl (fun w hS => ro_nilCheck rfl) ?_
          refine pi_ro rfl (fun w hS => ro_fieldAddr (k := 7) rfl fo_82_7) ?_
          refine pi_ro rfl (fun w hS => ro_loadB rfl sc_3 (Blk.of_heap hB3 hS) rfl) ?_
          refine pi_ro rfl (fun w hS => ro_assign rfl) ?_
          refine pi_ro rfl (fun w hS => ro_assign rfl) ?_
          refine pi_ro rfl (fun w hS => ro_assign rfl) ?_
          refine pi_ro rfl (fun w hS => ro_assign rfl) ?_
          refine gen1 (A := fun w5 => Stp w w5 sb L pb V V1 { s1 with given := s1.given + 1 } Fp) (C := fun w5 => WP _ _ _ _ _ _ w5) (T3.trans (Stp.none T3.m (Fram.drew _ _ _))) ?_
          intro w5 T5
          refine pi_nil (x_then (hK15 _ _ ?_))
          clear hK15 K15
          refine c_ret ?_
          refine bp_ret Tryz.results24 rfl ?_
          refine ⟨a, _, by rw [hL]; rfl, ?_, T5.post ok1 hF, c1, c3, c4, by simp only [c5], .inr ⟨L', hL, c2.trans ho, ?_, by rw [q1]⟩⟩
          · rw [q1]
            simp only [ansT]
            rw [← hpf, ← hinf, ← htr1, ← hrl, if_neg (by omega)]
            rfl
          · refine .inr ⟨by simp only; omega, out.2.K, ⟨hR.rel, by omega, by simp only; rw [hpf, hinf]; exact hpl, by simp only; rw [hinf]; exact hR.fl, by simp only; rw [hinf]; exact hil, by simp only; rw [hinf]; exact hR.iF, by simp only; rw [hinf, htr1]; exact hR.it⟩, ⟨?_, ?_, ?_, ?_⟩, ?_⟩
            · have := hR.chain
              rw [hgs] at this
              exact this
            · simp only
              rw [hpf]
              exact hR.ps
            · simp only
              rw [hhp]
              exact hR.kh
            · simp only
              rw [hhp]
              exact hR.ft
            simp only
            rw [c1, c4]
            refine Str.mono ?_ q2
            rintro x ⟨n, hn⟩
            exact ⟨n, (mrun_back (s := back out.2.K s1.inf s1.tried) (s' := out.2) rfl hinf htr1).trans hn⟩
    · skip
      have hW : Ret Tryz.prog 42 [ptr L.h, i64c 0] w2 (fun r w' => r = .tuple #[S [], i64c 8] ∧ Fram none' w2 w') := (hWrite T2.m.hpr hpos).mono (by
        rintro _ w' ⟨rfl, F'⟩
        refine ⟨?_, F'⟩
        simp only [wrV]
        rw [hhp, if_neg hpt])
      refine c_reg ?_ -- region 7 solve.go:113
      refine wl (ro_move rfl) ?_
      refine wl (ro_nilCheck rfl) ?_
      refine wl (ro_fieldAddr (k := 0) rfl fo_82_0) ?_
      refine wl (ro_loadB rfl sc_24 (by assumption) rfl) ?_
      refine wl_call rfl en_42 (hW) ?_
      rintro _ w3 ⟨rfl, F3⟩
      have T3 := T2.trans (Stp.none T2.m F3)
      clear T2 hB2 F3 hW
      have hB3 := T3.m.blk
      obtain ⟨hL, q1, q2, q3⟩ : An = [] ∧ out.2.inf = E.2.1 ∧ out.2.tried = E.2.2 ∧ E.1 = 8 := by
        rcases hout with ⟨h1, h2, h3, h4⟩ | ⟨a, L', h1, h2, h3, h4, h5⟩
        · rcases h4 with h | h
          · exact absurd (show out.1 = 0 by omega) h.1
          · exact ⟨h1, h2, h3, h.2.2⟩
        · exact absurd h3 hpt
      refine wl (ro_move rfl) ?_
      refine wl (ro_extract rfl rfl) ?_
      refine wl (ro_extract rfl rfl) ?_
      refine wl (ro_assign rfl) ?_
      refine wl (ro_assign rfl) ?_
      refine wl_nil (x_then (hK7 _ _ ?_))
      clear hK7 K7
      refine c_seq (fun K16 hK16 => ?_)
      refine c_seq (fun K17 hK17 => ?_)
      refine c_reg ?_ -- region 8 solve.go:115
      refine wl (ro_move rfl) ?_
      refine wl (ro_cmp (r := true) rfl rfl (by simp)) ?_
      refine wl_nil (x_then (hK17 _ _ ?_))
      clear hK17 K17
      refine wc_condT rfl ?_
      refine c_seq (fun K18 hK18 => ?_)
      refine c_reg ?_ -- region 9 solve.go:116
      refine wl (ro_move rfl) ?_
      refine wl_call rfl en_43 (shut43 T3.m) ?_
      rintro _ w4 ⟨VF4, VG4, VP4, M4, e1, e2, e3, F4⟩
      have T4 := T3.trans (V2 := (VF4, VG4, VP4)) ⟨M4, F4.mono (fun b _ h => .inl h), fun b h => .inl (by rw [← e1]; exact h), fun b h => .inl (by rw [← e2]; exact h), fun b h => .inl (by rw [← e3]; exact h)⟩
      clear T3 hB3 M4
      have hB4 := T4.m.blk
      refine wl_nil (x_then (hK18 _ _ ?_))
      clear hK18 K18
      refine forget [(0, _), (6, _)] ⟨rfl, rfl, trivial⟩ (fun e => ?_)
      refine c_seq (fun K19 hK19 => ?_)
      refine c_pi [(0, false), (1, false), (2, false), (3, false), (4, false), (5, false), (6, false), (7, false), (8, false), (9, false), (10, false), (11, false), (12, false)] (SameH w4.heap) mixed (by kernel_rfl) rfl (by kernel_rfl) (po_then (po_then (po_bp))) (rfl) ?_ -- region 10 solve.go:117
      refine pi_ro rfl (fun w hS => ro_move rfl) ?_
      refine pi_ro rfl (fun w hS => ro_nilCheck rfl) ?_
      refine pi_ro rfl (fun w hS => ro_fieldAddr (k := 6) rfl fo_82_6) ?_
      refine pi_ro rfl (fun w hS => ro_loadB rfl sc_3 (Blk.of_heap (by assumption) hS) rfl) ?_
      refine pi_ro rfl (fun w hS => ro_move rfl) ?_
      refine pi_ro rfl (fun w hS => ro_nilCheck rfl) ?_
      refine pi_ro rfl (fun w hS => ro_fieldAddr (k := 7) rfl fo_82_7) ?_
      refine pi_ro rfl (fun w hS => ro_loadB rfl sc_3 (Blk.of_heap (by assumption) hS) rfl) ?_
      refine pi_ro rfl (fun w hS => ro_move rfl) ?_
      refine pi_ro rfl (fun w hS => ro_assign rfl) ?_
      refine pi_ro rfl (fun w hS => ro_assign rfl) ?_
      refine pi_ro rfl (fun w hS => ro_assign rfl) ?_
      refine pi_ro rfl (fun w hS => ro_assign rfl) ?_
      refine gen1 (A := fun w5 => Stp w w5 sb L pb V (VF4, VG4, VP4) { s1 with given := s1.given + 1, opn := false, cont := -1, frs := [], chs := [], proof := [] } Fp) (C := fun w5 => WP _ _ _ _ _ _ w5) (T4.trans (Stp.none T4.m (Fram.drew _ _ _))) ?_
      clear T4 hB4
      intro w5 T5
      refine pi_nil (x_then (hK19 _ _ ?_))
      clear hK19 K19
      refine c_ret (x_thenR ?_)
      refine bp_ret Tryz.results24 rfl ?_
      refine ⟨(E.1, E.2.1, E.2.2, []), _, by rw [hL]; rfl, ?_, T5.post ok1 hF, c1, c3, c4, by simp only [c5], .inl ⟨hL, rfl, rfl, rfl, rfl, rfl⟩⟩
      simp only
      rw [← q1, ← q2, q3, ← hinf, ← htr1]
      rfl
  · try simp only [decide_eq_true_eq, decide_eq_false_iff_not, Bool.not_eq_true', Bool.not_eq_false', Bool.not_eq_eq_eq_not, Bool.not_true, Bool.not_false, beq_iff_eq, bne_iff_ne, ne_eq, beq_eq_false_iff_ne, bne_eq_false_iff_eq, gt_iff_lt, ge_iff_le, Int.not_lt, Int.not_le] at hc29
    have hne : out.1 ≠ 0 := by omega
    obtain ⟨hL, q1, q2, q3⟩ : An = [] ∧ out.2.inf = E.2.1 ∧ out.2.tried = E.2.2 ∧ out.1 = E.1 := by
      rcases hout with ⟨h1, h2, h3, h4⟩ | ⟨a, L', h1, h2, _⟩
      · refine ⟨h1, h2, h3, ?_⟩
        rcases h4 with h | h
        · exact h.2
        · exact absurd h.1 hne
      · exact absurd h2 hne
    refine c_skip (x_then (hK7 _ _ ?_))
    clear hK7 K7
    refine c_seq (fun K20 hK20 => ?_)
    refine c_seq (fun K21 hK21 => ?_)
    refine c_reg ?_ -- region 8 solve.go:115
    refine wl (ro_move rfl) ?_
    refine wl (ro_cmp (r := true) rfl rfl (by simp; omega)) ?_
    refine wl_nil (x_then (hK21 _ _ ?_))
    clear hK21 K21
    refine wc_condT rfl ?_
    refine c_seq (fun K22 hK22 => ?_)
    refine c_reg ?_ -- region 9 solve.go:116
    refine wl (ro_move rfl) ?_
    refine wl_call rfl en_43 (shut43 T2.m) ?_
    rintro _ w4 ⟨VF4, VG4, VP4, M4, e1, e2, e3, F4⟩
    have T4 := T2.trans (V2 := (VF4, VG4, VP4)) ⟨M4, F4.mono (fun b _ h => .inl h), fun b h => .inl (by rw [← e1]; exact h), fun b h => .inl (by rw [← e2]; exact h), fun b h => .inl (by rw [← e3]; exact h)⟩
    clear T2 hB2 M4
    have hB4 := T4.m.blk
    refine wl_nil (x_then (hK22 _ _ ?_))
    clear hK22 K22
    refine forget [(0, _), (6, _)] ⟨rfl, rfl, trivial⟩ (fun e => ?_)
    refine c_seq (fun K23 hK23 => ?_)
    refine c_pi [(0, false), (1, false), (2, false), (3, false), (4, false), (5, false), (6, false), (7, false), (8, false), (9, false), (10, false), (11, false), (12, false)] (SameH w4.heap) mixed (by kernel_rfl) rfl (by kernel_rfl) (po_then (po_then (po_bp))) (rfl) ?_ -- region 10 solve.go:117
    refine pi_ro rfl (fun w hS => ro_move rfl) ?_
    refine pi_ro rfl (fun w hS => ro_nilCheck rfl) ?_
    refine pi_ro rfl (fun w hS => ro_fieldAddr (k := 6) rfl fo_82_6) ?_
    refine pi_ro rfl (fun w hS => ro_loadB rfl sc_3 (Blk.of_heap (by assumption) hS) rfl) ?_
    refine pi_ro rfl (fun w hS => ro_move rfl) ?_
    refine pi_ro rfl (fun w hS => ro_nilCheck rfl) ?_
    refine pi_ro rfl (fun w hS => ro_fieldAddr (k := 7) rfl fo_82_7) ?_
    refine pi_ro rfl (fun w hS => ro_loadB rfl sc_3 (Blk.of_heap (by assumption) hS) rfl) ?_
    refine pi_ro rfl (fun w hS => ro_move rfl) ?_
    refine pi_ro rfl (fun w hS => ro_assign rfl) ?_
    refine pi_ro rfl (fun w hS => ro_assign rfl) ?_
    refine pi_ro rfl (fun w hS => ro_assign rfl) ?_
    refine pi_ro rfl (fun w hS => ro_assign rfl) ?_
    refine gen1 (A := fun w5 => Stp w w5 sb L pb V (VF4, VG4, VP4) { s1 with given := s1.given + 1, opn := false, cont := -1, frs := [], chs := [], proof := [] } Fp) (C := fun w5 => WP _ _ _ _ _ _ w5) (T4.trans (Stp.none T4.m (Fram.drew _ _ _))) ?_
    clear T4 hB4
    intro w5 T5
    refine pi_nil (x_then (hK23 _ _ ?_))
    clear hK23 K23
    refine c_ret (x_thenR ?_)
    refine bp_ret Tryz.results24 rfl ?_
    refine ⟨(E.1, E.2.1, E.2.2, []), _, by rw [hL]; rfl, ?_, T5.post ok1 hF, c1, c3, c4, by simp only [c5], .inl ⟨hL, rfl, rfl, rfl, rfl, rfl⟩⟩
    simp only
    rw [← q1, ← q2, ← q3, ← hinf, ← htr1]
    rfl

end Go.Proofs.Qxb6500569aGreat
