import Derived.Test.Qxb6500570aGreatPy
import Derived.Test.Qxb6500570aGreatFy
/- The real sheet. -/
namespace Go.Proofs.Qxb6500570aGreat
set_option linter.unusedVariables false
set_option linter.unusedSimpArgs false

theorem st3_104 : st3B Tryz.prog 104 3 3 9 = true := by kernel_rfl
theorem eg_104 : Tryz.prog.eqGuardType Tryz.prog.depth 104 = false := by kernel_rfl
theorem vl_ext {a b : Vl} : (a.k = b.k ∧ a.n = b.n ∧ a.s = b.s) ↔ a = b := by
  cases a; cases b
  simp
structure CB where
  k : Nat
  r : Nat
  s : Nat
  E : EB
  X : FB7
  G : GB
def CaB (lo hi : Nat) (C : CB) : Prop := EvB lo C.G.g C.E C.X ∧ GBo C.G ∧ C.G.n < C.r ∧ C.G.n < C.s ∧ C.r ≠ C.s ∧ C.r < C.k ∧ C.s < C.k ∧ C.k < hi
abbrev cast (C : CB) : List Value := [ptr C.E.e, ptr C.G.g, sl C.r 24, sl C.s 24]
abbrev stc (t : List UInt8) : List Value := [S t]
theorem stc_len (t : List UInt8) : (stc t).length = 1 := rfl
def tF (T : List (List UInt8)) : Nat → List UInt8 := fun c => T.getD c []
theorem tF_get {T : List (List UInt8)} {c : Nat} (h : c < T.length) : T[c]? = some (tF T c) := by
  unfold tF
  rw [List.getD_eq_getElem?_getD, List.getElem?_eq_getElem h]
  rfl
theorem tF_set {T : List (List UInt8)} {i j : Nat} {v : List UInt8} (h : i < T.length) : tF (T.set i v) j = if j = i then v else tF T j := by
  unfold tF
  rw [List.getD_eq_getElem?_getD, List.getElem?_set, List.getD_eq_getElem?_getD]
  by_cases e : i = j
  · subst e; simp [h]
  · rw [if_neg e, if_neg (Ne.symm e)]
theorem env_set {EL : List Vl} {i j : Nat} {v : Vl} (h : i < EL.length) : envF (EL.set i v) j = if j = i then v else envF EL j := by
  unfold envF
  rw [List.getD_eq_getElem?_getD, List.getElem?_set, List.getD_eq_getElem?_getD]
  by_cases e : i = j
  · subst e; simp [h]
  · rw [if_neg e, if_neg (Ne.symm e)]
theorem tF_mem {T : List (List UInt8)} {c : Nat} (h : c < T.length) : tF T c ∈ T := List.mem_of_getElem? (tF_get h)
theorem env_mem {EL : List Vl} {c : Nat} (h : c < EL.length) : envF EL c ∈ EL := List.mem_of_getElem? (env_get h)
theorem set_all {α : Type} {p : α → Prop} {L : List α} {i : Nat} {v : α} (h : ∀ x ∈ L, p x) (hv : p v) : ∀ x ∈ L.set i v, p x := by
  intro x hx
  rcases List.mem_or_eq_of_mem_set hx with q | q
  · exact h x q
  · rw [q]; exact hv
theorem EvR.far {w w' : World} {lo hi : Nat} {B : EB} {X : FB7} {G : Nat → Prop} (hb : EvB lo hi B X) (h : EvR w B X) (F : Fram G w w') (hn : ∀ b, lo ≤ b → b < hi → ¬ G b) : EvR w' B X := by
  obtain ⟨cl, CL, h1, h2⟩ := h
  exact ⟨cl, CL, h1, h2.far hb F hn⟩
theorem GrR.far {w w' : World} {B : GB} {R : Nat → Nat} {G : Nat → Prop} (h : GrR w B R) (F : Fram G w w') (hn : ∀ b, gall B b → ¬ G b) : GrR w' B R := by
  obtain ⟨RL, BL, LL, NL, cy, tc, V, h2⟩ := h
  obtain ⟨hB, hR, hQ, hL, hN, k1, k2, k3, k4, k5, k6⟩ := V
  exact ⟨RL, BL, LL, NL, cy, tc, ⟨F.blkF hB (hn _ (.inl rfl)), F.blkF hR (hn _ (.inr (.inl rfl))), F.blkF hQ (hn _ (.inr (.inr (.inl rfl)))), F.blkF hL (hn _ (.inr (.inr (.inr (.inl rfl))))), F.blkF hN (hn _ (.inr (.inr (.inr (.inr rfl))))), k1, k2, k3, k4, k5, k6⟩, h2⟩
structure CaV (w : World) (C : CB) (T : List (List UInt8)) (SL : List Vl) : Prop where
  hK : Blk w.heap C.k (cast C) 93
  hR : Blk w.heap C.r (rws stc T) 9
  hV : Blk w.heap C.s (rws vlc SL) 104
  tl : T.length = 24
  sl : SL.length = 24
  t40 : ∀ t ∈ T, t.length ≤ 40
  lw : ∀ v ∈ SL, Lw v
  ev : EvR w C.E C.X
  gr : GrR w C.G (rdT' (tF T))
  sh : ∃ L, ShOK (tF T) L (envF SL)
theorem CaV.far {w w' : World} {lo hi : Nat} {C : CB} {T : List (List UInt8)} {SL : List Vl} {G : Nat → Prop} (hb : CaB lo hi C) (h : CaV w C T SL) (F : Fram G w w') (hn : ∀ b, lo ≤ b → b < hi → ¬ G b) : CaV w' C T SL := by
  obtain ⟨b1, b2, b3, b4, b5, b6, b7, b8⟩ := hb
  have b1' := b1
  obtain ⟨-, -, -, ht, ⟨a1, a2, a3, a4, a5, a6, a7⟩, -⟩ := b1'
  have hg : lo ≤ C.G.g := by
    have := b1.1
    have := b1.2.2.2.2.2.1
    have := b1.1
    unfold EBo at this
    omega
  unfold GBo at b2
  refine ⟨F.blkF h.hK (hn _ (by omega) (by omega)), F.blkF h.hR (hn _ (by omega) (by omega)), F.blkF h.hV (hn _ (by omega) (by omega)), h.tl, h.sl, h.t40, h.lw, h.ev.far b1 F (fun b q1 q2 => hn b q1 (by omega)), h.gr.far F (fun b hq => hn b ?_ ?_), h.sh⟩
  · rcases hq with q | q | q | q | q <;> omega
  · rcases hq with q | q | q | q | q <;> omega

theorem Raw58 {w : World} {C : CB} {T : List (List UInt8)} {c : Nat} (hK : Blk w.heap C.k (cast C) 93) (hR : Blk w.heap C.r (rws stc T) 9) (hl : T.length = 24) (hc : c < 24) : Ret Tryz.prog 58 [ptr C.k, i64c c] w (fun v w' => v = S (tF T c) ∧ w' = w) := by
  refine ret_of Tryz.func58 rfl Tryz.ntmps58 rfl ?_
  refine c_seq (fun K1 hK1 => ?_)
  refine c_reg ?_ -- region 0 calc.go:48
  refine wl (ro_assign rfl) ?_
  refine wl_nil (x_then (hK1 _ _ ?_))
  clear hK1 K1
  refine c_seq (fun K2 hK2 => ?_)
  refine c_seq (fun K3 hK3 => ?_)
  refine c_reg ?_ -- region 1 calc.go:49
  refine wl (ro_move rfl) ?_
  refine wl (ro_cmp (r := false) rfl rfl (congrArg some (decide_eq_false (by omega)))) ?_
  refine wl (ro_move rfl) ?_
  refine wlg_yes rfl (ro_move rfl) ?_
  refine wlg_yes rfl (ro_cmp (r := false) rfl rfl (congrArg some (decide_eq_false (by omega)))) ?_
  refine wl (ro_pick rfl rfl rfl) ?_
  refine wl_nil (x_then (hK3 _ _ ?_))
  clear hK3 K3
  refine wc_condF rfl ?_
  refine c_skip (x_then (hK2 _ _ ?_))
  clear hK2 K2
  refine forget [(0, _), (1, _)] ⟨rfl, rfl, trivial⟩ (fun e => ?_)
  refine c_seq (fun K4 hK4 => ?_)
  refine c_reg ?_ -- region 3 calc.go:52
  refine wl (ro_move rfl) ?_
  refine wl (ro_nilCheck rfl) ?_
  refine wl (ro_fieldAddr (k := 2) rfl fo_93_2) ?_
  refine wl (ro_loadB rfl sc_56 (by assumption) rfl) ?_
  refine wl (ro_move rfl) ?_
  refine wl (ro_indexAddr (et := 9) (k := 1) rfl rfl se_56 rfl (by omega)) ?_
  refine wl (ro_loadB rfl sc_9 (hR) ((rw_get stc_len (tF_get (T := T) (c := c) (by omega)) (j := 0) (by omega) rfl))) ?_
  refine wl (ro_assign rfl) ?_
  refine wl_nil (x_then (hK4 _ _ ?_))
  clear hK4 K4
  refine c_ret ?_
  refine bp_ret Tryz.results58 rfl ?_
  exact ⟨rfl, rfl⟩

theorem Value119 {w : World} {C : CB} {SL : List Vl} {c : Nat} (hK : Blk w.heap C.k (cast C) 93) (hV : Blk w.heap C.s (rws vlc SL) 104) (hl : SL.length = 24) (hc : c < 24) : Ret Tryz.prog 119 [ptr C.k, i64c c] w (fun v w' => v = vlA (envF SL c) ∧ Fram none' w w') := by
  have hF : Fram none' w w := Fram.refl _ _
  refine ret_of Tryz.func119 rfl Tryz.ntmps119 rfl ?_
  refine c_seq (fun K1 hK1 => ?_)
  refine c_reg ?_ -- region 0 calc.go:56
  refine wl_new (ze_104) (fun b4 w1 hbb4 h4 F1 => ?_)
  have hbsb4 := Nat.le_trans hF.size hbb4
  have hneC.kb4 : C.k < b4 := Nat.lt_of_lt_of_le hK.lt hbb4
  have hneC.sb4 : C.s < b4 := Nat.lt_of_lt_of_le hV.lt hbb4
  replace hF := hF.thenDrew.thenN F1
  replace hK := F1.blkN hK
  replace hV := F1.blkN hV
  refine wl_nil (x_then (hK1 _ _ ?_))
  clear hK1 K1
  refine c_seq (fun K2 hK2 => ?_)
  refine c_seq (fun K3 hK3 => ?_)
  refine c_reg ?_ -- region 1 calc.go:57
  refine wl (ro_move rfl) ?_
  refine wl (ro_cmp (r := false) rfl rfl (congrArg some (decide_eq_false (by omega)))) ?_
  refine wl (ro_move rfl) ?_
  refine wlg_yes rfl (ro_move rfl) ?_
  refine wlg_yes rfl (ro_cmp (r := false) rfl rfl (congrArg some (decide_eq_false (by omega)))) ?_
  refine wl (ro_pick rfl rfl rfl) ?_
  refine wl_nil (x_then (hK3 _ _ ?_))
  clear hK3 K3
  refine wc_condF rfl ?_
  refine c_skip (x_then (hK2 _ _ ?_))
  clear hK2 K2
  refine forget [(0, _), (1, _), (4, _)] ⟨rfl, rfl, rfl, trivial⟩ (fun e => ?_)
  refine c_seq (fun K4 hK4 => ?_)
  refine c_reg ?_ -- region 3 calc.go:60
  refine wl (ro_move rfl) ?_
  refine wl (ro_nilCheck rfl) ?_
  refine wl (ro_fieldAddr (k := 3) rfl fo_93_3) ?_
  refine wl (ro_loadB rfl sc_86 (by assumption) rfl) ?_
  refine wl (ro_move rfl) ?_
  refine wl (ro_indexAddr (et := 104) (k := 3) rfl rfl se_86 rfl (by omega)) ?_
  refine wl (ro_loadAggB rfl ag_104 (hV) ((vlc_len _)) ((rw_agg vlc_len (env_get (EL := SL) (c := c) (by omega)) (by omega)))) ?_
  refine wl_puta rfl rfl ((by (try exact vlc_cells _); all_goals simp [Value.oneCell', i64c, icv, u64c, u8c, ptr, S])) sz_104 (rfl) h4 ((by simp)) (rfl) (fun w2 h4 F2 => ?_)
  replace hF := hF.thenDrew.thenO F2 (by first | exact .inr (by omega) | exact .inl rfl | exact .inl (by assumption))
  replace hK := F2.blkO hK (by omega)
  replace hV := F2.blkO hV (by omega)
  refine wl_nil (x_then (hK4 _ _ ?_))
  clear hK4 K4
  refine c_ret ?_
  refine bq_ret (res1 Tryz.results119 (rv_c rfl ag_104 (h4) rfl)) ?_
  exact ⟨rfl, hF⟩

set_option maxHeartbeats 4000000 in
theorem blight91 {w : World} {C : CB} {SL : List Vl} {s : Nat} (hne : C.s < C.k) (hK : Blk w.heap C.k (cast C) 93) (hV : Blk w.heap C.s (rws vlc SL) 104) (hl : SL.length = 24) (hs : s < 2 ^ 24) :
    Ret Tryz.prog 91 [ptr C.k, u32c s] w (fun v w' => (∃ SL', SL'.length = 24 ∧ (∀ x, x < 24 → envF SL' x = if s.testBit x = true then vE 6 else envF SL x) ∧ Blk w'.heap C.s (rws vlc SL') 104) ∧ Fram (one C.s) w w') := by
  have hF : Fram (one C.s) w w := Fram.refl _ _
  have hm1 : one C.s C.s := rfl
  refine ret_of Tryz.func91 rfl Tryz.ntmps91 rfl ?_
  refine c_seq (fun K1 hK1 => ?_)
  refine c_reg ?_ -- region 0 sweep.go:7
  refine wl (ro_assign rfl) ?_
  refine wl_nil (x_then (hK1 _ _ ?_))
  clear hK1 K1
  refine c_block ?_
  -- loop@r1: live slots [0, 1, 4]
  refine c_loopG (fun m a' w' => ∃ i SL', m = 24 - i ∧ i ≤ 24 ∧ SL'.length = 24 ∧ (∀ x, x < 24 → envF SL' x = if x < i ∧ s.testBit x = true then vE 6 else envF SL x) ∧ Blk w'.heap C.k (cast C) 93 ∧ Blk w'.heap C.s (rws vlc SL') 104 ∧ Fram (one C.s) w w' ∧ ∃ e, a' = Fr 22 (upds e [(0, ptr C.k), (1, u32c s), (4, i64c i)]) []) 24 ⟨0, SL, rfl, by omega, hl, fun x hx => by simp, hK, hV, hF, kp _ ⟨rfl, rfl, rfl, trivial⟩⟩ ?_
  clear hF hV hK
  rintro m a' u1 ⟨i, SL', rfl, hi, hl', i1, hK, hV, hF, e, rfl⟩
  refine c_seq (fun K2 hK2 => ?_)
  refine c_seq (fun K3 hK3 => ?_)
  refine c_reg ?_ -- region 1 sweep.go:7
  refine wl (ro_move rfl) ?_
  refine wl (ro_cmp (r := decide (i < 24)) rfl rfl (congrArg some (decide_eq_decide.2 (by omega)))) ?_
  refine wl_nil (x_then (hK3 _ _ ?_))
  clear hK3 K3
  refine wc_cond rfl (fun hc6 => ?_) (fun hc6 => ?_)
  · try simp only [decide_eq_true_eq, decide_eq_false_iff_not, Bool.not_eq_true', Bool.not_eq_false', Bool.not_eq_eq_eq_not, Bool.not_true, Bool.not_false, beq_iff_eq, bne_iff_ne, ne_eq, beq_eq_false_iff_ne, bne_eq_false_iff_eq, gt_iff_lt, ge_iff_le, Int.not_lt, Int.not_le] at hc6
    refine c_skip (x_then (hK2 _ _ ?_))
    clear hK2 K2
    refine forget [(0, _), (1, _), (4, _)] ⟨rfl, rfl, rfl, trivial⟩ (fun e => ?_)
    refine c_seq (fun K4 hK4 => ?_)
    refine c_block ?_
    refine c_seq (fun K5 hK5 => ?_)
    refine c_reg ?_ -- region 3 sweep.go:8
    refine wl (ro_move rfl) ?_
    refine wl (ro_move rfl) ?_
    refine wl (ro_conv rfl sc_3 in_122 (Go.IntWalk.u64_in _ (by omega))) ?_
    refine wl (ro_shrN rfl rfl (by show i ≤ 32; omega)) ?_
    refine wl (ro_and32 rfl rfl (Nat.lt_of_le_of_lt (Nat.div_le_self _ _) (by omega)) (by decide)) ?_
    refine wl (ro_cmp (r := s.testBit i) rfl rfl (congrArg some (by rw [bit1]; cases s.testBit i <;> rfl))) ?_
    refine wl_nil (x_then (hK5 _ _ ?_))
    clear hK5 K5
    refine wc_cond rfl (fun hc14 => ?_) (fun hc14 => ?_)
    · try simp only [decide_eq_true_eq, decide_eq_false_iff_not, Bool.not_eq_true', Bool.not_eq_false', Bool.not_eq_eq_eq_not, Bool.not_true, Bool.not_false, beq_iff_eq, bne_iff_ne, ne_eq, beq_eq_false_iff_ne, bne_eq_false_iff_eq, gt_iff_lt, ge_iff_le, Int.not_lt, Int.not_le] at hc14
      refine c_piL 7 [(0, false), (1, false), (2, false), (3, false), (4, false), (5, true), (6, false)] (fun w' => Blk w'.heap C.k (cast C) 93) mixed (by kernel_rfl) rfl (by kernel_rfl) (po_blk (po_then (po_then (po_blk (po_bp))))) (hK) ?_ -- region 4 sweep.go:9
      refine ql_ro rfl (fun w hS => ro_move rfl) ?_
      refine ql_ro rfl (fun w hS => ro_nilCheck rfl) ?_
      refine ql_ro rfl (fun w hS => ro_fieldAddr (k := 3) rfl fo_93_3) ?_
      refine ql_ro rfl (fun w hS => ro_loadB rfl sc_86 (hS) (rfl)) ?_
      refine ql_ro rfl (fun w hS => ro_move rfl) ?_
      refine ql_call rfl rfl en_116 (Err116) ?_
      rintro _ u2 ⟨rfl, G2⟩
      replace hF := hF.transG G2 (by intro k hk h; simp only [one, none'] at h ⊢ <;> omega)
      replace hK := G2.blkF hK (by intro h; simp only [one, none'] at h <;> omega)
      replace hV := G2.blkF hV (by intro h; simp only [one, none'] at h <;> omega)
      refine ⟨hK, ?_⟩
      refine ql_ro rfl (fun w hS => ro_indexAddr (et := 104) (k := 3) rfl rfl se_86 rfl (by omega)) ?_
      refine ql_puta rfl rfl rfl ((vlc_cells _)) sz_104 (rfl) hV ((rw_fit vlc_len (i := i) (j := 0) (m := 3) (by omega) (by omega) (by omega))) ((rw_puta vlc_len (i := i) (x' := vE 6) (by omega) (by omega))) (fun w1 hV F1 => ?_)
      replace hF := hF.thenDrew.thenO F1 (by first | exact .inr (by omega) | exact .inl rfl | exact .inl (by assumption))
      replace hK := F1.blkO hK (by omega)
      refine x_blk (x_then (hK4 _ _ ?_))
      clear hK4 K4
      refine c_reg ?_ -- region 2 sweep.go:7
      refine wl (ro_move rfl) ?_
      refine wl (ro_arith (r := ((i + 1 : Nat) : Int)) rfl rfl rfl (Go.IntWalk.i64_in _ (by omega))) ?_
      refine wl (ro_assign rfl) ?_
      refine wl_nil (x_then ?_)
      refine ⟨24 - (i + 1), by omega, i + 1, SL'.set i (vE 6), rfl, by omega, by rw [List.length_set]; exact hl', fun x hx => ?_, hK, hV, hF, kp _ ⟨rfl, rfl, rfl, trivial⟩⟩
      rw [env_set (by omega), i1 x hx]
      by_cases hxi : x = i
      · subst hxi
        rw [if_pos rfl, if_pos ⟨by omega, hc14⟩]
      · rw [if_neg hxi]
        by_cases hq : x < i ∧ s.testBit x = true
        · rw [if_pos hq, if_pos ⟨by omega, hq.2⟩]
        · rw [if_neg hq, if_neg (fun q => hq ⟨by omega, q.2⟩)]
    · try simp only [decide_eq_true_eq, decide_eq_false_iff_not, Bool.not_eq_true', Bool.not_eq_false', Bool.not_eq_eq_eq_not, Bool.not_true, Bool.not_false, beq_iff_eq, bne_iff_ne, ne_eq, beq_eq_false_iff_ne, bne_eq_false_iff_eq, gt_iff_lt, ge_iff_le, Int.not_lt, Int.not_le] at hc14
      refine c_skip (x_blk (x_then (hK4 _ _ ?_)))
      clear hK4 K4
      refine c_reg ?_ -- region 2 sweep.go:7
      refine wl (ro_move rfl) ?_
      refine wl (ro_arith (r := ((i + 1 : Nat) : Int)) rfl rfl rfl (Go.IntWalk.i64_in _ (by omega))) ?_
      refine wl (ro_assign rfl) ?_
      refine wl_nil (x_then ?_)
      refine ⟨24 - (i + 1), by omega, i + 1, SL', rfl, by omega, hl', fun x hx => ?_, hK, hV, hF, kp _ ⟨rfl, rfl, rfl, trivial⟩⟩
      rw [i1 x hx]
      by_cases hq : x < i ∧ s.testBit x = true
      · rw [if_pos hq, if_pos ⟨by omega, hq.2⟩]
      · rw [if_neg hq, if_neg (fun q => ?_)]
        by_cases hxi : x = i
        · subst hxi
          rw [q.2] at hc14
          cases hc14
        · exact hq ⟨by omega, q.2⟩
  · try simp only [decide_eq_true_eq, decide_eq_false_iff_not, Bool.not_eq_true', Bool.not_eq_false', Bool.not_eq_eq_eq_not, Bool.not_true, Bool.not_false, beq_iff_eq, bne_iff_ne, ne_eq, beq_eq_false_iff_ne, bne_eq_false_iff_eq, gt_iff_lt, ge_iff_le, Int.not_lt, Int.not_le] at hc6
    refine c_exit (x_thenX (x_thenX (x_blkX ?_)))
    refine bp_end Tryz.results91 rfl ?_
    refine ⟨⟨SL', hl', fun x hx => ?_, hV⟩, hF⟩
    have : i = 24 := by omega
    subst this
    rw [i1 x hx]
    simp [hx]

end Go.Proofs.Qxb6500570aGreat
