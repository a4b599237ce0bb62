import Derived.Test.Qxb6500567aGreatEc
/- The model's simplifier: child, option, build. -/
namespace Go.Proofs.Qxb6500567aGreat
set_option linter.unusedVariables false
set_option linter.unusedSimpArgs false

/-- The builder under way, the tree beside it. -/
structure MY (w0 w : World) (rb nb : Nat) (tc : List Value) (nc : Nat) (c : Nat → Value) (n : Nat) (VN V0 : Value) : Prop where
  m : MBd w rb tc n VN
  hT : FB w.heap nb nc c 89
  s1 : VN.ownBlock ≠ some nb
  r1 : rb ≠ nb
  fr : Fram (mfr rb V0) w0 w
  no : nob V0 VN w0

/-- And a node of its own. -/
structure MX (w0 w : World) (rb nb xb : Nat) (tc ncs : List Value) (nc : Nat) (c : Nat → Value) (n : Nat) (VN V0 : Value) : Prop where
  y : MY w0 w rb nb tc nc c n VN V0
  hX : Blk w.heap xb ncs 89
  s2 : VN.ownBlock ≠ some xb
  r2 : rb ≠ xb

theorem nob.sep {V V' : Value} {w : World} {b : Nat} (h : nob V V' w) (h1 : V.ownBlock ≠ some b) (h2 : b < w.heap.size) : V'.ownBlock ≠ some b := by
  intro he
  rcases h b he with h' | h'
  · exact h1 h'
  · omega

theorem MY.start {w : World} {rb nb : Nat} {tc : List Value} {nc n : Nat} {c : Nat → Value} {VN : Value} (m : MBd w rb tc n VN) (hT : FB w.heap nb nc c 89) (s1 : VN.ownBlock ≠ some nb) (r1 : rb ≠ nb) : MY w w rb nb tc nc c n VN VN := ⟨m, hT, s1, r1, Fram.refl _ _, nob.refl _ _⟩

theorem MY.call {w0 w w' : World} {rb nb : Nat} {tc : List Value} {nc n n' : Nat} {c : Nat → Value} {VN V0 : Value} (M : MY w0 w rb nb tc nc c n VN V0) (G : GR w rb tc VN n' w') : ∃ VN', MY w0 w' rb nb tc nc c n' VN' V0 := by
  obtain ⟨VN', m, no, f⟩ := G
  exact ⟨VN', m, M.hT.fram f (by rintro (h | h); exact M.r1 h.symm; exact M.s1 h), no.sep M.s1 M.hT.lt, M.r1, M.fr.mfrM f M.no, M.no.trans no M.fr⟩

theorem MX.call {w0 w w' : World} {rb nb xb : Nat} {tc ncs : List Value} {nc n n' : Nat} {c : Nat → Value} {VN V0 : Value} (M : MX w0 w rb nb xb tc ncs nc c n VN V0) (G : GR w rb tc VN n' w') : ∃ VN', MX w0 w' rb nb xb tc ncs nc c n' VN' V0 := by
  obtain ⟨VN', m, no, f⟩ := G
  exact ⟨VN', ⟨m, M.y.hT.fram f (by rintro (h | h); exact M.y.r1 h.symm; exact M.y.s1 h), no.sep M.y.s1 M.y.hT.lt, M.y.r1, M.y.fr.mfrM f M.y.no, M.y.no.trans no M.y.fr⟩, M.hX.fram f (by rintro (h | h); exact M.r2 h.symm; exact M.s2 h), no.sep M.s2 M.hX.lt, M.r2⟩

theorem MY.framN {w0 w w' : World} {rb nb : Nat} {tc : List Value} {nc n : Nat} {c : Nat → Value} {VN V0 : Value} (M : MY w0 w rb nb tc nc c n VN V0) (f : Fram none' w w') : MY w0 w' rb nb tc nc c n VN V0 :=
  ⟨M.m.framN f, M.hT.framN f, M.s1, M.r1, M.fr.thenN f, M.no⟩
theorem MX.framN {w0 w w' : World} {rb nb xb : Nat} {tc ncs : List Value} {nc n : Nat} {c : Nat → Value} {VN V0 : Value} (M : MX w0 w rb nb xb tc ncs nc c n VN V0) (f : Fram none' w w') : MX w0 w' rb nb xb tc ncs nc c n VN V0 :=
  ⟨M.y.framN f, M.hX.framN f, M.s2, M.r2⟩
theorem MX.drew {w0 w : World} {rb nb xb : Nat} {tc ncs : List Value} {nc n d : Nat} {c : Nat → Value} {VN V0 : Value} (M : MX w0 w rb nb xb tc ncs nc c n VN V0) : MX w0 { w with drawn := d } rb nb xb tc ncs nc c n VN V0 := M.framN (Fram.drew none' w d)

theorem MY.out {w0 w : World} {rb nb : Nat} {tc : List Value} {nc n : Nat} {c : Nat → Value} {VN V0 : Value} (M : MY w0 w rb nb tc nc c n VN V0) : GR w0 rb tc V0 n w := ⟨VN, M.m, M.no, M.fr⟩

def BuildOK (nb cap : Nat) (T : List RE) (c : Nat → Value) (z1 z2 z3 z4 : Value) (k : Nat) : Prop := ∀ {w : World} {rb n : Nat} {VN : Value} {r : RE}, MBd w rb (trc nb T.length cap z1 z2 z3 z4) n VN → FB w.heap nb (cap * 11) c 89 → VN.ownBlock ≠ some nb → rb ≠ nb → T[k]? = some r → WF r → shp r = 2 → n + nds (core r) ≤ 500 →
    Ret Tryz.prog 120 [ptr rb, i64c k] w (fun v w' => (∃ j : Nat, v = i64c j) ∧ GR w rb (trc nb T.length cap z1 z2 z3 z4) VN (n + nds (core r)) w')

theorem one11 {k : Nat} {a b mn mx cap : Int} {lz : Bool} {S : Nat} : ∀ u ∈ ndc k a b mn mx cap lz S, u.oneCell' = true := ndP_cells ⟨k, a, b, mn, mx, cap, lz, S⟩

/-- A node laid. -/
theorem add119' {w : World} {rb n nb tl cap k : Nat} {z1 z2 z3 z4 VN : Value} {a b mn mx cp : Int} {lz : Bool} (M : MBd w rb (trc nb tl cap z1 z2 z3 z4) n VN) (hn : n ≤ 1000) (hz : ∀ u ∈ [z1, z2, z3, z4], u.oneCell' = true) :
    Ret Tryz.prog 119 [ptr rb, .agg #[.int .i64 k, .int .i64 a, .int .i64 b, .int .i64 mn, .int .i64 mx, .int .i64 cp, .bool lz, .int .u64 0, .int .u64 0, .int .u64 0, .int .u64 0]] w (fun v w' => v = i64c n ∧ GR w rb (trc nb tl cap z1 z2 z3 z4) VN (n + 1) w') := by
  have := add119 (cs := ndc k a b mn mx cp lz 0) M hn rfl one11 hz
  simp only [ndc, ← wd00] at this
  exact this

theorem child92 {nb cap : Nat} {T : List RE} {c : Nat → Value} {z1 z2 z3 z4 : Value} {k : Nat} (hz : ∀ u ∈ [z1, z2, z3, z4], u.oneCell' = true) (hle : T.length ≤ cap) (hAR : AR T c 0) (hb : BuildOK nb cap T c z1 z2 z3 z4 k) {w : World} {rb n : Nat} {VN : Value} {r : RE} (m : MBd w rb (trc nb T.length cap z1 z2 z3 z4) n VN) (hT : FB w.heap nb (cap * 11) c 89) (s1 : VN.ownBlock ≠ some nb) (r1 : rb ≠ nb) (hk : T[k]? = some r) (hw : WF r) (hn : n + nds (child r) ≤ 500) :
    Ret Tryz.prog 92 [ptr rb, i64c k] w (fun v w' => (∃ j : Nat, v = i64c j) ∧ GR w rb (trc nb T.length cap z1 z2 z3 z4) VN (n + nds (child r)) w') := by
  have M : MY w w rb nb (trc nb T.length cap z1 z2 z3 z4) (cap * 11) c n VN VN := MY.start m hT s1 r1
  have cr := shp_cases r
  have hB := M.m.blk
  refine ret_of Tryz.func92 rfl Tryz.ntmps92 rfl ?_
  refine c_seq (fun K1 hK1 => ?_)
  refine c_reg ?_ -- region 0 simpm.go:146
  refine wl (ro_assign rfl) ?_
  refine wl_nil (x_then (hK1 _ _ ?_))
  clear hK1 K1
  refine forget [(0, _), (1, _)] ⟨rfl, rfl, trivial⟩ (fun e => ?_)
  refine c_seq (fun K2 hK2 => ?_)
  refine c_reg ?_ -- region 1 simpm.go:147
  refine wl (ro_move rfl) ?_
  refine wl (ro_nilCheck rfl) ?_
  refine wl (ro_fieldAddr (k := 0) rfl fo_193_0) ?_
  refine wl (ro_loadAggB rfl ag_151 (hB) (rfl) (rfl)) ?_
  refine wl (ro_move rfl) ?_
  refine wl_call rfl en_117 (shape117 hle hAR k hT hk hw) ?_
  rintro _ w1 ⟨rfl, F1⟩
  replace M := M.framN F1
  refine wl (ro_assign rfl) ?_
  refine wl_nil (x_then (hK2 _ _ ?_))
  clear hK2 K2
  refine c_seq (fun K3 hK3 => ?_)
  refine c_seq (fun K4 hK4 => ?_)
  refine c_reg ?_ -- region 2 simpm.go:148
  refine wl (ro_move rfl) ?_
  refine wl (ro_cmp (r := decide (shp r = 0)) rfl rfl (congrArg some (beqc (shp r) 0))) ?_
  refine wl_nil (x_then (hK4 _ _ ?_))
  clear hK4 K4
  refine wc_cond rfl (fun hc13 => ?_) (fun hc13 => ?_)
  · try simp only [decide_eq_true_eq, decide_eq_false_iff_not, Bool.not_eq_true', Bool.not_eq_false', Bool.not_eq_eq_eq_not, Bool.not_true, Bool.not_false, beq_iff_eq, bne_iff_ne, ne_eq, beq_eq_false_iff_ne, bne_eq_false_iff_eq, gt_iff_lt, ge_iff_le, Int.not_lt, Int.not_le] at hc13
    refine c_seq (fun K5 hK5 => ?_)
    refine c_reg ?_ -- region 3 simpm.go:149
    refine wl (ro_move rfl) ?_
    refine wl (ro_build rfl bld_89_0_1_2) ?_
    refine wl_call rfl en_119 (add119' M.m (by omega) hz) ?_
    rintro _ w2 ⟨rfl, G2⟩
    obtain ⟨VN2, M2⟩ := M.call G2
    clear M
    have M := M2
    refine wl (ro_assign rfl) ?_
    refine wl_nil (x_then (hK5 _ _ ?_))
    clear hK5 K5
    refine c_ret (x_thenR ?_)
    refine bp_ret Tryz.results92 rfl ?_
    rw [child0 hc13]; exact ⟨⟨_, rfl⟩, M.out⟩
  · try simp only [decide_eq_true_eq, decide_eq_false_iff_not, Bool.not_eq_true', Bool.not_eq_false', Bool.not_eq_eq_eq_not, Bool.not_true, Bool.not_false, beq_iff_eq, bne_iff_ne, ne_eq, beq_eq_false_iff_ne, bne_eq_false_iff_eq, gt_iff_lt, ge_iff_le, Int.not_lt, Int.not_le] at hc13
    refine c_skip (x_then (hK3 _ _ ?_))
    clear hK3 K3
    refine c_seq (fun K6 hK6 => ?_)
    refine c_seq (fun K7 hK7 => ?_)
    refine c_reg ?_ -- region 4 simpm.go:151
    refine wl (ro_move rfl) ?_
    refine wl (ro_cmp (r := decide (shp r = 1)) rfl rfl (congrArg some (beqc (shp r) 1))) ?_
    refine wl_nil (x_then (hK7 _ _ ?_))
    clear hK7 K7
    refine wc_cond rfl (fun hc18 => ?_) (fun hc18 => ?_)
    · try simp only [decide_eq_true_eq, decide_eq_false_iff_not, Bool.not_eq_true', Bool.not_eq_false', Bool.not_eq_eq_eq_not, Bool.not_true, Bool.not_false, beq_iff_eq, bne_iff_ne, ne_eq, beq_eq_false_iff_ne, bne_eq_false_iff_eq, gt_iff_lt, ge_iff_le, Int.not_lt, Int.not_le] at hc18
      refine c_seq (fun K8 hK8 => ?_)
      refine c_reg ?_ -- region 5 simpm.go:152
      refine wl (ro_move rfl) ?_
      refine wl (ro_build rfl bld_89_0_1_2) ?_
      refine wl_call rfl en_119 (add119' M.m (by omega) hz) ?_
      rintro _ w2 ⟨rfl, G2⟩
      obtain ⟨VN2, M2⟩ := M.call G2
      clear M
      have M := M2
      refine wl (ro_assign rfl) ?_
      refine wl_nil (x_then (hK8 _ _ ?_))
      clear hK8 K8
      refine c_ret (x_thenR ?_)
      refine bp_ret Tryz.results92 rfl ?_
      rw [child1 hc18]; exact ⟨⟨_, rfl⟩, M.out⟩
    · try simp only [decide_eq_true_eq, decide_eq_false_iff_not, Bool.not_eq_true', Bool.not_eq_false', Bool.not_eq_eq_eq_not, Bool.not_true, Bool.not_false, beq_iff_eq, bne_iff_ne, ne_eq, beq_eq_false_iff_ne, bne_eq_false_iff_eq, gt_iff_lt, ge_iff_le, Int.not_lt, Int.not_le] at hc18
      refine c_skip (x_then (hK6 _ _ ?_))
      clear hK6 K6
      refine forget [(0, _), (1, _)] ⟨rfl, rfl, trivial⟩ (fun e => ?_)
      refine c_seq (fun K9 hK9 => ?_)
      refine c_reg ?_ -- region 6 simpm.go:154
      refine wl (ro_move rfl) ?_
      refine wl (ro_move rfl) ?_
      refine wl_call rfl en_120 (hb M.m M.hT M.s1 M.r1 hk hw (by omega) (by rw [← child2 (r := r) (by omega)]; exact hn)) ?_
      rintro _ w2 ⟨⟨j, rfl⟩, G2⟩
      obtain ⟨VN2, M2⟩ := M.call G2
      clear M
      have M := M2
      refine wl (ro_assign rfl) ?_
      refine wl_nil (x_then (hK9 _ _ ?_))
      clear hK9 K9
      refine c_ret ?_
      refine bp_ret Tryz.results92 rfl ?_
      rw [child2 (by omega)]; exact ⟨⟨j, rfl⟩, M.out⟩

theorem nds_optn1 (y : RE) (lz : Bool) : nds (optn y lz 1) = nds y + 2 := by have := nds_optn y lz 0; simp only [Nat.zero_add] at this; omega

theorem option135 {nb cap : Nat} {T : List RE} {c : Nat → Value} {z1 z2 z3 z4 : Value} {k : Nat} {r : RE} {lz : Bool} (hz : ∀ u ∈ [z1, z2, z3, z4], u.oneCell' = true) (hb : BuildOK nb cap T c z1 z2 z3 z4 k) (hk : T[k]? = some r) (hw : WF r) (h2 : shp r = 2) : ∀ (q : Nat) {w : World} {rb n : Nat} {VN : Value}, MBd w rb (trc nb T.length cap z1 z2 z3 z4) n VN → FB w.heap nb (cap * 11) c 89 → VN.ownBlock ≠ some nb → rb ≠ nb → q ≤ 100 → n + nds (optn (core r) lz (q + 1)) ≤ 500 →
    Ret Tryz.prog 135 [ptr rb, i64c k, i64c (q + 1), .bool lz] w (fun v w' => (∃ j : Nat, v = i64c j) ∧ GR w rb (trc nb T.length cap z1 z2 z3 z4) VN (n + nds (optn (core r) lz (q + 1))) w') := by
  intro q
  induction q with
  | zero =>
    intro w rb n VN m hT s1 r1 hq hn
    have M : MY w w rb nb (trc nb T.length cap z1 z2 z3 z4) (cap * 11) c n VN VN := MY.start m hT s1 r1
    rw [nds_optn1] at hn ⊢
    cases lz
    · skip
      refine ret_of Tryz.func135 rfl Tryz.ntmps135 rfl ?_
      refine c_seq (fun K1 hK1 => ?_)
      refine c_reg ?_ -- region 0 simpm.go:158
      refine wl (ro_assign rfl) ?_
      refine wl_nil (x_then (hK1 _ _ ?_))
      clear hK1 K1
      refine forget [(0, _), (1, _), (2, _), (3, _)] ⟨rfl, rfl, rfl, rfl, trivial⟩ (fun e => ?_)
      refine c_seq (fun K2 hK2 => ?_)
      refine c_reg ?_ -- region 1 simpm.go:159
      refine wl (ro_assign rfl) ?_
      refine wl_nil (x_then (hK2 _ _ ?_))
      clear hK2 K2
      refine c_seq (fun K3 hK3 => ?_)
      refine c_seq (fun K4 hK4 => ?_)
      refine c_reg ?_ -- region 2 simpm.go:160
      refine wl (ro_move rfl) ?_
      refine wl_nil (x_then (hK4 _ _ ?_))
      clear hK4 K4
      refine wc_condF rfl ?_
      refine c_skip (x_then (hK3 _ _ ?_))
      clear hK3 K3
      refine forget [(0, _), (1, _), (2, _), (3, _), (9, _)] ⟨rfl, rfl, rfl, rfl, rfl, trivial⟩ (fun e => ?_)
      refine c_seq (fun K5 hK5 => ?_)
      refine c_reg ?_ -- region 4 simpm.go:163
      refine wl (ro_move rfl) ?_
      refine wl (ro_move rfl) ?_
      refine wl_call rfl en_120 (hb M.m M.hT M.s1 M.r1 hk hw h2 (by omega)) ?_
      rintro _ w2 ⟨⟨j, rfl⟩, G2⟩
      obtain ⟨VN2, M2⟩ := M.call G2
      clear M
      have M := M2
      refine wl (ro_assign rfl) ?_
      refine wl_nil (x_then (hK5 _ _ ?_))
      clear hK5 K5
      refine c_seq (fun K6 hK6 => ?_)
      refine c_seq (fun K7 hK7 => ?_)
      refine c_reg ?_ -- region 5 simpm.go:164
      refine wl (ro_move rfl) ?_
      refine wl (ro_cmp (r := false) rfl rfl rfl) ?_
      refine wl_nil (x_then (hK7 _ _ ?_))
      clear hK7 K7
      refine wc_condF rfl ?_
      refine c_skip (x_then (hK6 _ _ ?_))
      clear hK6 K6
      refine c_seq (fun K8 hK8 => ?_)
      refine c_seq (fun K9 hK9 => ?_)
      refine c_reg ?_ -- region 8 simpm.go:168
      refine wl (ro_move rfl) ?_
      refine wl_nil (x_then (hK9 _ _ ?_))
      clear hK9 K9
      refine wc_condF rfl ?_
      refine c_skip (x_then (hK8 _ _ ?_))
      clear hK8 K8
      refine forget [(0, _), (10, _)] ⟨rfl, rfl, trivial⟩ (fun e => ?_)
      refine c_seq (fun K10 hK10 => ?_)
      refine c_reg ?_ -- region 10 simpm.go:171
      refine wl (ro_move rfl) ?_
      refine wl (ro_build rfl bld_89_0_1_2) ?_
      refine wl_call rfl en_119 (add119' M.m (by omega) hz) ?_
      rintro _ w3 ⟨rfl, G3⟩
      obtain ⟨VN3, M3⟩ := M.call G3
      clear M
      have M := M3
      refine wl (ro_assign rfl) ?_
      refine wl_nil (x_then (hK10 _ _ ?_))
      clear hK10 K10
      refine forget [(0, _), (9, _), (10, _)] ⟨rfl, rfl, rfl, trivial⟩ (fun e => ?_)
      refine c_seq (fun K11 hK11 => ?_)
      refine c_reg ?_ -- region 11 simpm.go:172
      refine wl (ro_move rfl) ?_
      refine wl (ro_move rfl) ?_
      refine wl (ro_move rfl) ?_
      refine wl (ro_build rfl bld_89_0_1_2) ?_
      refine wl_call rfl en_119 (add119' M.m (by omega) hz) ?_
      rintro _ w4 ⟨rfl, G4⟩
      obtain ⟨VN4, M4⟩ := M.call G4
      clear M
      have M := M4
      refine wl (ro_assign rfl) ?_
      refine wl_nil (x_then (hK11 _ _ ?_))
      clear hK11 K11
      refine c_ret ?_
      refine bp_ret Tryz.results135 rfl ?_
      exact ⟨⟨_, rfl⟩, M.out⟩
    · skip
      refine ret_of Tryz.func135 rfl Tryz.ntmps135 rfl ?_
      refine c_seq (fun K1 hK1 => ?_)
      refine c_reg ?_ -- region 0 simpm.go:158
      refine wl (ro_assign rfl) ?_
      refine wl_nil (x_then (hK1 _ _ ?_))
      clear hK1 K1
      refine forget [(0, _), (1, _), (2, _), (3, _)] ⟨rfl, rfl, rfl, rfl, trivial⟩ (fun e => ?_)
      refine c_seq (fun K2 hK2 => ?_)
      refine c_reg ?_ -- region 1 simpm.go:159
      refine wl (ro_assign rfl) ?_
      refine wl_nil (x_then (hK2 _ _ ?_))
      clear hK2 K2
      refine c_seq (fun K3 hK3 => ?_)
      refine c_seq (fun K4 hK4 => ?_)
      refine c_reg ?_ -- region 2 simpm.go:160
      refine wl (ro_move rfl) ?_
      refine wl_nil (x_then (hK4 _ _ ?_))
      clear hK4 K4
      refine wc_condT rfl ?_
      refine c_reg ?_ -- region 3 simpm.go:161
      refine wl (ro_move rfl) ?_
      refine wl (ro_build rfl bld_89_0_1_2) ?_
      refine wl_call rfl en_119 (add119' M.m (by omega) hz) ?_
      rintro _ w3 ⟨rfl, G3⟩
      obtain ⟨VN3, M3⟩ := M.call G3
      clear M
      have M := M3
      refine wl (ro_assign rfl) ?_
      refine wl_nil (x_then (hK3 _ _ ?_))
      clear hK3 K3
      refine forget [(0, _), (1, _), (2, _), (3, _), (9, _)] ⟨rfl, rfl, rfl, rfl, rfl, trivial⟩ (fun e => ?_)
      refine c_seq (fun K5 hK5 => ?_)
      refine c_reg ?_ -- region 4 simpm.go:163
      refine wl (ro_move rfl) ?_
      refine wl (ro_move rfl) ?_
      refine wl_call rfl en_120 (hb M.m M.hT M.s1 M.r1 hk hw h2 (by omega)) ?_
      rintro _ w2 ⟨⟨j, rfl⟩, G2⟩
      obtain ⟨VN2, M2⟩ := M.call G2
      clear M
      have M := M2
      refine wl (ro_assign rfl) ?_
      refine wl_nil (x_then (hK5 _ _ ?_))
      clear hK5 K5
      refine c_seq (fun K6 hK6 => ?_)
      refine c_seq (fun K7 hK7 => ?_)
      refine c_reg ?_ -- region 5 simpm.go:164
      refine wl (ro_move rfl) ?_
      refine wl (ro_cmp (r := false) rfl rfl rfl) ?_
      refine wl_nil (x_then (hK7 _ _ ?_))
      clear hK7 K7
      refine wc_condF rfl ?_
      refine c_skip (x_then (hK6 _ _ ?_))
      clear hK6 K6
      refine c_seq (fun K8 hK8 => ?_)
      refine c_seq (fun K9 hK9 => ?_)
      refine c_reg ?_ -- region 8 simpm.go:168
      refine wl (ro_move rfl) ?_
      refine wl_nil (x_then (hK9 _ _ ?_))
      clear hK9 K9
      refine wc_condT rfl ?_
      refine c_seq (fun K10 hK10 => ?_)
      refine c_reg ?_ -- region 9 simpm.go:169
      refine wl (ro_move rfl) ?_
      refine wl (ro_move rfl) ?_
      refine wl (ro_move rfl) ?_
      refine wl (ro_build rfl bld_89_0_1_2) ?_
      refine wl_call rfl en_119 (add119' M.m (by omega) hz) ?_
      rintro _ w4 ⟨rfl, G4⟩
      obtain ⟨VN4, M4⟩ := M.call G4
      clear M
      have M := M4
      refine wl (ro_assign rfl) ?_
      refine wl_nil (x_then (hK10 _ _ ?_))
      clear hK10 K10
      refine c_ret (x_thenR ?_)
      refine bp_ret Tryz.results135 rfl ?_
      rw [show n + (nds (core r) + 2) = n + 1 + nds (core r) + 1 by omega]; exact ⟨⟨_, rfl⟩, M.out⟩
  | succ q ih =>
    intro w rb n VN m hT s1 r1 hq hn
    have M : MY w w rb nb (trc nb T.length cap z1 z2 z3 z4) (cap * 11) c n VN VN := MY.start m hT s1 r1
    rw [nds_optn2] at hn ⊢
    cases lz
    · skip
      refine ret_of Tryz.func135 rfl Tryz.ntmps135 rfl ?_
      refine c_seq (fun K1 hK1 => ?_)
      refine c_reg ?_ -- region 0 simpm.go:158
      refine wl (ro_assign rfl) ?_
      refine wl_nil (x_then (hK1 _ _ ?_))
      clear hK1 K1
      refine forget [(0, _), (1, _), (2, _), (3, _)] ⟨rfl, rfl, rfl, rfl, trivial⟩ (fun e => ?_)
      refine c_seq (fun K2 hK2 => ?_)
      refine c_reg ?_ -- region 1 simpm.go:159
      refine wl (ro_assign rfl) ?_
      refine wl_nil (x_then (hK2 _ _ ?_))
      clear hK2 K2
      refine c_seq (fun K3 hK3 => ?_)
      refine c_seq (fun K4 hK4 => ?_)
      refine c_reg ?_ -- region 2 simpm.go:160
      refine wl (ro_move rfl) ?_
      refine wl_nil (x_then (hK4 _ _ ?_))
      clear hK4 K4
      refine wc_condF rfl ?_
      refine c_skip (x_then (hK3 _ _ ?_))
      clear hK3 K3
      refine forget [(0, _), (1, _), (2, _), (3, _), (9, _)] ⟨rfl, rfl, rfl, rfl, rfl, trivial⟩ (fun e => ?_)
      refine c_seq (fun K5 hK5 => ?_)
      refine c_reg ?_ -- region 4 simpm.go:163
      refine wl (ro_move rfl) ?_
      refine wl (ro_move rfl) ?_
      refine wl_call rfl en_120 (hb M.m M.hT M.s1 M.r1 hk hw h2 (by omega)) ?_
      rintro _ w2 ⟨⟨j, rfl⟩, G2⟩
      obtain ⟨VN2, M2⟩ := M.call G2
      clear M
      have M := M2
      refine wl (ro_assign rfl) ?_
      refine wl_nil (x_then (hK5 _ _ ?_))
      clear hK5 K5
      refine c_seq (fun K6 hK6 => ?_)
      refine c_seq (fun K7 hK7 => ?_)
      refine c_reg ?_ -- region 5 simpm.go:164
      refine wl (ro_move rfl) ?_
      refine wl (ro_cmp (r := true) rfl rfl (congrArg some (decide_eq_true (by omega)))) ?_
      refine wl_nil (x_then (hK7 _ _ ?_))
      clear hK7 K7
      refine wc_condT rfl ?_
      refine c_seq (fun K8 hK8 => ?_)
      refine c_reg ?_ -- region 6 simpm.go:165
      refine wl (ro_move rfl) ?_
      refine wl (ro_move rfl) ?_
      refine wl (ro_move rfl) ?_
      refine wl (ro_arith (r := ((q + 1 : Nat) : Int)) rfl rfl (congrArg some (by omega)) (Go.IntWalk.i64_in _ (by omega))) ?_
      refine wl (ro_move rfl) ?_
      refine wl_call rfl en_135 (ih M.m M.hT M.s1 M.r1 (by omega) (by omega)) ?_
      rintro _ w5 ⟨⟨j5, rfl⟩, G5⟩
      obtain ⟨VN5, M5⟩ := M.call G5
      clear M
      have M := M5
      refine wl (ro_assign rfl) ?_
      refine wl_nil (x_then (hK8 _ _ ?_))
      clear hK8 K8
      refine c_reg ?_ -- region 7 simpm.go:166
      refine wl (ro_move rfl) ?_
      refine wl (ro_move rfl) ?_
      refine wl (ro_move rfl) ?_
      refine wl (ro_build rfl bld_89_0_1_2) ?_
      refine wl_call rfl en_119 (add119' M.m (by omega) hz) ?_
      rintro _ w6 ⟨rfl, G6⟩
      obtain ⟨VN6, M6⟩ := M.call G6
      clear M
      have M := M6
      refine wl (ro_assign rfl) ?_
      refine wl_nil (x_then (hK6 _ _ ?_))
      clear hK6 K6
      refine c_seq (fun K9 hK9 => ?_)
      refine c_seq (fun K10 hK10 => ?_)
      refine c_reg ?_ -- region 8 simpm.go:168
      refine wl (ro_move rfl) ?_
      refine wl_nil (x_then (hK10 _ _ ?_))
      clear hK10 K10
      refine wc_condF rfl ?_
      refine c_skip (x_then (hK9 _ _ ?_))
      clear hK9 K9
      refine forget [(0, _), (10, _)] ⟨rfl, rfl, trivial⟩ (fun e => ?_)
      refine c_seq (fun K11 hK11 => ?_)
      refine c_reg ?_ -- region 10 simpm.go:171
      refine wl (ro_move rfl) ?_
      refine wl (ro_build rfl bld_89_0_1_2) ?_
      refine wl_call rfl en_119 (add119' M.m (by omega) hz) ?_
      rintro _ w3 ⟨rfl, G3⟩
      obtain ⟨VN3, M3⟩ := M.call G3
      clear M
      have M := M3
      refine wl (ro_assign rfl) ?_
      refine wl_nil (x_then (hK11 _ _ ?_))
      clear hK11 K11
      refine forget [(0, _), (9, _), (10, _)] ⟨rfl, rfl, rfl, trivial⟩ (fun e => ?_)
      refine c_seq (fun K12 hK12 => ?_)
      refine c_reg ?_ -- region 11 simpm.go:172
      refine wl (ro_move rfl) ?_
      refine wl (ro_move rfl) ?_
      refine wl (ro_move rfl) ?_
      refine wl (ro_build rfl bld_89_0_1_2) ?_
      refine wl_call rfl en_119 (add119' M.m (by omega) hz) ?_
      rintro _ w4 ⟨rfl, G4⟩
      obtain ⟨VN4, M4⟩ := M.call G4
      clear M
      have M := M4
      refine wl (ro_assign rfl) ?_
      refine wl_nil (x_then (hK12 _ _ ?_))
      clear hK12 K12
      refine c_ret ?_
      refine bp_ret Tryz.results135 rfl ?_
      rw [show n + (nds (optn (core r) false (q + 1)) + nds (core r) + 3) = n + nds (core r) + nds (optn (core r) false (q + 1)) + 1 + 1 + 1 by omega]; exact ⟨⟨_, rfl⟩, M.out⟩
    · skip
      refine ret_of Tryz.func135 rfl Tryz.ntmps135 rfl ?_
      refine c_seq (fun K1 hK1 => ?_)
      refine c_reg ?_ -- region 0 simpm.go:158
      refine wl (ro_assign rfl) ?_
      refine wl_nil (x_then (hK1 _ _ ?_))
      clear hK1 K1
      refine forget [(0, _), (1, _), (2, _), (3, _)] ⟨rfl, rfl, rfl, rfl, trivial⟩ (fun e => ?_)
      refine c_seq (fun K2 hK2 => ?_)
      refine c_reg ?_ -- region 1 simpm.go:159
      refine wl (ro_assign rfl) ?_
      refine wl_nil (x_then (hK2 _ _ ?_))
      clear hK2 K2
      refine c_seq (fun K3 hK3 => ?_)
      refine c_seq (fun K4 hK4 => ?_)
      refine c_reg ?_ -- region 2 simpm.go:160
      refine wl (ro_move rfl) ?_
      refine wl_nil (x_then (hK4 _ _ ?_))
      clear hK4 K4
      refine wc_condT rfl ?_
      refine c_reg ?_ -- region 3 simpm.go:161
      refine wl (ro_move rfl) ?_
      refine wl (ro_build rfl bld_89_0_1_2) ?_
      refine wl_call rfl en_119 (add119' M.m (by omega) hz) ?_
      rintro _ w3 ⟨rfl, G3⟩
      obtain ⟨VN3, M3⟩ := M.call G3
      clear M
      have M := M3
      refine wl (ro_assign rfl) ?_
      refine wl_nil (x_then (hK3 _ _ ?_))
      clear hK3 K3
      refine forget [(0, _), (1, _), (2, _), (3, _), (9, _)] ⟨rfl, rfl, rfl, rfl, rfl, trivial⟩ (fun e => ?_)
      refine c_seq (fun K5 hK5 => ?_)
      refine c_reg ?_ -- region 4 simpm.go:163
      refine wl (ro_move rfl) ?_
      refine wl (ro_move rfl) ?_
      refine wl_call rfl en_120 (hb M.m M.hT M.s1 M.r1 hk hw h2 (by omega)) ?_
      rintro _ w2 ⟨⟨j, rfl⟩, G2⟩
      obtain ⟨VN2, M2⟩ := M.call G2
      clear M
      have M := M2
      refine wl (ro_assign rfl) ?_
      refine wl_nil (x_then (hK5 _ _ ?_))
      clear hK5 K5
      refine c_seq (fun K6 hK6 => ?_)
      refine c_seq (fun K7 hK7 => ?_)
      refine c_reg ?_ -- region 5 simpm.go:164
      refine wl (ro_move rfl) ?_
      refine wl (ro_cmp (r := true) rfl rfl (congrArg some (decide_eq_true (by omega)))) ?_
      refine wl_nil (x_then (hK7 _ _ ?_))
      clear hK7 K7
      refine wc_condT rfl ?_
      refine c_seq (fun K8 hK8 => ?_)
      refine c_reg ?_ -- region 6 simpm.go:165
      refine wl (ro_move rfl) ?_
      refine wl (ro_move rfl) ?_
      refine wl (ro_move rfl) ?_
      refine wl (ro_arith (r := ((q + 1 : Nat) : Int)) rfl rfl (congrArg some (by omega)) (Go.IntWalk.i64_in _ (by omega))) ?_
      refine wl (ro_move rfl) ?_
      refine wl_call rfl en_135 (ih M.m M.hT M.s1 M.r1 (by omega) (by omega)) ?_
      rintro _ w5 ⟨⟨j5, rfl⟩, G5⟩
      obtain ⟨VN5, M5⟩ := M.call G5
      clear M
      have M := M5
      refine wl (ro_assign rfl) ?_
      refine wl_nil (x_then (hK8 _ _ ?_))
      clear hK8 K8
      refine c_reg ?_ -- region 7 simpm.go:166
      refine wl (ro_move rfl) ?_
      refine wl (ro_move rfl) ?_
      refine wl (ro_move rfl) ?_
      refine wl (ro_build rfl bld_89_0_1_2) ?_
      refine wl_call rfl en_119 (add119' M.m (by omega) hz) ?_
      rintro _ w6 ⟨rfl, G6⟩
      obtain ⟨VN6, M6⟩ := M.call G6
      clear M
      have M := M6
      refine wl (ro_assign rfl) ?_
      refine wl_nil (x_then (hK6 _ _ ?_))
      clear hK6 K6
      refine c_seq (fun K9 hK9 => ?_)
      refine c_seq (fun K10 hK10 => ?_)
      refine c_reg ?_ -- region 8 simpm.go:168
      refine wl (ro_move rfl) ?_
      refine wl_nil (x_then (hK10 _ _ ?_))
      clear hK10 K10
      refine wc_condT rfl ?_
      refine c_seq (fun K11 hK11 => ?_)
      refine c_reg ?_ -- region 9 simpm.go:169
      refine wl (ro_move rfl) ?_
      refine wl (ro_move rfl) ?_
      refine wl (ro_move rfl) ?_
      refine wl (ro_build rfl bld_89_0_1_2) ?_
      refine wl_call rfl en_119 (add119' M.m (by omega) hz) ?_
      rintro _ w4 ⟨rfl, G4⟩
      obtain ⟨VN4, M4⟩ := M.call G4
      clear M
      have M := M4
      refine wl (ro_assign rfl) ?_
      refine wl_nil (x_then (hK11 _ _ ?_))
      clear hK11 K11
      refine c_ret (x_thenR ?_)
      refine bp_ret Tryz.results135 rfl ?_
      rw [show n + (nds (optn (core r) true (q + 1)) + nds (core r) + 3) = n + 1 + nds (core r) + nds (optn (core r) true (q + 1)) + 1 + 1 by omega]; exact ⟨⟨_, rfl⟩, M.out⟩

end Go.Proofs.Qxb6500567aGreat
