import Derived.Test.Qxb6500570aGreatGc
import Derived.Test.Qxb6500570aGreatDn
/- The model's sheet. -/
namespace Go.Proofs.Qxb6500570aGreat
set_option linter.unusedVariables false
set_option linter.unusedSimpArgs false

theorem MGr.congr {w : World} {gm rb : Nat} {R R' : Nat → Nat} (h : MGr w gm rb R) (e : ∀ c, c < 24 → R' c = R c) : MGr w gm rb R' := by
  obtain ⟨h1, h2, RL, h3, h4, h5, h6⟩ := h
  exact ⟨h1, h2, RL, h3, h4, fun c hc => by rw [e c hc]; exact h5 c hc, fun c hc => by rw [e c hc]; exact h6 c hc⟩
structure MB where
  k : Nat
  r : Nat
  v : Nat
  f : Nat
def MaB (lo hi : Nat) (M : MB) : Prop := lo ≤ M.f ∧ M.f < M.v ∧ M.v < M.r ∧ M.r < M.k ∧ M.k < hi
abbrev mst (M : MB) (sb : Nat) (n : Int) : List Value := [ptr M.v, sl M.r 24, sl sb 24, icv n]
structure MaV (w : World) (M : MB) (sb : Nat) (T : List (List UInt8)) (SL : List Vl) : Prop where
  hK : ∃ n, Blk w.heap M.k (mst M sb n) 129
  hR : Blk w.heap M.r (rws stc T) 9
  hV : Blk w.heap sb (rws vlc SL) 104
  tl : T.length = 24
  sl : SL.length = 24
  t40 : ∀ t ∈ T, t.length ≤ 40
  lw : ∀ v ∈ SL, Lw v
  ev : MEv w M.v M.f
  sh : ∃ L, ShOK (tF T) L (envF SL)
theorem MaV.far {w w' : World} {lo hi sb : Nat} {M : MB} {T : List (List UInt8)} {SL : List Vl} {G : Nat → Prop} (hb : MaB lo hi M) (h : MaV w M sb T SL) (F : Fram G w w') (hn : ∀ b, lo ≤ b → b < hi → ¬ G b) (hs : ¬ G sb) : MaV w' M sb T SL := by
  obtain ⟨b1, b2, b3, b4, b5⟩ := hb
  obtain ⟨n, hK⟩ := h.hK
  exact ⟨⟨n, F.blkF hK (hn _ (by omega) (by omega))⟩, F.blkF h.hR (hn _ (by omega) (by omega)), F.blkF h.hV hs, h.tl, h.sl, h.t40, h.lw, h.ev.far (lo := lo) (hi := hi) ⟨by omega, by omega⟩ F hn, h.sh⟩
theorem Raw77 {w : World} {M : MB} {sb c : Nat} {n : Int} {T : List (List UInt8)} (hK : Blk w.heap M.k (mst M sb n) 129) (hR : Blk w.heap M.r (rws stc T) 9) (hl : T.length = 24) (hc : c < 24) : Ret Tryz.prog 77 [ptr M.k, i64c c] w (fun v w' => v = S (tF T c) ∧ w' = w) := by
  refine ret_of Tryz.func77 rfl Tryz.ntmps77 rfl ?_
  refine c_seq (fun K1 hK1 => ?_)
  refine c_reg ?_ -- region 0 calcm.go:63
  refine wl (ro_assign rfl) ?_
  refine wl_nil (x_then (hK1 _ _ ?_))
  clear hK1 K1
  refine c_seq (fun K2 hK2 => ?_)
  refine c_seq (fun K3 hK3 => ?_)
  refine c_reg ?_ -- region 1 calcm.go:64
  refine wl (ro_move rfl) ?_
  refine wl (ro_cmp (r := false) rfl rfl (congrArg some (decide_eq_false (by omega)))) ?_
  refine wl (ro_move rfl) ?_
  refine wlg_yes rfl (ro_move rfl) ?_
  refine wlg_yes rfl (ro_cmp (r := false) rfl rfl (congrArg some (decide_eq_false (by omega)))) ?_
  refine wl (ro_pick rfl rfl rfl) ?_
  refine wl_nil (x_then (hK3 _ _ ?_))
  clear hK3 K3
  refine wc_condF rfl ?_
  refine c_skip (x_then (hK2 _ _ ?_))
  clear hK2 K2
  refine forget [(0, _), (1, _)] ⟨rfl, rfl, trivial⟩ (fun e => ?_)
  refine c_seq (fun K4 hK4 => ?_)
  refine c_reg ?_ -- region 3 calcm.go:67
  refine wl (ro_move rfl) ?_
  refine wl (ro_nilCheck rfl) ?_
  refine wl (ro_fieldAddr (k := 1) rfl fo_129_1) ?_
  refine wl (ro_loadB rfl sc_56 (by assumption) rfl) ?_
  refine wl (ro_move rfl) ?_
  refine wl (ro_indexAddr (et := 9) (k := 1) rfl rfl se_56 rfl (by omega)) ?_
  refine wl (ro_loadB rfl sc_9 (hR) ((rw_get stc_len (tF_get (T := T) (c := c) (by omega)) (j := 0) (by omega) rfl))) ?_
  refine wl (ro_assign rfl) ?_
  refine wl_nil (x_then (hK4 _ _ ?_))
  clear hK4 K4
  refine c_ret ?_
  refine bp_ret Tryz.results77 rfl ?_
  exact ⟨rfl, rfl⟩
theorem Value120 {w : World} {M : MB} {sb c : Nat} {n : Int} {SL : List Vl} (hK : Blk w.heap M.k (mst M sb n) 129) (hV : Blk w.heap sb (rws vlc SL) 104) (hl : SL.length = 24) (hc : c < 24) : Ret Tryz.prog 120 [ptr M.k, i64c c] w (fun v w' => v = vlA (envF SL c) ∧ Fram none' w w') := by
  have hF : Fram none' w w := Fram.refl _ _
  refine ret_of Tryz.func120 rfl Tryz.ntmps120 rfl ?_
  refine c_seq (fun K1 hK1 => ?_)
  refine c_reg ?_ -- region 0 calcm.go:70
  refine wl_new (ze_104) (fun b4 w1 hbb4 h4 F1 => ?_)
  have hbsb4 := Nat.le_trans hF.size hbb4
  have hneM.kb4 : M.k < b4 := Nat.lt_of_lt_of_le hK.lt hbb4
  have hnesbb4 : sb < b4 := Nat.lt_of_lt_of_le hV.lt hbb4
  replace hF := hF.thenDrew.thenN F1
  replace hK := F1.blkN hK
  replace hV := F1.blkN hV
  refine wl_nil (x_then (hK1 _ _ ?_))
  clear hK1 K1
  refine c_seq (fun K2 hK2 => ?_)
  refine c_seq (fun K3 hK3 => ?_)
  refine c_reg ?_ -- region 1 calcm.go:71
  refine wl (ro_move rfl) ?_
  refine wl (ro_cmp (r := false) rfl rfl (congrArg some (decide_eq_false (by omega)))) ?_
  refine wl (ro_move rfl) ?_
  refine wlg_yes rfl (ro_move rfl) ?_
  refine wlg_yes rfl (ro_cmp (r := false) rfl rfl (congrArg some (decide_eq_false (by omega)))) ?_
  refine wl (ro_pick rfl rfl rfl) ?_
  refine wl_nil (x_then (hK3 _ _ ?_))
  clear hK3 K3
  refine wc_condF rfl ?_
  refine c_skip (x_then (hK2 _ _ ?_))
  clear hK2 K2
  refine forget [(0, _), (1, _), (4, _)] ⟨rfl, rfl, rfl, trivial⟩ (fun e => ?_)
  refine c_seq (fun K4 hK4 => ?_)
  refine c_reg ?_ -- region 3 calcm.go:74
  refine wl (ro_move rfl) ?_
  refine wl (ro_nilCheck rfl) ?_
  refine wl (ro_fieldAddr (k := 2) rfl fo_129_2) ?_
  refine wl (ro_loadB rfl sc_86 (by assumption) rfl) ?_
  refine wl (ro_move rfl) ?_
  refine wl (ro_indexAddr (et := 104) (k := 3) rfl rfl se_86 rfl (by omega)) ?_
  refine wl (ro_loadAggB rfl ag_104 (hV) ((vlc_len _)) ((rw_agg vlc_len (env_get (EL := SL) (c := c) (by omega)) (by omega)))) ?_
  refine wl_puta rfl rfl ((by (try exact vlc_cells _); all_goals simp [Value.oneCell', i64c, icv, u64c, u8c, ptr, S])) sz_104 (rfl) h4 ((by simp)) (rfl) (fun w2 h4 F2 => ?_)
  replace hF := hF.thenDrew.thenO F2 (by first | exact .inr (by omega) | exact .inl rfl | exact .inl (by assumption))
  replace hK := F2.blkO hK (by omega)
  replace hV := F2.blkO hV (by omega)
  refine wl_nil (x_then (hK4 _ _ ?_))
  clear hK4 K4
  refine c_ret ?_
  refine bq_ret (res1 Tryz.results120 (rv_c rfl ag_104 (h4) rfl)) ?_
  exact ⟨rfl, hF⟩
set_option maxHeartbeats 4000000 in
theorem wires121 {w : World} {lo hi sb : Nat} {n : Int} {M : MB} {T : List (List UInt8)} (hb : MaB lo hi M) (hhi : hi ≤ w.heap.size) (hK : Blk w.heap M.k (mst M sb n) 129) (hR : Blk w.heap M.r (rws stc T) 9) (htl : T.length = 24) (h40 : ∀ t ∈ T, t.length ≤ 40) (hev : MEv w M.v M.f) :
    Ret Tryz.prog 121 [ptr M.k] w (fun v w' => (∃ gm rb, v = ptr gm ∧ w.heap.size ≤ rb ∧ gm < w'.heap.size ∧ MGr w' gm rb (rdT' (tF T))) ∧ MEv w' M.v M.f ∧ Fram (rng lo M.r) w w') := by
  have hF : Fram (rng lo M.r) w w := Fram.refl _ _
  have hbb := hb
  obtain ⟨b1, b2, b3, b4, b5⟩ := hb
  have hbe : lo ≤ M.f ∧ M.v < M.r := ⟨by omega, by omega⟩
  refine ret_of Tryz.func121 rfl Tryz.ntmps121 rfl ?_
  refine c_seq (fun K1 hK1 => ?_)
  refine c_reg ?_ -- region 0 calcm.go:23
  refine wl (ro_assign rfl) ?_
  refine wl_nil (x_then (hK1 _ _ ?_))
  clear hK1 K1
  refine forget [(0, _)] ⟨rfl, trivial⟩ (fun e => ?_)
  refine c_seq (fun K2 hK2 => ?_)
  refine c_reg ?_ -- region 1 calcm.go:24
  refine wl_call rfl en_145 (New145) ?_
  rintro _ u1 ⟨gm, rb, rfl, hrb, hgm, hg, G1⟩
  replace hev := hev.far hbe G1 (fun _ _ _ h => h)
  have hsz1 := G1.size
  replace hF := hF.transG G1 (by intro k hk h; simp only [one, none', rng] at h ⊢ <;> omega)
  replace hK := G1.blkF hK (by intro h; simp only [one, none', rng] at h <;> omega)
  replace hR := G1.blkF hR (by intro h; simp only [one, none', rng] at h <;> omega)
  refine wl (ro_assign rfl) ?_
  refine wl_nil (x_then (hK2 _ _ ?_))
  clear hK2 K2
  refine c_seq (fun K3 hK3 => ?_)
  refine c_seq (fun K4 hK4 => ?_)
  refine c_reg ?_ -- region 2 calcm.go:25
  refine wl (ro_assign rfl) ?_
  refine wl_nil (x_then (hK4 _ _ ?_))
  clear hK4 K4
  refine c_block ?_
  -- loop@r3: live slots [0, 3, 4]
  refine c_loopG (fun m a' w' => ∃ i, m = 24 - i ∧ i ≤ 24 ∧ gm < w'.heap.size ∧ MGr w' gm rb (fun x => if x < i then rdsV (tF T x) else 0) ∧ MEv w' M.v M.f ∧ Blk w'.heap M.k (mst M sb n) 129 ∧ Blk w'.heap M.r (rws stc T) 9 ∧ Fram (rng lo M.r) w w' ∧ ∃ e, a' = Fr 32 (upds e [(0, ptr M.k), (3, ptr gm), (4, i64c i)]) []) 24 ⟨0, rfl, by omega, hgm, hg.congr (fun c hc => by simp), hev, hK, hR, hF, kp _ ⟨rfl, rfl, rfl, trivial⟩⟩ ?_
  have hrg := hg.1
  clear hF hK hR hev hg hgm
  rintro m a' u2 ⟨i, rfl, hi24, hgm, hg, hev, hK, hR, hF, e, rfl⟩
  have hsz2 := hF.size
  refine c_seq (fun K5 hK5 => ?_)
  refine c_seq (fun K6 hK6 => ?_)
  refine c_reg ?_ -- region 3 calcm.go:25
  refine wl (ro_move rfl) ?_
  refine wl (ro_cmp (r := decide (i < 24)) rfl rfl (congrArg some (decide_eq_decide.2 (by omega)))) ?_
  refine wl_nil (x_then (hK6 _ _ ?_))
  clear hK6 K6
  refine wc_cond rfl (fun hc9 => ?_) (fun hc9 => ?_)
  · try simp only [decide_eq_true_eq, decide_eq_false_iff_not, Bool.not_eq_true', Bool.not_eq_false', Bool.not_eq_eq_eq_not, Bool.not_true, Bool.not_false, beq_iff_eq, bne_iff_ne, ne_eq, beq_eq_false_iff_ne, bne_eq_false_iff_eq, gt_iff_lt, ge_iff_le, Int.not_lt, Int.not_le] at hc9
    refine c_skip (x_then (hK5 _ _ ?_))
    clear hK5 K5
    refine forget [(0, _), (3, _), (4, _)] ⟨rfl, rfl, rfl, trivial⟩ (fun e => ?_)
    refine c_seq (fun K7 hK7 => ?_)
    refine c_block ?_
    refine c_seq (fun K8 hK8 => ?_)
    refine c_pi [(0, false), (1, false), (2, false), (3, false), (4, false), (5, false), (6, false), (7, false), (8, false), (9, false), (10, false), (11, true), (12, false), (13, false), (14, false), (15, false), (16, false)] (fun w' => Blk w'.heap M.k (mst M sb n) 129 ∧ Blk w'.heap M.r (rws stc T) 9) mixed (by kernel_rfl) rfl (by kernel_rfl) (po_then (po_blk (po_then (po_then (po_blk (po_then (po_bp))))))) (⟨hK, hR⟩) ?_ -- region 5 calcm.go:26
    refine pi_ro rfl (fun w hS => ro_move rfl) ?_
    refine pi_ro rfl (fun w hS => ro_nilCheck rfl) ?_
    refine pi_ro rfl (fun w hS => ro_fieldAddr (k := 0) rfl fo_129_0) ?_
    refine pi_ro rfl (fun w hS => ro_loadB rfl sc_126 (hS.1) (rfl)) ?_
    refine pi_ro rfl (fun w hS => ro_move rfl) ?_
    refine pi_ro rfl (fun w hS => ro_nilCheck rfl) ?_
    refine pi_ro rfl (fun w hS => ro_fieldAddr (k := 1) rfl fo_129_1) ?_
    refine pi_ro rfl (fun w hS => ro_loadB rfl sc_56 (hS.1) (rfl)) ?_
    refine pi_ro rfl (fun w hS => ro_move rfl) ?_
    refine pi_ro rfl (fun w hS => ro_indexAddr (et := 9) (k := 1) rfl rfl se_56 rfl (by omega)) ?_
    refine pi_ro rfl (fun w hS => ro_loadB rfl sc_9 (hS.2) ((rw_get stc_len (tF_get (T := T) (c := i) (by omega)) (j := 0) (by omega) rfl))) ?_
    refine pi_call rfl rfl en_146 (ReadsM146 (hev.far hbe (Fram.drew none' u2 _) (fun _ _ _ h ↦ h)) hbe (h40 _ (tF_mem (by omega)))) ?_
    rintro _ u3 ⟨rfl, hev, G3⟩
    replace hg := hg.far (w := u2) (lo := rb) (hi := gm + 1) ⟨by omega, by omega⟩ ((Fram.drew none' u2 _).mono (fun _ _ h => h.elim) |>.trans G3) (fun b q1 q2 hh => absurd hh.2 (by omega))
    have hsz3 : u2.heap.size ≤ u3.heap.size := G3.size
    replace hF := hF.transG G3 (by intro k hk h; simp only [one, none', rng] at h ⊢ <;> omega)
    replace hK := G3.blkF hK (by intro h; simp only [one, none', rng] at h <;> omega)
    replace hR := G3.blkF hR (by intro h; simp only [one, none', rng] at h <;> omega)
    refine ⟨⟨hK, hR⟩, ?_⟩
    refine pi_ro rfl (fun w hS => ro_move rfl) ?_
    refine pi_ro rfl (fun w hS => ro_extract rfl rfl) ?_
    refine pi_ro rfl (fun w hS => ro_extract rfl rfl) ?_
    refine pi_ro rfl (fun w hS => ro_assign rfl) ?_
    refine pi_ro rfl (fun w hS => ro_assign rfl) ?_
    refine pi_nil (x_then (hK8 _ _ ?_))
    clear hK8 K8
    refine c_reg ?_ -- region 6 calcm.go:27
    refine wl (ro_move rfl) ?_
    refine wl (ro_move rfl) ?_
    refine wl (ro_move rfl) ?_
    refine wl_call rfl en_147 (SetM147 (lo := rb) (hi := gm + 1) hg ⟨by omega, by omega⟩ (by omega) (rdsV_lt _)) ?_
    rintro _ u4 ⟨rfl, hg, G4⟩
    replace hev := hev.far hbe G4 (fun b q1 q2 hh => absurd hh.1 (by omega))
    have hsz4 := G4.size
    replace hF := hF.transG G4 (by intro k hk h; simp only [one, none', rng] at h ⊢ <;> omega)
    replace hK := G4.blkF hK (by intro h; simp only [one, none', rng] at h <;> omega)
    replace hR := G4.blkF hR (by intro h; simp only [one, none', rng] at h <;> omega)
    refine wl_nil (x_blk (x_then (hK7 _ _ ?_)))
    clear hK7 K7
    refine c_reg ?_ -- region 4 calcm.go:25
    refine wl (ro_move rfl) ?_
    refine wl (ro_arith (r := ((i + 1 : Nat) : Int)) rfl rfl rfl (Go.IntWalk.i64_in _ (by omega))) ?_
    refine wl (ro_assign rfl) ?_
    refine wl_nil (x_then ?_)
    refine ⟨24 - (i + 1), by omega, i + 1, rfl, by omega, by omega, hg.congr (fun c hc => ?_), hev, hK, hR, hF, kp _ ⟨rfl, rfl, rfl, trivial⟩⟩
    show (if c < i + 1 then rdsV (tF T c) else 0) = if c = i then rdsV (tF T i) else if c < i then rdsV (tF T c) else 0
    by_cases q : c = i
    · subst q; rw [if_pos (by omega), if_pos rfl]
    · rw [if_neg q]
      by_cases q2 : c < i
      · rw [if_pos q2, if_pos (by omega)]
      · rw [if_neg q2, if_neg (by omega)]
  · try simp only [decide_eq_true_eq, decide_eq_false_iff_not, Bool.not_eq_true', Bool.not_eq_false', Bool.not_eq_eq_eq_not, Bool.not_true, Bool.not_false, beq_iff_eq, bne_iff_ne, ne_eq, beq_eq_false_iff_ne, bne_eq_false_iff_eq, gt_iff_lt, ge_iff_le, Int.not_lt, Int.not_le] at hc9
    refine c_exit (x_thenX (x_thenX (x_blkX (x_then (hK3 _ _ ?_)))))
    clear hK5 K5 hK3 K3
    refine forget [(3, _)] ⟨rfl, trivial⟩ (fun e => ?_)
    refine c_seq (fun K9 hK9 => ?_)
    refine c_reg ?_ -- region 7 calcm.go:29
    refine wl (ro_move rfl) ?_
    refine wl (ro_assign rfl) ?_
    refine wl_nil (x_then (hK9 _ _ ?_))
    clear hK9 K9
    refine c_ret ?_
    refine bp_ret Tryz.results121 rfl ?_
    have : i = 24 := by omega
    subst this
    exact ⟨⟨gm, rb, rfl, hrb, hgm, hg.congr (fun c hc => by show rdsV (tF T c) = if c < 24 then rdsV (tF T c) else 0; rw [if_pos hc])⟩, hev, hF⟩

end Go.Proofs.Qxb6500570aGreat
