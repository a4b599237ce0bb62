import Derived.Test.Qxb6500567aGreatMb
/- The finder: width, size, lay. -/
namespace Go.Proofs.Qxb6500567aGreat
set_option linter.unusedVariables false
set_option linter.unusedSimpArgs false

def SpV (sf : Nat → Value) (L : List (List Int)) : Prop := ∀ (k : Nat) (c : List Int), L[k]? = some c → ∀ j, j < 8 → sf (k * 8 + j) = icv (c.getD j 0)
theorem SpV.row {sf : Nat → Value} {L : List (List Int)} (h : SpV sf L) {k : Nat} {c : List Int} (hk : L[k]? = some c) (hl : k < 257) : ((cel 2056 sf).drop (0 + k * 8)).take 8 = capc c := by
  rw [cel_sub (by omega), Nat.zero_add]
  exact cel_congr (fun j hj => h k c hk j hj)
theorem PcV.row {pf : Nat → Value} {P : List PC} (h : PcV pf P) {k : Nat} {p : PC} (hk : P[k]? = some p) (hl : k < 32) : ((cel 96 pf).drop (0 + k * 3)).take 3 = pcc p := by
  rw [cel_sub (by omega), Nat.zero_add]
  obtain ⟨h1, h2, h3⟩ := h k p hk
  show [pf (k * 3 + 0), pf (k * 3 + 1), pf (k * 3 + 2)] = _
  rw [Nat.add_zero, h1, h2, h3]
theorem pcc_cells (p : PC) : ∀ u ∈ pcc p, u.oneCell' = true := by
  intro u hu
  simp only [pcc, List.mem_cons, List.not_mem_nil, or_false] at hu
  rcases hu with rfl | rfl | rfl <;> rfl

/-- A piece that lies within the template. -/
def PcW (n : Nat) (p : PC) : Prop := (p.g = -1 ∧ p.lo ≤ p.hi ∧ p.hi ≤ n) ∨ (0 ≤ p.g ∧ p.g ≤ 3)

theorem width54 {w : World} {s t : List UInt8} {c : List Int} {p : PC} {i0 : Nat} (hm : MatOK s.length i0 c) (hp : PcW t.length p) (hs : s.length ≤ 256) (ht : t.length ≤ 32) :
    Ret Tryz.prog 54 [.agg (pcc p).toArray, .agg (capc c).toArray] w (fun v w' => v = i64c (pcT t s c p).length ∧ Fram none' w w') := by
  have hF : Fram none' w w := Fram.refl _ _
  refine ret_of Tryz.func54 rfl Tryz.ntmps54 rfl ?_
  refine c_seq (fun K1 hK1 => ?_)
  refine c_reg ?_ -- region 0 tmpl.go:50
  refine wl_box (cs := (pcc p)) rfl rfl (fun pb w1 hbpb hP F1 => ?_)
  have hbspb := Nat.le_trans hF.size hbpb
  replace hF := hF.thenDrew.thenN F1
  refine wl_box (cs := (capc c)) rfl rfl (fun cb w2 hbcb hC F2 => ?_)
  have hbscb := Nat.le_trans hF.size hbcb
  have hnepbcb : pb < cb := Nat.lt_of_lt_of_le hP.lt hbcb
  replace hF := hF.thenDrew.thenN F2
  replace hP := F2.blkN hP
  refine wl (ro_assign rfl) ?_
  refine wl_nil (x_then (hK1 _ _ ?_))
  clear hK1 K1
  refine c_seq (fun K2 hK2 => ?_)
  refine c_seq (fun K3 hK3 => ?_)
  have hqs : (p.g = -1 ∧ p.lo ≤ p.hi ∧ p.hi ≤ t.length) ∨ (∃ g : Nat, p.g = (g : Int) ∧ g ≤ 3 ∧ c[2 * g]? = some (-1) ∧ c[2 * g + 1]? = some (-1) ∧ grpT s c g = []) ∨ (∃ g a b : Nat, p.g = (g : Int) ∧ g ≤ 3 ∧ a ≤ b ∧ b ≤ s.length ∧ c[2 * g]? = some (a : Int) ∧ c[2 * g + 1]? = some (b : Int) ∧ grpT s c g = cut s a b) := by
    rcases hp with hp | hp
    · exact .inl hp
    · have hg : p.g = ((p.g.toNat : Nat) : Int) := by omega
      rcases grpT_ok rfl hm (g := p.g.toNat) (by omega) with h | ⟨a, b, h⟩
      · exact .inr (.inl ⟨p.g.toNat, hg, by omega, h⟩)
      · exact .inr (.inr ⟨p.g.toNat, a, b, hg, by omega, h⟩)
  rcases hqs with ⟨hg, h1, h2⟩ | ⟨g, hg, hg3, h1, h2, h3⟩ | ⟨g, a, b, hg, hg3, hab, hbs, h1, h2, h3⟩
  · skip
    have hpc : (pcT t s c p).length = p.hi - p.lo := by unfold pcT; rw [if_pos (by omega)]; exact cut_len h1 h2
    refine c_reg ?_ -- region 1 tmpl.go:51
    refine wl (ro_fieldAddr (k := 2) rfl fo_146_2) ?_
    refine wl (ro_loadB rfl sc_3 (hP) (rfl)) ?_
    refine wl (ro_cmp (r := true) rfl rfl (congrArg some (decide_eq_true (by omega)))) ?_
    refine wl_nil (x_then (hK3 _ _ ?_))
    clear hK3 K3
    refine wc_condT rfl ?_
    refine c_seq (fun K4 hK4 => ?_)
    refine c_reg ?_ -- region 2 tmpl.go:52
    refine wl (ro_fieldAddr (k := 1) rfl fo_146_1) ?_
    refine wl (ro_loadB rfl sc_3 (hP) (rfl)) ?_
    refine wl (ro_fieldAddr (k := 0) rfl fo_146_0) ?_
    refine wl (ro_loadB rfl sc_3 (hP) (rfl)) ?_
    refine wl (ro_arith (r := ((p.hi - p.lo : Nat) : Int)) rfl rfl (congrArg some (by omega)) (Go.IntWalk.i64_in _ (by omega))) ?_
    refine wl (ro_assign rfl) ?_
    refine wl_nil (x_then (hK4 _ _ ?_))
    clear hK4 K4
    refine c_ret (x_thenR ?_)
    refine bp_ret Tryz.results54 rfl ?_
    rw [hpc]; exact ⟨rfl, hF⟩
  · skip
    have hpc : (pcT t s c p).length = 0 := by unfold pcT; rw [if_neg (by omega), hg, Int.toNat_natCast, h3]; rfl
    have e1 : c.getD (2 * g) 0 = -1 := by rw [List.getD, h1]; rfl
    have e2 : c.getD (2 * g + 1) 0 = -1 := by rw [List.getD, h2]; rfl
    refine c_reg ?_ -- region 1 tmpl.go:51
    refine wl (ro_fieldAddr (k := 2) rfl fo_146_2) ?_
    refine wl (ro_loadB rfl sc_3 (hP) (rfl)) ?_
    refine wl (ro_cmp (r := false) rfl rfl (congrArg some (decide_eq_false (by omega)))) ?_
    refine wl_nil (x_then (hK3 _ _ ?_))
    clear hK3 K3
    refine wc_condF rfl ?_
    refine c_skip (x_then (hK2 _ _ ?_))
    clear hK2 K2
    refine forget [(2, _), (3, _)] ⟨rfl, rfl, trivial⟩ (fun e => ?_)
    refine c_seq (fun K5 hK5 => ?_)
    refine c_reg ?_ -- region 3 tmpl.go:54
    refine wl (ro_fieldAddr (k := 2) rfl fo_146_2) ?_
    refine wl (ro_loadB rfl sc_3 (hP) ((show _ = some (i64c g) from congrArg (fun z => some (icv z)) hg))) ?_
    refine wl (ro_arith (r := ((2 * g : Nat) : Int)) rfl rfl (congrArg some (by simp)) (Go.IntWalk.i64_in _ (by omega))) ?_
    refine wl (ro_indexAddrA (et := 3) (k := 1) rfl rfl ar_55 (rfl) ((by omega : 2 * g < 8))) ?_
    refine wl (ro_loadB rfl sc_3 (hC) (cel_at (k := 2 * g) (by omega) (by omega) (congrArg icv e1))) ?_
    refine wl (ro_assign rfl) ?_
    refine wl_nil (x_then (hK5 _ _ ?_))
    clear hK5 K5
    refine forget [(2, _), (3, _), (5, _)] ⟨rfl, rfl, rfl, trivial⟩ (fun e => ?_)
    refine c_seq (fun K6 hK6 => ?_)
    refine c_reg ?_ -- region 4 tmpl.go:55
    refine wl (ro_fieldAddr (k := 2) rfl fo_146_2) ?_
    refine wl (ro_loadB rfl sc_3 (hP) ((show _ = some (i64c g) from congrArg (fun z => some (icv z)) hg))) ?_
    refine wl (ro_arith (r := ((2 * g : Nat) : Int)) rfl rfl (congrArg some (by simp)) (Go.IntWalk.i64_in _ (by omega))) ?_
    refine wl (ro_arith (r := ((2 * g + 1 : Nat) : Int)) rfl rfl rfl (Go.IntWalk.i64_in _ (by omega))) ?_
    refine wl (ro_indexAddrA (et := 3) (k := 1) rfl rfl ar_55 (rfl) ((by omega : 2 * g + 1 < 8))) ?_
    refine wl (ro_loadB rfl sc_3 (hC) (cel_at (k := 2 * g + 1) (by omega) (by omega) (congrArg icv e2))) ?_
    refine wl (ro_assign rfl) ?_
    refine wl_nil (x_then (hK6 _ _ ?_))
    clear hK6 K6
    refine c_seq (fun K7 hK7 => ?_)
    refine c_seq (fun K8 hK8 => ?_)
    refine c_reg ?_ -- region 5 tmpl.go:56
    refine wl (ro_move rfl) ?_
    refine wl (ro_cmp (r := true) rfl rfl rfl) ?_
    refine wl (ro_move rfl) ?_
    refine wlg_no rfl ?_
    refine wlg_no rfl ?_
    refine wlg_no rfl ?_
    refine wl (ro_pick rfl rfl rfl) ?_
    refine wl_nil (x_then (hK8 _ _ ?_))
    clear hK8 K8
    refine wc_condT rfl ?_
    refine c_seq (fun K9 hK9 => ?_)
    refine c_reg ?_ -- region 6 tmpl.go:57
    refine wl (ro_assign rfl) ?_
    refine wl_nil (x_then (hK9 _ _ ?_))
    clear hK9 K9
    refine c_ret (x_thenR ?_)
    refine bp_ret Tryz.results54 rfl ?_
    rw [hpc]; exact ⟨rfl, hF⟩
  · skip
    have hpc : (pcT t s c p).length = b - a := by unfold pcT; rw [if_neg (by omega), hg, Int.toNat_natCast, h3]; exact cut_len hab hbs
    have e1 : c.getD (2 * g) 0 = (a : Int) := by rw [List.getD, h1]; rfl
    have e2 : c.getD (2 * g + 1) 0 = (b : Int) := by rw [List.getD, h2]; rfl
    refine c_reg ?_ -- region 1 tmpl.go:51
    refine wl (ro_fieldAddr (k := 2) rfl fo_146_2) ?_
    refine wl (ro_loadB rfl sc_3 (hP) (rfl)) ?_
    refine wl (ro_cmp (r := false) rfl rfl (congrArg some (decide_eq_false (by omega)))) ?_
    refine wl_nil (x_then (hK3 _ _ ?_))
    clear hK3 K3
    refine wc_condF rfl ?_
    refine c_skip (x_then (hK2 _ _ ?_))
    clear hK2 K2
    refine forget [(2, _), (3, _)] ⟨rfl, rfl, trivial⟩ (fun e => ?_)
    refine c_seq (fun K10 hK10 => ?_)
    refine c_reg ?_ -- region 3 tmpl.go:54
    refine wl (ro_fieldAddr (k := 2) rfl fo_146_2) ?_
    refine wl (ro_loadB rfl sc_3 (hP) ((show _ = some (i64c g) from congrArg (fun z => some (icv z)) hg))) ?_
    refine wl (ro_arith (r := ((2 * g : Nat) : Int)) rfl rfl (congrArg some (by simp)) (Go.IntWalk.i64_in _ (by omega))) ?_
    refine wl (ro_indexAddrA (et := 3) (k := 1) rfl rfl ar_55 (rfl) ((by omega : 2 * g < 8))) ?_
    refine wl (ro_loadB rfl sc_3 (hC) (cel_at (k := 2 * g) (by omega) (by omega) (congrArg icv e1))) ?_
    refine wl (ro_assign rfl) ?_
    refine wl_nil (x_then (hK10 _ _ ?_))
    clear hK10 K10
    refine forget [(2, _), (3, _), (5, _)] ⟨rfl, rfl, rfl, trivial⟩ (fun e => ?_)
    refine c_seq (fun K11 hK11 => ?_)
    refine c_reg ?_ -- region 4 tmpl.go:55
    refine wl (ro_fieldAddr (k := 2) rfl fo_146_2) ?_
    refine wl (ro_loadB rfl sc_3 (hP) ((show _ = some (i64c g) from congrArg (fun z => some (icv z)) hg))) ?_
    refine wl (ro_arith (r := ((2 * g : Nat) : Int)) rfl rfl (congrArg some (by simp)) (Go.IntWalk.i64_in _ (by omega))) ?_
    refine wl (ro_arith (r := ((2 * g + 1 : Nat) : Int)) rfl rfl rfl (Go.IntWalk.i64_in _ (by omega))) ?_
    refine wl (ro_indexAddrA (et := 3) (k := 1) rfl rfl ar_55 (rfl) ((by omega : 2 * g + 1 < 8))) ?_
    refine wl (ro_loadB rfl sc_3 (hC) (cel_at (k := 2 * g + 1) (by omega) (by omega) (congrArg icv e2))) ?_
    refine wl (ro_assign rfl) ?_
    refine wl_nil (x_then (hK11 _ _ ?_))
    clear hK11 K11
    refine c_seq (fun K12 hK12 => ?_)
    refine c_seq (fun K13 hK13 => ?_)
    refine c_reg ?_ -- region 5 tmpl.go:56
    refine wl (ro_move rfl) ?_
    refine wl (ro_cmp (r := false) rfl rfl (congrArg some (decide_eq_false (by omega)))) ?_
    refine wl (ro_move rfl) ?_
    refine wlg_yes rfl (ro_move rfl) ?_
    refine wlg_yes rfl (ro_move rfl) ?_
    refine wlg_yes rfl (ro_cmp (r := false) rfl rfl (congrArg some (decide_eq_false (by omega)))) ?_
    refine wl (ro_pick rfl rfl rfl) ?_
    refine wl_nil (x_then (hK13 _ _ ?_))
    clear hK13 K13
    refine wc_condF rfl ?_
    refine c_skip (x_then (hK12 _ _ ?_))
    clear hK12 K12
    refine forget [(5, _), (6, _)] ⟨rfl, rfl, trivial⟩ (fun e => ?_)
    refine c_seq (fun K14 hK14 => ?_)
    refine c_reg ?_ -- region 7 tmpl.go:59
    refine wl (ro_move rfl) ?_
    refine wl (ro_move rfl) ?_
    refine wl (ro_arith (r := ((b - a : Nat) : Int)) rfl rfl (congrArg some (by omega)) (Go.IntWalk.i64_in _ (by omega))) ?_
    refine wl (ro_assign rfl) ?_
    refine wl_nil (x_then (hK14 _ _ ?_))
    clear hK14 K14
    refine c_ret ?_
    refine bp_ret Tryz.results54 rfl ?_
    rw [hpc]; exact ⟨rfl, hF⟩

/-- What is filled in. -/
def filF (s t : List UInt8) (P : List PC) : List (List Int) → Nat → List UInt8
  | [], last => s.drop last
  | c :: L, last => cut s last (capB c) ++ pcsT t s c P ++ filF s t P L (capE c)

theorem filF_rep {s t : List UInt8} {P : List PC} : ∀ (L : List (List Int)) (last : Nat), (∀ c, pcsT t s c P = exF s c t) → filF s t P L last = repF s t L last
  | [], last, h => rfl
  | c :: L, last, h => by
    simp only [filF, repF]
    rw [h c, filF_rep L _ h]

theorem pcsT_cons {t s : List UInt8} {c : List Int} {P : List PC} {k : Nat} {p : PC} (h : P[k]? = some p) : pcsT t s c (P.drop k) = pcT t s c p ++ pcsT t s c (P.drop (k + 1)) := by
  rw [drop_consA h]
  simp [pcsT]

theorem caps_get {n i : Nat} {c : List Int} (h : MatOK n i c) : c.getD 0 0 = (capB c : Int) ∧ c.getD 1 0 = (capE c : Int) := by
  obtain ⟨hk0, hk1, -⟩ := h.cap
  exact ⟨by rw [List.getD, hk0]; rfl, by rw [List.getD, hk1]; rfl⟩

set_option maxHeartbeats 4000000 in
theorem size41 {w : World} {fb xs ps eb : Nat} {s t : List UInt8} {L : List (List Int)} {P : List PC} {sf pf : Nat → Value} (hB : Blk w.heap fb [ptr eb, sl xs 257, i64c L.length, sl ps 32, i64c P.length] 120) (hX : FB w.heap xs 2056 sf 55) (hP : FB w.heap ps 96 pf 146) (hL : SpV sf L) (hV : PcV pf P) (hch : ChainOK s.length 0 L) (hpw : ∀ p ∈ P, PcW t.length p) (hs : s.length ≤ 256) (ht : t.length ≤ 32) (hl : L.length ≤ 257) (hpl : P.length ≤ 32) (hN : (filF s t P L 0).length ≤ 10000000) :
    Ret Tryz.prog 41 [ptr fb, S s] w (fun v w' => v = i64c (filF s t P L 0).length ∧ Fram none' w w') := by
  have hF : Fram none' w w := Fram.refl _ _
  generalize hNN : (filF s t P L 0).length = N at *
  refine ret_of Tryz.func41 rfl Tryz.ntmps41 rfl ?_
  refine c_seq (fun K1 hK1 => ?_)
  refine c_reg ?_ -- region 0 tmpl.go:63
  refine wl (ro_assign rfl) ?_
  refine wl_nil (x_then (hK1 _ _ ?_))
  clear hK1 K1
  refine forget [(0, _), (1, _)] ⟨rfl, rfl, trivial⟩ (fun e => ?_)
  refine c_seq (fun K2 hK2 => ?_)
  refine c_reg ?_ -- region 1 tmpl.go:64
  refine wl (ro_assign rfl) ?_
  refine wl_nil (x_then (hK2 _ _ ?_))
  clear hK2 K2
  refine forget [(0, _), (1, _), (5, _)] ⟨rfl, rfl, rfl, trivial⟩ (fun e => ?_)
  refine c_seq (fun K3 hK3 => ?_)
  refine c_reg ?_ -- region 2 tmpl.go:65
  refine wl (ro_assign rfl) ?_
  refine wl_nil (x_then (hK3 _ _ ?_))
  clear hK3 K3
  refine c_seq (fun K4 hK4 => ?_)
  refine c_seq (fun K5 hK5 => ?_)
  refine c_reg ?_ -- region 3 tmpl.go:66
  refine wl (ro_assign rfl) ?_
  refine wl_nil (x_then (hK5 _ _ ?_))
  clear hK5 K5
  refine c_block ?_
  -- loop@r4: live slots [0, 1, 5, 6, 7]
  refine c_loopG (fun m a' w' => ∃ (k tot last j : Nat), m = L.length - k ∧ k ≤ L.length ∧ tot + (filF s t P (L.drop k) last).length = N ∧ last ≤ s.length ∧ last ≤ j ∧ ChainOK s.length j (L.drop k) ∧ Blk w'.heap fb [ptr eb, sl xs 257, i64c L.length, sl ps 32, i64c P.length] 120 ∧ FB w'.heap xs 2056 sf 55 ∧ FB w'.heap ps 96 pf 146 ∧ Fram none' w w' ∧ ∃ e, a' = Fr 68 (upds e [(0, ptr fb), (1, S s), (5, i64c tot), (6, i64c last), (7, i64c k)]) []) L.length ⟨0, 0, 0, 0, rfl, by omega, by rw [Nat.zero_add]; exact hNN, by omega, by omega, hch, hB, hX, hP, hF, kp _ ⟨rfl, rfl, rfl, rfl, rfl, trivial⟩⟩ ?_
  clear hB hX hP hF
  rintro m a' w1 ⟨k, tot, last, j, rfl, hk, htot, hlast, hlj, hck, hB, hX, hP, hF, e, rfl⟩
  refine c_seq (fun K6 hK6 => ?_)
  refine c_seq (fun K7 hK7 => ?_)
  refine c_reg ?_ -- region 4 tmpl.go:66
  refine wl (ro_move rfl) ?_
  refine wl (ro_move rfl) ?_
  refine wl (ro_nilCheck rfl) ?_
  refine wl (ro_fieldAddr (k := 2) rfl fo_120_2) ?_
  refine wl (ro_loadB rfl sc_3 (hB) (rfl)) ?_
  refine wl (ro_cmp (r := decide (k < L.length)) rfl rfl (congrArg some (decide_eq_decide.2 (by omega)))) ?_
  refine wl_nil (x_then (hK7 _ _ ?_))
  clear hK7 K7
  refine wc_cond rfl (fun hc14 => ?_) (fun hc14 => ?_)
  · try simp only [decide_eq_true_eq, decide_eq_false_iff_not, Bool.not_eq_true', Bool.not_eq_false', Bool.not_eq_eq_eq_not, Bool.not_true, Bool.not_false, beq_iff_eq, bne_iff_ne, ne_eq, beq_eq_false_iff_ne, bne_eq_false_iff_eq, gt_iff_lt, ge_iff_le, Int.not_lt, Int.not_le] at hc14
    obtain ⟨c, hc⟩ : ∃ c, L[k]? = some c := ⟨_, List.getElem?_eq_getElem hc14⟩
    rw [drop_consA hc] at hck htot
    obtain ⟨hm, hck⟩ := hck
    obtain ⟨hg0, hg1⟩ := caps_get hm
    obtain ⟨-, -, hk2, hk3, hk4, hk5, hk6⟩ := hm.cap
    simp only [filF, List.length_append] at htot
    rw [cut_len (by omega) (by omega)] at htot
    have hrow := hL.row hc (by omega)
    refine c_skip (x_then (hK6 _ _ ?_))
    clear hK6 K6
    refine forget [(0, _), (1, _), (5, _), (6, _), (7, _)] ⟨rfl, rfl, rfl, rfl, rfl, trivial⟩ (fun e => ?_)
    refine c_seq (fun K8 hK8 => ?_)
    refine c_block ?_
    refine c_seq (fun K9 hK9 => ?_)
    refine c_reg ?_ -- region 6 tmpl.go:67
    refine wl (ro_move rfl) ?_
    refine wl (ro_move rfl) ?_
    refine wl (ro_nilCheck rfl) ?_
    refine wl (ro_fieldAddr (k := 1) rfl fo_120_1) ?_
    refine wl (ro_loadB rfl sc_27 (hB) (rfl)) ?_
    refine wl (ro_move rfl) ?_
    refine wl (ro_indexAddr (et := 55) (k := 8) rfl rfl se_27 (rfl) ((by omega : k < 257))) ?_
    refine wl (ro_indexAddrA (et := 3) (k := 1) rfl rfl ar_55 ((show (0 : Int) = ((0 : Nat) : Int) from rfl)) ((by omega : 0 < 8))) ?_
    refine wl (ro_loadB rfl sc_3 (hX) (cel_at (k := k * 8 + 0) (by omega) (by omega) ((hL k c hc 0 (by omega)).trans (congrArg icv hg0)))) ?_
    refine wl (ro_move rfl) ?_
    refine wl (ro_arith (r := ((capB c - last : Nat) : Int)) rfl rfl (congrArg some (by omega)) (Go.IntWalk.i64_in _ (by omega))) ?_
    refine wl (ro_arith (r := ((tot + (capB c - last) : Nat) : Int)) rfl rfl (congrArg some (by omega)) (Go.IntWalk.i64_in _ (by omega))) ?_
    refine wl (ro_assign rfl) ?_
    refine wl_nil (x_then (hK9 _ _ ?_))
    clear hK9 K9
    refine forget [(0, _), (1, _), (5, _), (7, _)] ⟨rfl, rfl, rfl, rfl, trivial⟩ (fun e => ?_)
    refine c_seq (fun K10 hK10 => ?_)
    refine c_reg ?_ -- region 7 tmpl.go:68
    refine wl (ro_move rfl) ?_
    refine wl (ro_nilCheck rfl) ?_
    refine wl (ro_fieldAddr (k := 1) rfl fo_120_1) ?_
    refine wl (ro_loadB rfl sc_27 (hB) (rfl)) ?_
    refine wl (ro_move rfl) ?_
    refine wl (ro_indexAddr (et := 55) (k := 8) rfl rfl se_27 (rfl) ((by omega : k < 257))) ?_
    refine wl (ro_indexAddrA (et := 3) (k := 1) rfl rfl ar_55 ((show (1 : Int) = ((1 : Nat) : Int) from rfl)) ((by omega : 1 < 8))) ?_
    refine wl (ro_loadB rfl sc_3 (hX) (cel_at (k := k * 8 + 1) (by omega) (by omega) ((hL k c hc 1 (by omega)).trans (congrArg icv hg1)))) ?_
    refine wl (ro_assign rfl) ?_
    refine wl_nil (x_then (hK10 _ _ ?_))
    clear hK10 K10
    refine forget [(0, _), (1, _), (5, _), (6, _), (7, _)] ⟨rfl, rfl, rfl, rfl, rfl, trivial⟩ (fun e => ?_)
    refine c_seq (fun K11 hK11 => ?_)
    refine c_reg ?_ -- region 8 tmpl.go:69
    refine wl (ro_assign rfl) ?_
    refine wl_nil (x_then (hK11 _ _ ?_))
    clear hK11 K11
    refine c_block ?_
    -- loop@r9: live slots [0, 1, 5, 6, 7, 8]
    refine c_loopG (fun m a' w' => ∃ (q tot2 : Nat), m = P.length - q ∧ q ≤ P.length ∧ tot2 + (pcsT t s c (P.drop q)).length + (filF s t P (L.drop (k + 1)) (capE c)).length = N ∧ Blk w'.heap fb [ptr eb, sl xs 257, i64c L.length, sl ps 32, i64c P.length] 120 ∧ FB w'.heap xs 2056 sf 55 ∧ FB w'.heap ps 96 pf 146 ∧ Fram none' w w' ∧ ∃ e, a' = Fr 68 (upds e [(0, ptr fb), (1, S s), (5, i64c tot2), (6, i64c (capE c)), (7, i64c k), (8, i64c q)]) []) P.length ⟨0, tot + (capB c - last), rfl, by omega, by rw [List.drop_zero]; omega, hB, hX, hP, hF, kp _ ⟨rfl, rfl, rfl, rfl, rfl, rfl, trivial⟩⟩ ?_
    clear hB hX hP hF
    rintro m a' w2 ⟨q, tot2, rfl, hq, htot2, hB, hX, hP, hF, e, rfl⟩
    refine c_seq (fun K12 hK12 => ?_)
    refine c_seq (fun K13 hK13 => ?_)
    refine c_reg ?_ -- region 9 tmpl.go:69
    refine wl (ro_move rfl) ?_
    refine wl (ro_move rfl) ?_
    refine wl (ro_nilCheck rfl) ?_
    refine wl (ro_fieldAddr (k := 4) rfl fo_120_4) ?_
    refine wl (ro_loadB rfl sc_3 (hB) (rfl)) ?_
    refine wl (ro_cmp (r := decide (q < P.length)) rfl rfl (congrArg some (decide_eq_decide.2 (by omega)))) ?_
    refine wl_nil (x_then (hK13 _ _ ?_))
    clear hK13 K13
    refine wc_cond rfl (fun hc42 => ?_) (fun hc42 => ?_)
    · try simp only [decide_eq_true_eq, decide_eq_false_iff_not, Bool.not_eq_true', Bool.not_eq_false', Bool.not_eq_eq_eq_not, Bool.not_true, Bool.not_false, beq_iff_eq, bne_iff_ne, ne_eq, beq_eq_false_iff_ne, bne_eq_false_iff_eq, gt_iff_lt, ge_iff_le, Int.not_lt, Int.not_le] at hc42
      obtain ⟨p, hp⟩ : ∃ p, P[q]? = some p := ⟨_, List.getElem?_eq_getElem hc42⟩
      rw [pcsT_cons hp, List.length_append] at htot2
      have hprow := hV.row hp (by omega)
      have hpw1 := hpw p (List.mem_of_getElem? hp)
      refine c_skip (x_then (hK12 _ _ ?_))
      clear hK12 K12
      refine forget [(0, _), (1, _), (5, _), (6, _), (7, _), (8, _)] ⟨rfl, rfl, rfl, rfl, rfl, rfl, trivial⟩ (fun e => ?_)
      refine c_seq (fun K14 hK14 => ?_)
      refine c_block ?_
      refine c_pi [(0, false), (1, false), (2, false), (3, false), (4, false), (5, false), (6, false), (7, false), (8, false), (9, false), (10, false), (11, false), (12, false), (13, false), (14, false), (15, true), (16, false), (17, false)] (fun w' => Blk w'.heap fb [ptr eb, sl xs 257, i64c L.length, sl ps 32, i64c P.length] 120 ∧ FB w'.heap xs 2056 sf 55 ∧ FB w'.heap ps 96 pf 146) mixed (by kernel_rfl) rfl (by kernel_rfl) (po_blk (po_then (po_then (po_blk (po_blk (po_then (po_then (po_blk (po_then (po_bp)))))))))) (⟨hB, hX, hP⟩) ?_ -- region 11 tmpl.go:70
      refine pi_ro rfl (fun w hS => ro_move rfl) ?_
      refine pi_ro rfl (fun w hS => ro_move rfl) ?_
      refine pi_ro rfl (fun w hS => ro_nilCheck rfl) ?_
      refine pi_ro rfl (fun w hS => ro_fieldAddr (k := 3) rfl fo_120_3) ?_
      refine pi_ro rfl (fun w hS => ro_loadB rfl sc_118 (hS.1) (rfl)) ?_
      refine pi_ro rfl (fun w hS => ro_move rfl) ?_
      refine pi_ro rfl (fun w hS => ro_indexAddr (et := 146) (k := 3) rfl rfl se_118 (rfl) ((by omega : q < 32))) ?_
      refine pi_ro rfl (fun w hS => ro_loadAggB rfl ag_146 (hS.2.2) (rfl) (hprow)) ?_
      refine pi_ro rfl (fun w hS => ro_move rfl) ?_
      refine pi_ro rfl (fun w hS => ro_nilCheck rfl) ?_
      refine pi_ro rfl (fun w hS => ro_fieldAddr (k := 1) rfl fo_120_1) ?_
      refine pi_ro rfl (fun w hS => ro_loadB rfl sc_27 (hS.1) (rfl)) ?_
      refine pi_ro rfl (fun w hS => ro_move rfl) ?_
      refine pi_ro rfl (fun w hS => ro_indexAddr (et := 55) (k := 8) rfl rfl se_27 (rfl) ((by omega : k < 257))) ?_
      refine pi_ro rfl (fun w hS => ro_loadAggB rfl ag_55 (hS.2.1) (rfl) (hrow)) ?_
      refine pi_call rfl rfl en_54 (width54 hm hpw1 hs ht) ?_
      rintro _ w3 ⟨rfl, F3⟩
      replace hF := hF.transG F3 (by intro k hk h; simp only [one, two, none'] at h ⊢ <;> omega)
      replace hB := F3.blkF hB (by intro h; simp only [one, two, none'] at h <;> omega)
      replace hX := F3.blkF hX (by intro h; simp only [one, two, none'] at h <;> omega)
      replace hP := F3.blkF hP (by intro h; simp only [one, two, none'] at h <;> omega)
      refine ⟨⟨hB, hX, hP⟩, ?_⟩
      refine pi_ro rfl (fun w hS => ro_arith (r := ((tot2 + (pcT t s c p).length : Nat) : Int)) rfl rfl rfl (Go.IntWalk.i64_in _ (by omega))) ?_
      refine pi_ro rfl (fun w hS => ro_assign rfl) ?_
      refine pi_nil (x_blk (x_then (hK14 _ _ ?_)))
      clear hK14 K14
      refine c_reg ?_ -- region 10 tmpl.go:69
      refine wl (ro_move rfl) ?_
      refine wl (ro_arith rfl rfl rfl (Go.IntWalk.i64_in _ (by omega))) ?_
      refine wl (ro_assign rfl) ?_
      refine wl_nil (x_then ?_)
      exact ⟨P.length - (q + 1), by omega, q + 1, tot2 + (pcT t s c p).length, rfl, by omega, by omega, hB, hX, hP, hF, kp _ ⟨rfl, rfl, rfl, rfl, rfl, rfl, trivial⟩⟩
    · try simp only [decide_eq_true_eq, decide_eq_false_iff_not, Bool.not_eq_true', Bool.not_eq_false', Bool.not_eq_eq_eq_not, Bool.not_true, Bool.not_false, beq_iff_eq, bne_iff_ne, ne_eq, beq_eq_false_iff_ne, bne_eq_false_iff_eq, gt_iff_lt, ge_iff_le, Int.not_lt, Int.not_le] at hc42
      refine c_exit (x_thenX (x_thenX (x_blkX (x_blk (x_then (hK8 _ _ ?_))))))
      clear hK12 K12 hK8 K8
      refine c_reg ?_ -- region 5 tmpl.go:66
      refine wl (ro_move rfl) ?_
      refine wl (ro_arith rfl rfl rfl (Go.IntWalk.i64_in _ (by omega))) ?_
      refine wl (ro_assign rfl) ?_
      refine wl_nil (x_then ?_)
      refine ⟨L.length - (k + 1), by omega, k + 1, tot2, capE c, nextF c, rfl, by omega, ?_, by omega, by omega, hck, hB, hX, hP, hF, kp _ ⟨rfl, rfl, rfl, rfl, rfl, trivial⟩⟩
      rw [show P.drop q = [] from List.drop_eq_nil_of_le (by omega)] at htot2
      simpa [pcsT] using htot2
  · try simp only [decide_eq_true_eq, decide_eq_false_iff_not, Bool.not_eq_true', Bool.not_eq_false', Bool.not_eq_eq_eq_not, Bool.not_true, Bool.not_false, beq_iff_eq, bne_iff_ne, ne_eq, beq_eq_false_iff_ne, bne_eq_false_iff_eq, gt_iff_lt, ge_iff_le, Int.not_lt, Int.not_le] at hc14
    refine c_exit (x_thenX (x_thenX (x_blkX (x_then (hK4 _ _ ?_)))))
    clear hK6 K6 hK4 K4
    refine forget [(1, _), (5, _), (6, _)] ⟨rfl, rfl, rfl, trivial⟩ (fun e => ?_)
    refine c_seq (fun K15 hK15 => ?_)
    rw [show L.drop k = [] from List.drop_eq_nil_of_le (by omega)] at htot
    simp only [filF, List.length_drop] at htot
    refine c_reg ?_ -- region 12 tmpl.go:73
    refine wl (ro_move rfl) ?_
    refine wl (ro_move rfl) ?_
    refine wl (ro_lenS rfl st_9) ?_
    refine wl (ro_arith (r := ((tot + s.length : Nat) : Int)) rfl rfl rfl (Go.IntWalk.i64_in _ (by omega))) ?_
    refine wl (ro_move rfl) ?_
    refine wl (ro_arith (r := ((N : Nat) : Int)) rfl rfl (congrArg some (by omega)) (Go.IntWalk.i64_in _ (by omega))) ?_
    refine wl (ro_assign rfl) ?_
    refine wl_nil (x_then (hK15 _ _ ?_))
    clear hK15 K15
    refine c_ret ?_
    refine bp_ret Tryz.results41 rfl ?_
    exact ⟨rfl, hF⟩

end Go.Proofs.Qxb6500567aGreat
