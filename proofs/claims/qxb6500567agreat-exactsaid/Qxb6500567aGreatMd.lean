import Derived.Test.Qxb6500567aGreatMc
/- The finder: lay, fill. -/
namespace Go.Proofs.Qxb6500567aGreat
set_option linter.unusedVariables false
set_option linter.unusedSimpArgs false

/-- A buffer that begins with a text. -/
def BfV (bf : Nat → Value) (o : List UInt8) : Prop := ∀ (k : Nat) (b : UInt8), o[k]? = some b → bf k = u8c b
theorem BfV.nil (bf : Nat → Value) : BfV bf [] := fun k b h => by simp at h
theorem BfV.app {bf : Nat → Value} {o : List UInt8} (h : BfV bf o) (x : UInt8) : BfV (pt bf o.length (u8c x)) (o ++ [x]) := by
  intro k b hk
  by_cases hkl : k < o.length
  · rw [List.getElem?_append_left hkl] at hk
    rw [pt_ne (by omega)]
    exact h k b hk
  · rw [List.getElem?_append_right (by omega)] at hk
    have hk0 : k = o.length := by
      have := (List.getElem?_eq_some_iff.1 hk).1
      simp at this
      omega
    subst hk0
    simp at hk
    subst hk
    exact pt_same

theorem cut_snoc {s : List UInt8} {a i : Nat} {x : UInt8} (h : a ≤ i) (hx : s[i]? = some x) : cut s a (i + 1) = cut s a i ++ [x] := by
  rw [← cut_app (s := s) h (show i ≤ i + 1 by omega), cut_one hx]
theorem cut_end {s : List UInt8} {a : Nat} : cut s a s.length = s.drop a := by
  unfold cut
  exact List.take_of_length_le (by simp)
theorem cut_self (s : List UInt8) (a : Nat) : cut s a a = [] := by simp [cut]

set_option maxHeartbeats 1000000 in
theorem lay55 {w : World} {bb N at0 lo hi : Nat} {t o : List UInt8} {bf : Nat → Value} (hb : FB w.heap bb N bf 5) (hV : BfV bf o) (hat : at0 = o.length) (h1 : lo ≤ hi) (h2 : hi ≤ t.length) (h3 : at0 + (hi - lo) ≤ N) (hN : N ≤ 10000000) (ht : t.length ≤ 1000000) :
    Ret Tryz.prog 55 [sl bb N, i64c at0, S t, i64c lo, i64c hi] w (fun v w' => v = i64c (at0 + (hi - lo) : Nat) ∧ (∃ bf', FB w'.heap bb N bf' 5 ∧ BfV bf' (o ++ cut t lo hi)) ∧ Fram (one bb) w w') := by
  have hF : Fram (one bb) w w := Fram.refl _ _
  subst hat
  refine ret_of Tryz.func55 rfl Tryz.ntmps55 rfl ?_
  refine c_seq (fun K1 hK1 => ?_)
  refine c_reg ?_ -- region 0 tmpl.go:77
  refine wl (ro_assign rfl) ?_
  refine wl_nil (x_then (hK1 _ _ ?_))
  clear hK1 K1
  refine c_seq (fun K2 hK2 => ?_)
  refine c_seq (fun K3 hK3 => ?_)
  refine c_reg ?_ -- region 1 tmpl.go:78
  refine wl (ro_move rfl) ?_
  refine wl (ro_assign rfl) ?_
  refine wl_nil (x_then (hK3 _ _ ?_))
  clear hK3 K3
  refine c_block ?_
  -- loop@r2: live slots [0, 1, 2, 4, 11]
  refine c_loopG (fun m a' w' => ∃ (i : Nat) (bf : Nat → Value), m = hi - i ∧ lo ≤ i ∧ i ≤ hi ∧ BfV bf (o ++ cut t lo i) ∧ FB w'.heap bb N bf 5 ∧ Fram (one bb) w w' ∧ ∃ e, a' = Fr 27 (upds e [(0, sl bb N), (1, i64c (o.length + (i - lo) : Nat)), (2, S t), (4, i64c hi), (11, i64c i)]) []) (hi - lo) ⟨lo, bf, rfl, by omega, by omega, by rw [cut_self, List.append_nil]; exact hV, hb, hF, kp _ ⟨rfl, by rw [Nat.sub_self]; rfl, rfl, rfl, rfl, trivial⟩⟩ ?_
  clear hb hF hV
  rintro m a' w1 ⟨i, bf, rfl, hi1, hi2, hV, hb, hF, e, rfl⟩
  have hol : (o ++ cut t lo i).length = o.length + (i - lo) := by rw [List.length_append, cut_len hi1 (by omega)]
  refine c_seq (fun K4 hK4 => ?_)
  refine c_seq (fun K5 hK5 => ?_)
  refine c_reg ?_ -- region 2 tmpl.go:78
  refine wl (ro_move rfl) ?_
  refine wl (ro_move rfl) ?_
  refine wl (ro_cmp (r := decide (i < hi)) rfl rfl (congrArg some (decide_eq_decide.2 (by omega)))) ?_
  refine wl_nil (x_then (hK5 _ _ ?_))
  clear hK5 K5
  refine wc_cond rfl (fun hc15 => ?_) (fun hc15 => ?_)
  · try simp only [decide_eq_true_eq, decide_eq_false_iff_not, Bool.not_eq_true', Bool.not_eq_false', Bool.not_eq_eq_eq_not, Bool.not_true, Bool.not_false, beq_iff_eq, bne_iff_ne, ne_eq, beq_eq_false_iff_ne, bne_eq_false_iff_eq, gt_iff_lt, ge_iff_le, Int.not_lt, Int.not_le] at hc15
    obtain ⟨x, hx⟩ := byte_get (t := t) (i := i) (by omega)
    refine c_skip (x_then (hK4 _ _ ?_))
    clear hK4 K4
    refine forget [(0, _), (1, _), (2, _), (4, _), (11, _)] ⟨rfl, rfl, rfl, rfl, rfl, trivial⟩ (fun e => ?_)
    refine c_seq (fun K6 hK6 => ?_)
    refine c_block ?_
    refine c_seq (fun K7 hK7 => ?_)
    refine c_reg ?_ -- region 4 tmpl.go:79
    refine wl (ro_move rfl) ?_
    refine wl (ro_move rfl) ?_
    refine wl (ro_move rfl) ?_
    refine wl (ro_move rfl) ?_
    refine wl (ro_indexS rfl rfl st_9 rfl (hx)) ?_
    refine wl (ro_indexAddr (et := 5) (k := 1) rfl rfl se_126 (rfl) ((by omega : o.length + (i - lo) < N))) ?_
    refine wl_put rfl rfl rfl sz_5 hb ((cel_lt (by omega))) ((cel_put (o ++ cut t lo i).length (by omega))) (fun w1 hb F1 => ?_)
    replace hF := hF.thenDrew.thenO F1 (by first | exact .inr (by omega) | exact .inl rfl | exact .inl (by assumption))
    refine wl_nil (x_then (hK7 _ _ ?_))
    clear hK7 K7
    refine c_reg ?_ -- region 5 tmpl.go:80
    refine wl (ro_move rfl) ?_
    refine wl (ro_arith (r := ((o.length + (i + 1 - lo) : Nat) : Int)) rfl rfl (congrArg some (by omega)) (Go.IntWalk.i64_in _ (by omega))) ?_
    refine wl (ro_assign rfl) ?_
    refine wl_nil (x_blk (x_then (hK6 _ _ ?_)))
    clear hK6 K6
    refine c_reg ?_ -- region 3 tmpl.go:78
    refine wl (ro_move rfl) ?_
    refine wl (ro_arith rfl rfl rfl (Go.IntWalk.i64_in _ (by omega))) ?_
    refine wl (ro_assign rfl) ?_
    refine wl_nil (x_then ?_)
    exact ⟨hi - (i + 1), by omega, i + 1, _, rfl, by omega, by omega, by rw [cut_snoc hi1 hx, ← List.append_assoc]; exact hV.app x, hb, hF, kp _ ⟨rfl, rfl, rfl, rfl, rfl, trivial⟩⟩
  · try simp only [decide_eq_true_eq, decide_eq_false_iff_not, Bool.not_eq_true', Bool.not_eq_false', Bool.not_eq_eq_eq_not, Bool.not_true, Bool.not_false, beq_iff_eq, bne_iff_ne, ne_eq, beq_eq_false_iff_ne, bne_eq_false_iff_eq, gt_iff_lt, ge_iff_le, Int.not_lt, Int.not_le] at hc15
    refine c_exit (x_thenX (x_thenX (x_blkX (x_then (hK2 _ _ ?_)))))
    clear hK4 K4 hK2 K2
    refine forget [(1, _)] ⟨rfl, trivial⟩ (fun e => ?_)
    refine c_seq (fun K8 hK8 => ?_)
    refine c_reg ?_ -- region 6 tmpl.go:82
    refine wl (ro_move rfl) ?_
    refine wl (ro_assign rfl) ?_
    refine wl_nil (x_then (hK8 _ _ ?_))
    clear hK8 K8
    refine c_ret ?_
    refine bp_ret Tryz.results55 rfl ?_
    have hie : i = hi := by omega
    subst hie
    exact ⟨rfl, ⟨bf, hb, hV⟩, hF⟩

theorem lay55n {w : World} {bb N at0 : Nat} {t : List UInt8} :
    Ret Tryz.prog 55 [sl bb N, i64c at0, S t, icv (-1), icv (-1)] w (fun v w' => v = i64c at0 ∧ w = w') := by
  refine ret_of Tryz.func55 rfl Tryz.ntmps55 rfl ?_
  refine c_seq (fun K1 hK1 => ?_)
  refine c_reg ?_ -- region 0 tmpl.go:77
  refine wl (ro_assign rfl) ?_
  refine wl_nil (x_then (hK1 _ _ ?_))
  clear hK1 K1
  refine c_seq (fun K2 hK2 => ?_)
  refine c_seq (fun K3 hK3 => ?_)
  refine c_reg ?_ -- region 1 tmpl.go:78
  refine wl (ro_move rfl) ?_
  refine wl (ro_assign rfl) ?_
  refine wl_nil (x_then (hK3 _ _ ?_))
  clear hK3 K3
  refine c_block ?_
  -- loop@r2: live slots [0, 1, 2, 4, 11]
  refine c_loopG (fun m a' w' => w = w' ∧ ∃ e, a' = Fr 27 (upds e [(1, i64c at0), (4, icv (-1)), (11, icv (-1))]) []) 0 ⟨rfl, kp _ ⟨rfl, rfl, rfl, trivial⟩⟩ ?_
  rintro m a' w1 ⟨rfl, e, rfl⟩
  refine c_seq (fun K4 hK4 => ?_)
  refine c_seq (fun K5 hK5 => ?_)
  refine c_reg ?_ -- region 2 tmpl.go:78
  refine wl (ro_move rfl) ?_
  refine wl (ro_move rfl) ?_
  refine wl (ro_cmp (r := false) rfl rfl rfl) ?_
  refine wl_nil (x_then (hK5 _ _ ?_))
  clear hK5 K5
  refine wc_condF rfl ?_
  refine c_exit (x_thenX (x_thenX (x_blkX (x_then (hK2 _ _ ?_)))))
  clear hK4 K4 hK2 K2
  refine forget [(1, _)] ⟨rfl, trivial⟩ (fun e => ?_)
  refine c_seq (fun K6 hK6 => ?_)
  refine c_reg ?_ -- region 6 tmpl.go:82
  refine wl (ro_move rfl) ?_
  refine wl (ro_assign rfl) ?_
  refine wl_nil (x_then (hK6 _ _ ?_))
  clear hK6 K6
  refine c_ret ?_
  refine bp_ret Tryz.results55 rfl ?_
  exact ⟨rfl, rfl⟩

set_option maxHeartbeats 8000000 in
theorem fill42 {w : World} {fb xs ps eb bb N : Nat} {s t : List UInt8} {L : List (List Int)} {P : List PC} {sf pf bf : Nat → Value} (hB : Blk w.heap fb [ptr eb, sl xs 257, i64c L.length, sl ps 32, i64c P.length] 120) (hX : FB w.heap xs 2056 sf 55) (hP : FB w.heap ps 96 pf 146) (hb : FB w.heap bb N bf 5) (h1 : fb < bb) (h2 : xs < bb) (h3 : ps < bb) (hL : SpV sf L) (hV : PcV pf P) (hch : ChainOK s.length 0 L) (hpw : ∀ p ∈ P, PcW t.length p) (hs : s.length ≤ 256) (ht : t.length ≤ 32) (hl : L.length ≤ 257) (hpl : P.length ≤ 32) (hN : (filF s t P L 0).length = N) (hN7 : N ≤ 10000000) :
    Ret Tryz.prog 42 [ptr fb, sl bb N, S s, S t] w (fun v w' => v = .tuple #[] ∧ (∃ bf', FB w'.heap bb N bf' 5 ∧ BfV bf' (filF s t P L 0)) ∧ Fram (one bb) w w') := by
  have hF : Fram (one bb) w w := Fram.refl _ _
  generalize hT : filF s t P L 0 = T at *
  refine ret_of Tryz.func42 rfl Tryz.ntmps42 rfl ?_
  refine c_seq (fun K1 hK1 => ?_)
  refine c_reg ?_ -- region 0 tmpl.go:87
  refine wl (ro_assign rfl) ?_
  refine wl_nil (x_then (hK1 _ _ ?_))
  clear hK1 K1
  refine forget [(0, _), (1, _), (2, _), (3, _), (8, _)] ⟨rfl, rfl, rfl, rfl, rfl, trivial⟩ (fun e => ?_)
  refine c_seq (fun K2 hK2 => ?_)
  refine c_reg ?_ -- region 1 tmpl.go:88
  refine wl (ro_assign rfl) ?_
  refine wl_nil (x_then (hK2 _ _ ?_))
  clear hK2 K2
  refine c_seq (fun K3 hK3 => ?_)
  refine c_seq (fun K4 hK4 => ?_)
  refine c_reg ?_ -- region 2 tmpl.go:89
  refine wl (ro_assign rfl) ?_
  refine wl_nil (x_then (hK4 _ _ ?_))
  clear hK4 K4
  refine c_block ?_
  -- loop@r3: live slots [0, 1, 2, 3, 8, 9, 10]
  refine c_loopG (fun m a' w' => ∃ (k last j : Nat) (o : List UInt8) (bf : Nat → Value), m = L.length - k ∧ k ≤ L.length ∧ o ++ filF s t P (L.drop k) last = T ∧ BfV bf o ∧ last ≤ s.length ∧ last ≤ j ∧ ChainOK s.length j (L.drop k) ∧ Blk w'.heap fb [ptr eb, sl xs 257, i64c L.length, sl ps 32, i64c P.length] 120 ∧ FB w'.heap xs 2056 sf 55 ∧ FB w'.heap ps 96 pf 146 ∧ FB w'.heap bb N bf 5 ∧ Fram (one bb) w w' ∧ ∃ e, a' = Fr 91 (upds e [(0, ptr fb), (1, sl bb N), (2, S s), (3, S t), (8, i64c o.length), (9, i64c last), (10, i64c k)]) []) L.length ⟨0, 0, 0, [], bf, rfl, by omega, by rw [List.nil_append]; exact hT, BfV.nil _, by omega, by omega, hch, hB, hX, hP, hb, hF, kp _ ⟨rfl, rfl, rfl, rfl, rfl, rfl, rfl, trivial⟩⟩ ?_
  clear hB hX hP hb hF
  rintro m a' w1 ⟨k, last, j, o, bf, rfl, hk, htot, hbv, hlast, hlj, hck, hB, hX, hP, hb, hF, e, rfl⟩
  have hlen := congrArg List.length htot
  refine c_seq (fun K5 hK5 => ?_)
  refine c_seq (fun K6 hK6 => ?_)
  refine c_reg ?_ -- region 3 tmpl.go:89
  refine wl (ro_move rfl) ?_
  refine wl (ro_move rfl) ?_
  refine wl (ro_nilCheck rfl) ?_
  refine wl (ro_fieldAddr (k := 2) rfl fo_120_2) ?_
  refine wl (ro_loadB rfl sc_3 (hB) (rfl)) ?_
  refine wl (ro_cmp (r := decide (k < L.length)) rfl rfl (congrArg some (decide_eq_decide.2 (by omega)))) ?_
  refine wl_nil (x_then (hK6 _ _ ?_))
  clear hK6 K6
  refine wc_cond rfl (fun hc20 => ?_) (fun hc20 => ?_)
  · try simp only [decide_eq_true_eq, decide_eq_false_iff_not, Bool.not_eq_true', Bool.not_eq_false', Bool.not_eq_eq_eq_not, Bool.not_true, Bool.not_false, beq_iff_eq, bne_iff_ne, ne_eq, beq_eq_false_iff_ne, bne_eq_false_iff_eq, gt_iff_lt, ge_iff_le, Int.not_lt, Int.not_le] at hc20
    obtain ⟨c, hc⟩ : ∃ c, L[k]? = some c := ⟨_, List.getElem?_eq_getElem hc20⟩
    rw [drop_consA hc] at hck htot hlen
    obtain ⟨hm, hck⟩ := hck
    obtain ⟨hg0, hg1⟩ := caps_get hm
    obtain ⟨-, -, hk2, hk3, hk4, hk5, hk6⟩ := hm.cap
    simp only [filF, List.length_append] at hlen
    rw [cut_len (by omega) (by omega)] at hlen
    have hrow := hL.row hc (by omega)
    refine c_skip (x_then (hK5 _ _ ?_))
    clear hK5 K5
    refine forget [(0, _), (1, _), (2, _), (3, _), (8, _), (9, _), (10, _)] ⟨rfl, rfl, rfl, rfl, rfl, rfl, rfl, trivial⟩ (fun e => ?_)
    refine c_seq (fun K7 hK7 => ?_)
    refine c_block ?_
    refine c_seq (fun K8 hK8 => ?_)
    refine c_reg ?_ -- region 5 tmpl.go:90
    refine wl (ro_move rfl) ?_
    refine wl (ro_nilCheck rfl) ?_
    refine wl (ro_fieldAddr (k := 1) rfl fo_120_1) ?_
    refine wl (ro_loadB rfl sc_27 (hB) (rfl)) ?_
    refine wl (ro_move rfl) ?_
    refine wl (ro_indexAddr (et := 55) (k := 8) rfl rfl se_27 (rfl) ((by omega : k < 257))) ?_
    refine wl (ro_loadAggB rfl ag_55 (hX) (rfl) (hrow)) ?_
    refine wl_new (ze_55) (fun cb w1 hbcb hC F1 => ?_)
    have hbscb := Nat.le_trans hF.size hbcb
    have hnefbcb : fb < cb := Nat.lt_of_lt_of_le hB.lt hbcb
    have hnexscb : xs < cb := Nat.lt_of_lt_of_le hX.lt hbcb
    have hnepscb : ps < cb := Nat.lt_of_lt_of_le hP.lt hbcb
    have hnebbcb : bb < cb := Nat.lt_of_lt_of_le hb.lt hbcb
    replace hF := hF.thenDrew.thenN F1
    replace hB := F1.blkN hB
    replace hX := F1.blkN hX
    replace hP := F1.blkN hP
    replace hb := F1.blkN hb
    refine wl_puta rfl rfl ((capc_cells c)) sz_55 (rfl) hC ((by simp)) ((show _ = capc c from rfl)) (fun w2 hC F2 => ?_)
    replace hF := hF.thenDrew.thenO F2 (by first | exact .inr (by omega) | exact .inl rfl | exact .inl (by assumption))
    replace hB := F2.blkO hB (by omega)
    replace hX := F2.blkO hX (by omega)
    replace hP := F2.blkO hP (by omega)
    replace hb := F2.blkO hb (by omega)
    refine wl_nil (x_then (hK8 _ _ ?_))
    clear hK8 K8
    refine forget [(0, _), (1, _), (2, _), (3, _), (8, _), (9, _), (10, _), (11, _)] ⟨rfl, rfl, rfl, rfl, rfl, rfl, rfl, rfl, trivial⟩ (fun e => ?_)
    refine c_seq (fun K9 hK9 => ?_)
    refine c_reg ?_ -- region 6 tmpl.go:91
    refine wl (ro_move rfl) ?_
    refine wl (ro_move rfl) ?_
    refine wl (ro_move rfl) ?_
    refine wl (ro_move rfl) ?_
    refine wl (ro_indexAddrA (et := 3) (k := 1) rfl rfl ar_55 ((show (0 : Int) = ((0 : Nat) : Int) from rfl)) ((by omega : 0 < 8))) ?_
    refine wl (ro_loadB rfl sc_3 (hC) (cel_at (k := 0) (by omega) (by omega) (congrArg icv hg0))) ?_
    refine wl_call rfl en_55 (lay55 hb hbv rfl (show last ≤ capB c by omega) (by omega) (by omega) hN7 (by omega)) ?_
    rintro _ w3 ⟨rfl, ⟨bf3, hb, hbv3⟩, F3⟩
    replace hF := hF.transG F3 (by intro k hk h; simp only [one, two, none'] at h ⊢ <;> omega)
    replace hB := F3.blkF hB (by intro h; simp only [one, two, none'] at h <;> omega)
    replace hX := F3.blkF hX (by intro h; simp only [one, two, none'] at h <;> omega)
    replace hP := F3.blkF hP (by intro h; simp only [one, two, none'] at h <;> omega)
    replace hC := F3.blkF hC (by intro h; simp only [one, two, none'] at h <;> omega)
    have hol : (o ++ cut s last (capB c)).length = o.length + (capB c - last) := by rw [List.length_append, cut_len (by omega) (by omega)]
    refine wl (ro_assign rfl) ?_
    refine wl_nil (x_then (hK9 _ _ ?_))
    clear hK9 K9
    refine forget [(0, _), (1, _), (2, _), (3, _), (8, _), (10, _), (11, _)] ⟨rfl, rfl, rfl, rfl, rfl, rfl, rfl, trivial⟩ (fun e => ?_)
    refine c_seq (fun K10 hK10 => ?_)
    refine c_reg ?_ -- region 7 tmpl.go:92
    refine wl (ro_indexAddrA (et := 3) (k := 1) rfl rfl ar_55 ((show (1 : Int) = ((1 : Nat) : Int) from rfl)) ((by omega : 1 < 8))) ?_
    refine wl (ro_loadB rfl sc_3 (hC) (cel_at (k := 1) (by omega) (by omega) (congrArg icv hg1))) ?_
    refine wl (ro_assign rfl) ?_
    refine wl_nil (x_then (hK10 _ _ ?_))
    clear hK10 K10
    refine forget [(0, _), (1, _), (2, _), (3, _), (8, _), (9, _), (10, _), (11, _)] ⟨rfl, rfl, rfl, rfl, rfl, rfl, rfl, rfl, trivial⟩ (fun e => ?_)
    refine c_seq (fun K11 hK11 => ?_)
    refine c_reg ?_ -- region 8 tmpl.go:93
    refine wl (ro_assign rfl) ?_
    refine wl_nil (x_then (hK11 _ _ ?_))
    clear hK11 K11
    refine c_block ?_
    -- loop@r9: live slots [0, 1, 2, 3, 8, 9, 10, 11, 12]
    refine c_loopG (fun m a' w' => ∃ (q : Nat) (o2 : List UInt8) (bf : Nat → Value), m = P.length - q ∧ q ≤ P.length ∧ o2 ++ (pcsT t s c (P.drop q) ++ filF s t P (L.drop (k + 1)) (capE c)) = T ∧ BfV bf o2 ∧ Blk w'.heap fb [ptr eb, sl xs 257, i64c L.length, sl ps 32, i64c P.length] 120 ∧ FB w'.heap xs 2056 sf 55 ∧ FB w'.heap ps 96 pf 146 ∧ FB w'.heap bb N bf 5 ∧ Blk w'.heap cb (capc c) 55 ∧ Fram (one bb) w w' ∧ ∃ e, a' = Fr 91 (upds e [(0, ptr fb), (1, sl bb N), (2, S s), (3, S t), (8, i64c o2.length), (9, i64c (capE c)), (10, i64c k), (11, ptr cb), (12, i64c q)]) []) P.length ⟨0, o ++ cut s last (capB c), bf3, rfl, by omega, by rw [List.drop_zero, ← htot]; simp [filF], hbv3, hB, hX, hP, hb, hC, hF, kp _ ⟨rfl, rfl, rfl, rfl, by rw [hol]; rfl, rfl, rfl, rfl, rfl, trivial⟩⟩ ?_
    clear hB hX hP hb hC hF hlen
    rintro m a' w2 ⟨q, o2, bf2, rfl, hq, htot2, hbv2, hB, hX, hP, hb, hC, hF, e, rfl⟩
    have hlen2 := congrArg List.length htot2
    refine c_seq (fun K12 hK12 => ?_)
    refine c_seq (fun K13 hK13 => ?_)
    refine c_reg ?_ -- region 9 tmpl.go:93
    refine wl (ro_move rfl) ?_
    refine wl (ro_move rfl) ?_
    refine wl (ro_nilCheck rfl) ?_
    refine wl (ro_fieldAddr (k := 4) rfl fo_120_4) ?_
    refine wl (ro_loadB rfl sc_3 (hB) (rfl)) ?_
    refine wl (ro_cmp (r := decide (q < P.length)) rfl rfl (congrArg some (decide_eq_decide.2 (by omega)))) ?_
    refine wl_nil (x_then (hK13 _ _ ?_))
    clear hK13 K13
    refine wc_cond rfl (fun hc44 => ?_) (fun hc44 => ?_)
    · try simp only [decide_eq_true_eq, decide_eq_false_iff_not, Bool.not_eq_true', Bool.not_eq_false', Bool.not_eq_eq_eq_not, Bool.not_true, Bool.not_false, beq_iff_eq, bne_iff_ne, ne_eq, beq_eq_false_iff_ne, bne_eq_false_iff_eq, gt_iff_lt, ge_iff_le, Int.not_lt, Int.not_le] at hc44
      obtain ⟨p, hp⟩ : ∃ p, P[q]? = some p := ⟨_, List.getElem?_eq_getElem hc44⟩
      rw [pcsT_cons hp] at htot2 hlen2
      simp only [List.length_append] at hlen2
      have hprow := hV.row hp (by omega)
      have hpw1 := hpw p (List.mem_of_getElem? hp)
      refine c_skip (x_then (hK12 _ _ ?_))
      clear hK12 K12
      refine forget [(0, _), (1, _), (2, _), (3, _), (8, _), (9, _), (10, _), (11, _), (12, _)] ⟨rfl, rfl, rfl, rfl, rfl, rfl, rfl, rfl, rfl, trivial⟩ (fun e => ?_)
      refine c_seq (fun K14 hK14 => ?_)
      refine c_block ?_
      refine c_seq (fun K15 hK15 => ?_)
      refine c_reg ?_ -- region 11 tmpl.go:94
      refine wl (ro_move rfl) ?_
      refine wl (ro_nilCheck rfl) ?_
      refine wl (ro_fieldAddr (k := 3) rfl fo_120_3) ?_
      refine wl (ro_loadB rfl sc_118 (hB) (rfl)) ?_
      refine wl (ro_move rfl) ?_
      refine wl (ro_indexAddr (et := 146) (k := 3) rfl rfl se_118 (rfl) ((by omega : q < 32))) ?_
      refine wl (ro_loadAggB rfl ag_146 (hP) (rfl) (hprow)) ?_
      refine wl_new (ze_146) (fun db w3 hbdb hD F3 => ?_)
      have hbsdb := Nat.le_trans hF.size hbdb
      have hnefbdb : fb < db := Nat.lt_of_lt_of_le hB.lt hbdb
      have hnexsdb : xs < db := Nat.lt_of_lt_of_le hX.lt hbdb
      have hnepsdb : ps < db := Nat.lt_of_lt_of_le hP.lt hbdb
      have hnebbdb : bb < db := Nat.lt_of_lt_of_le hb.lt hbdb
      have hnecbdb : cb < db := Nat.lt_of_lt_of_le hC.lt hbdb
      replace hF := hF.thenDrew.thenN F3
      replace hB := F3.blkN hB
      replace hX := F3.blkN hX
      replace hP := F3.blkN hP
      replace hb := F3.blkN hb
      replace hC := F3.blkN hC
      refine wl_puta rfl rfl ((pcc_cells p)) sz_146 (rfl) hD ((by simp)) ((show _ = pcc p from rfl)) (fun w4 hD F4 => ?_)
      replace hF := hF.thenDrew.thenO F4 (by first | exact .inr (by omega) | exact .inl rfl | exact .inl (by assumption))
      replace hB := F4.blkO hB (by omega)
      replace hX := F4.blkO hX (by omega)
      replace hP := F4.blkO hP (by omega)
      replace hb := F4.blkO hb (by omega)
      replace hC := F4.blkO hC (by omega)
      refine wl_nil (x_then (hK15 _ _ ?_))
      clear hK15 K15
      refine forget [(0, _), (1, _), (2, _), (3, _), (8, _), (9, _), (10, _), (11, _), (12, _), (13, _)] ⟨rfl, rfl, rfl, rfl, rfl, rfl, rfl, rfl, rfl, rfl, trivial⟩ (fun e => ?_)
      refine c_seq (fun K16 hK16 => ?_)
      have hqs : (p.g = -1 ∧ p.lo ≤ p.hi ∧ p.hi ≤ t.length) ∨ (∃ g : Nat, p.g = (g : Int) ∧ g ≤ 3 ∧ c[2 * g]? = some (-1) ∧ c[2 * g + 1]? = some (-1) ∧ grpT s c g = []) ∨ (∃ g a b : Nat, p.g = (g : Int) ∧ g ≤ 3 ∧ a ≤ b ∧ b ≤ s.length ∧ c[2 * g]? = some (a : Int) ∧ c[2 * g + 1]? = some (b : Int) ∧ grpT s c g = cut s a b) := by
        rcases hpw1 with hp | hp
        · exact .inl hp
        · have hg : p.g = ((p.g.toNat : Nat) : Int) := by omega
          rcases grpT_ok rfl hm (g := p.g.toNat) (by omega) with h | ⟨a, b, h⟩
          · exact .inr (.inl ⟨p.g.toNat, hg, by omega, h⟩)
          · exact .inr (.inr ⟨p.g.toNat, a, b, hg, by omega, h⟩)
      rcases hqs with ⟨hg, h1', h2'⟩ | ⟨g, hg, hg3, h1', h2', h3'⟩ | ⟨g, a, b, hg, hg3, hab, hbs, h1', h2', h3'⟩
      · skip
        have hpt : pcT t s c p = cut t p.lo p.hi := by unfold pcT; rw [if_pos (by omega)]
        have hpc : (pcT t s c p).length = p.hi - p.lo := by rw [hpt]; exact cut_len h1' h2'
        refine c_reg ?_ -- region 12 tmpl.go:95
        refine wl (ro_fieldAddr (k := 2) rfl fo_146_2) ?_
        refine wl (ro_loadB rfl sc_3 (hD) (rfl)) ?_
        refine wl (ro_cmp (r := true) rfl rfl (congrArg some (decide_eq_true (by omega)))) ?_
        refine wl_nil (x_then (hK16 _ _ ?_))
        clear hK16 K16
        refine wc_condT rfl ?_
        refine c_reg ?_ -- region 13 tmpl.go:96
        refine wl (ro_move rfl) ?_
        refine wl (ro_move rfl) ?_
        refine wl (ro_move rfl) ?_
        refine wl (ro_fieldAddr (k := 0) rfl fo_146_0) ?_
        refine wl (ro_loadB rfl sc_3 (hD) (rfl)) ?_
        refine wl (ro_fieldAddr (k := 1) rfl fo_146_1) ?_
        refine wl (ro_loadB rfl sc_3 (hD) (rfl)) ?_
        refine wl_call rfl en_55 (lay55 hb hbv2 rfl h1' h2' (by omega) hN7 (by omega)) ?_
        rintro _ w3 ⟨rfl, ⟨bf4, hb, hbv4⟩, F3⟩
        replace hF := hF.transG F3 (by intro k hk h; simp only [one, two, none'] at h ⊢ <;> omega)
        replace hB := F3.blkF hB (by intro h; simp only [one, two, none'] at h <;> omega)
        replace hX := F3.blkF hX (by intro h; simp only [one, two, none'] at h <;> omega)
        replace hP := F3.blkF hP (by intro h; simp only [one, two, none'] at h <;> omega)
        replace hC := F3.blkF hC (by intro h; simp only [one, two, none'] at h <;> omega)
        replace hD := F3.blkF hD (by intro h; simp only [one, two, none'] at h <;> omega)
        refine wl (ro_assign rfl) ?_
        refine wl_nil (x_blk (x_then (hK14 _ _ ?_)))
        clear hK14 K14
        refine c_reg ?_ -- region 10 tmpl.go:93
        refine wl (ro_move rfl) ?_
        refine wl (ro_arith rfl rfl rfl (Go.IntWalk.i64_in _ (by omega))) ?_
        refine wl (ro_assign rfl) ?_
        refine wl_nil (x_then ?_)
        refine ⟨P.length - (q + 1), by omega, q + 1, o2 ++ cut t p.lo p.hi, bf4, rfl, by omega, by rw [← htot2, hpt]; simp, hbv4, hB, hX, hP, hb, hC, hF, kp _ ⟨rfl, rfl, rfl, rfl, by rw [List.length_append, ← hpt, hpc]; rfl, rfl, rfl, rfl, rfl, trivial⟩⟩
      · skip
        have hpt : pcT t s c p = [] := by unfold pcT; rw [if_neg (by omega), hg, Int.toNat_natCast, h3']
        have e1 : c.getD (2 * g) 0 = -1 := by rw [List.getD, h1']; rfl
        refine c_reg ?_ -- region 12 tmpl.go:95
        refine wl (ro_fieldAddr (k := 2) rfl fo_146_2) ?_
        refine wl (ro_loadB rfl sc_3 (hD) (rfl)) ?_
        refine wl (ro_cmp (r := false) rfl rfl (congrArg some (decide_eq_false (by omega)))) ?_
        refine wl_nil (x_then (hK16 _ _ ?_))
        clear hK16 K16
        refine wc_condF rfl ?_
        refine c_seq (fun K17 hK17 => ?_)
        refine c_reg ?_ -- region 14 tmpl.go:98
        refine wl (ro_loadAggB rfl ag_146 (hD) (rfl) (rfl)) ?_
        refine wl (ro_loadAggB rfl ag_55 (hC) (rfl) (rfl)) ?_
        refine wl_call rfl en_54 (width54 hm hpw1 hs ht) ?_
        rintro _ w3 ⟨rfl, F3⟩
        replace hF := hF.transG F3 (by intro k hk h; simp only [one, two, none'] at h ⊢ <;> omega)
        replace hB := F3.blkF hB (by intro h; simp only [one, two, none'] at h <;> omega)
        replace hX := F3.blkF hX (by intro h; simp only [one, two, none'] at h <;> omega)
        replace hP := F3.blkF hP (by intro h; simp only [one, two, none'] at h <;> omega)
        replace hb := F3.blkF hb (by intro h; simp only [one, two, none'] at h <;> omega)
        replace hC := F3.blkF hC (by intro h; simp only [one, two, none'] at h <;> omega)
        replace hD := F3.blkF hD (by intro h; simp only [one, two, none'] at h <;> omega)
        refine wl (ro_assign rfl) ?_
        refine wl_nil (x_then (hK17 _ _ ?_))
        clear hK17 K17
        refine c_pi [(0, false), (1, false), (2, false), (3, false), (4, false), (5, false), (6, false), (7, false), (8, false), (9, false), (10, false), (11, false), (12, false), (13, false), (14, false), (15, true), (16, false)] (fun w' => Blk w'.heap db (pcc p) 146 ∧ Blk w'.heap cb (capc c) 55) mixed (by kernel_rfl) rfl (by kernel_rfl) (po_blk (po_then (po_then (po_blk (po_blk (po_then (po_then (po_blk (po_then (po_bp)))))))))) (⟨hD, hC⟩) ?_ -- region 15 tmpl.go:99
        refine pi_ro rfl (fun w hS => ro_move rfl) ?_
        refine pi_ro rfl (fun w hS => ro_move rfl) ?_
        refine pi_ro rfl (fun w hS => ro_move rfl) ?_
        refine pi_ro rfl (fun w hS => ro_fieldAddr (k := 2) rfl fo_146_2) ?_
        refine pi_ro rfl (fun w hS => ro_loadB rfl sc_3 (hS.1) ((show _ = some (i64c g) from congrArg (fun z => some (icv z)) hg))) ?_
        refine pi_ro rfl (fun w hS => ro_arith (r := ((2 * g : Nat) : Int)) rfl rfl (congrArg some (by simp)) (Go.IntWalk.i64_in _ (by omega))) ?_
        refine pi_ro rfl (fun w hS => ro_indexAddrA (et := 3) (k := 1) rfl rfl ar_55 (rfl) ((by omega : 2 * g < 8))) ?_
        refine pi_ro rfl (fun w hS => ro_loadB rfl sc_3 (hS.2) (cel_at (k := 2 * g) (by omega) (by omega) (congrArg icv e1))) ?_
        refine pi_ro rfl (fun w hS => ro_fieldAddr (k := 2) rfl fo_146_2) ?_
        refine pi_ro rfl (fun w hS => ro_loadB rfl sc_3 (hS.1) ((show _ = some (i64c g) from congrArg (fun z => some (icv z)) hg))) ?_
        refine pi_ro rfl (fun w hS => ro_arith (r := ((2 * g : Nat) : Int)) rfl rfl (congrArg some (by simp)) (Go.IntWalk.i64_in _ (by omega))) ?_
        refine pi_ro rfl (fun w hS => ro_indexAddrA (et := 3) (k := 1) rfl rfl ar_55 (rfl) ((by omega : 2 * g < 8))) ?_
        refine pi_ro rfl (fun w hS => ro_loadB rfl sc_3 (hS.2) (cel_at (k := 2 * g) (by omega) (by omega) (congrArg icv e1))) ?_
        refine pi_ro rfl (fun w hS => ro_move rfl) ?_
        refine pi_ro rfl (fun w hS => ro_arith (r := (-1 : Int)) rfl rfl (congrArg some (by rw [hpt]; rfl)) rfl) ?_
        refine pi_call rfl rfl en_55 (lay55n) ?_
        rintro _ _ ⟨rfl, rfl⟩
        replace hF := hF.thenDrew (k := w3.drawn + 1)
        refine ⟨⟨hD, hC⟩, ?_⟩
        refine pi_ro rfl (fun w hS => ro_assign rfl) ?_
        refine pi_nil (x_blk (x_then (hK14 _ _ ?_)))
        clear hK14 K14
        refine c_reg ?_ -- region 10 tmpl.go:93
        refine wl (ro_move rfl) ?_
        refine wl (ro_arith rfl rfl rfl (Go.IntWalk.i64_in _ (by omega))) ?_
        refine wl (ro_assign rfl) ?_
        refine wl_nil (x_then ?_)
        exact ⟨P.length - (q + 1), by omega, q + 1, o2, bf2, rfl, by omega, by rw [← htot2, hpt]; rfl, hbv2, hB, hX, hP, hb, hC, hF, kp _ ⟨rfl, rfl, rfl, rfl, rfl, rfl, rfl, rfl, rfl, trivial⟩⟩
      · skip
        have hpt : pcT t s c p = cut s a b := by unfold pcT; rw [if_neg (by omega), hg, Int.toNat_natCast, h3']
        have hpc : (pcT t s c p).length = b - a := by rw [hpt]; exact cut_len hab hbs
        have e1 : c.getD (2 * g) 0 = (a : Int) := by rw [List.getD, h1']; rfl
        refine c_reg ?_ -- region 12 tmpl.go:95
        refine wl (ro_fieldAddr (k := 2) rfl fo_146_2) ?_
        refine wl (ro_loadB rfl sc_3 (hD) (rfl)) ?_
        refine wl (ro_cmp (r := false) rfl rfl (congrArg some (decide_eq_false (by omega)))) ?_
        refine wl_nil (x_then (hK16 _ _ ?_))
        clear hK16 K16
        refine wc_condF rfl ?_
        refine c_seq (fun K18 hK18 => ?_)
        refine c_reg ?_ -- region 14 tmpl.go:98
        refine wl (ro_loadAggB rfl ag_146 (hD) (rfl) (rfl)) ?_
        refine wl (ro_loadAggB rfl ag_55 (hC) (rfl) (rfl)) ?_
        refine wl_call rfl en_54 (width54 hm hpw1 hs ht) ?_
        rintro _ w3 ⟨rfl, F3⟩
        replace hF := hF.transG F3 (by intro k hk h; simp only [one, two, none'] at h ⊢ <;> omega)
        replace hB := F3.blkF hB (by intro h; simp only [one, two, none'] at h <;> omega)
        replace hX := F3.blkF hX (by intro h; simp only [one, two, none'] at h <;> omega)
        replace hP := F3.blkF hP (by intro h; simp only [one, two, none'] at h <;> omega)
        replace hb := F3.blkF hb (by intro h; simp only [one, two, none'] at h <;> omega)
        replace hC := F3.blkF hC (by intro h; simp only [one, two, none'] at h <;> omega)
        replace hD := F3.blkF hD (by intro h; simp only [one, two, none'] at h <;> omega)
        refine wl (ro_assign rfl) ?_
        refine wl_nil (x_then (hK18 _ _ ?_))
        clear hK18 K18
        refine c_pi [(0, false), (1, false), (2, false), (3, false), (4, false), (5, false), (6, false), (7, false), (8, false), (9, false), (10, false), (11, false), (12, false), (13, false), (14, false), (15, true), (16, false)] (fun w' => Blk w'.heap db (pcc p) 146 ∧ Blk w'.heap cb (capc c) 55) mixed (by kernel_rfl) rfl (by kernel_rfl) (po_blk (po_then (po_then (po_blk (po_blk (po_then (po_then (po_blk (po_then (po_bp)))))))))) (⟨hD, hC⟩) ?_ -- region 15 tmpl.go:99
        refine pi_ro rfl (fun w hS => ro_move rfl) ?_
        refine pi_ro rfl (fun w hS => ro_move rfl) ?_
        refine pi_ro rfl (fun w hS => ro_move rfl) ?_
        refine pi_ro rfl (fun w hS => ro_fieldAddr (k := 2) rfl fo_146_2) ?_
        refine pi_ro rfl (fun w hS => ro_loadB rfl sc_3 (hS.1) ((show _ = some (i64c g) from congrArg (fun z => some (icv z)) hg))) ?_
        refine pi_ro rfl (fun w hS => ro_arith (r := ((2 * g : Nat) : Int)) rfl rfl (congrArg some (by simp)) (Go.IntWalk.i64_in _ (by omega))) ?_
        refine pi_ro rfl (fun w hS => ro_indexAddrA (et := 3) (k := 1) rfl rfl ar_55 (rfl) ((by omega : 2 * g < 8))) ?_
        refine pi_ro rfl (fun w hS => ro_loadB rfl sc_3 (hS.2) (cel_at (k := 2 * g) (by omega) (by omega) (congrArg icv e1))) ?_
        refine pi_ro rfl (fun w hS => ro_fieldAddr (k := 2) rfl fo_146_2) ?_
        refine pi_ro rfl (fun w hS => ro_loadB rfl sc_3 (hS.1) ((show _ = some (i64c g) from congrArg (fun z => some (icv z)) hg))) ?_
        refine pi_ro rfl (fun w hS => ro_arith (r := ((2 * g : Nat) : Int)) rfl rfl (congrArg some (by simp)) (Go.IntWalk.i64_in _ (by omega))) ?_
        refine pi_ro rfl (fun w hS => ro_indexAddrA (et := 3) (k := 1) rfl rfl ar_55 (rfl) ((by omega : 2 * g < 8))) ?_
        refine pi_ro rfl (fun w hS => ro_loadB rfl sc_3 (hS.2) (cel_at (k := 2 * g) (by omega) (by omega) (congrArg icv e1))) ?_
        refine pi_ro rfl (fun w hS => ro_move rfl) ?_
        refine pi_ro rfl (fun w hS => ro_arith (r := ((b : Nat) : Int)) rfl rfl (congrArg some (by rw [hpc]; omega)) (Go.IntWalk.i64_in _ (by omega))) ?_
        refine pi_call rfl rfl en_55 (lay55 (lo := a) (hi := b) hb hbv2 rfl hab hbs (by omega) hN7 (by omega)) ?_
        rintro _ w4 ⟨rfl, ⟨bf4, hb, hbv4⟩, F4⟩
        replace hF := hF.transG F4 (by intro k hk h; simp only [one, two, none'] at h ⊢ <;> omega)
        replace hB := F4.blkF hB (by intro h; simp only [one, two, none'] at h <;> omega)
        replace hX := F4.blkF hX (by intro h; simp only [one, two, none'] at h <;> omega)
        replace hP := F4.blkF hP (by intro h; simp only [one, two, none'] at h <;> omega)
        replace hC := F4.blkF hC (by intro h; simp only [one, two, none'] at h <;> omega)
        replace hD := F4.blkF hD (by intro h; simp only [one, two, none'] at h <;> omega)
        refine ⟨⟨hD, hC⟩, ?_⟩
        refine pi_ro rfl (fun w hS => ro_assign rfl) ?_
        refine pi_nil (x_blk (x_then (hK14 _ _ ?_)))
        clear hK14 K14
        refine c_reg ?_ -- region 10 tmpl.go:93
        refine wl (ro_move rfl) ?_
        refine wl (ro_arith rfl rfl rfl (Go.IntWalk.i64_in _ (by omega))) ?_
        refine wl (ro_assign rfl) ?_
        refine wl_nil (x_then ?_)
        refine ⟨P.length - (q + 1), by omega, q + 1, o2 ++ cut s a b, bf4, rfl, by omega, by rw [← htot2, hpt]; simp, hbv4, hB, hX, hP, hb, hC, hF, kp _ ⟨rfl, rfl, rfl, rfl, by rw [List.length_append, ← hpt, hpc]; rfl, rfl, rfl, rfl, rfl, trivial⟩⟩
    · try simp only [decide_eq_true_eq, decide_eq_false_iff_not, Bool.not_eq_true', Bool.not_eq_false', Bool.not_eq_eq_eq_not, Bool.not_true, Bool.not_false, beq_iff_eq, bne_iff_ne, ne_eq, beq_eq_false_iff_ne, bne_eq_false_iff_eq, gt_iff_lt, ge_iff_le, Int.not_lt, Int.not_le] at hc44
      refine c_exit (x_thenX (x_thenX (x_blkX (x_blk (x_then (hK7 _ _ ?_))))))
      clear hK12 K12 hK7 K7
      refine c_reg ?_ -- region 4 tmpl.go:89
      refine wl (ro_move rfl) ?_
      refine wl (ro_arith rfl rfl rfl (Go.IntWalk.i64_in _ (by omega))) ?_
      refine wl (ro_assign rfl) ?_
      refine wl_nil (x_then ?_)
      refine ⟨L.length - (k + 1), by omega, k + 1, capE c, nextF c, o2, bf2, rfl, by omega, ?_, hbv2, by omega, by omega, hck, hB, hX, hP, hb, hF, kp _ ⟨rfl, rfl, rfl, rfl, rfl, rfl, rfl, trivial⟩⟩
      rw [show P.drop q = [] from List.drop_eq_nil_of_le (by omega)] at htot2
      simpa [pcsT] using htot2
  · try simp only [decide_eq_true_eq, decide_eq_false_iff_not, Bool.not_eq_true', Bool.not_eq_false', Bool.not_eq_eq_eq_not, Bool.not_true, Bool.not_false, beq_iff_eq, bne_iff_ne, ne_eq, beq_eq_false_iff_ne, bne_eq_false_iff_eq, gt_iff_lt, ge_iff_le, Int.not_lt, Int.not_le] at hc20
    refine c_exit (x_thenX (x_thenX (x_blkX (x_then (hK3 _ _ ?_)))))
    clear hK5 K5 hK3 K3
    rw [show L.drop k = [] from List.drop_eq_nil_of_le (by omega)] at htot hlen
    simp only [filF, List.length_append, List.length_drop] at htot hlen
    refine c_reg ?_ -- region 16 tmpl.go:103
    refine wl (ro_move rfl) ?_
    refine wl (ro_move rfl) ?_
    refine wl (ro_move rfl) ?_
    refine wl (ro_move rfl) ?_
    refine wl (ro_move rfl) ?_
    refine wl (ro_lenS rfl st_9) ?_
    refine wl_call rfl en_55 (lay55 (lo := last) (hi := s.length) hb hbv rfl hlast (Nat.le_refl _) (by omega) hN7 (by omega)) ?_
    rintro _ w3 ⟨rfl, ⟨bf3, hb, hbv3⟩, F3⟩
    replace hF := hF.transG F3 (by intro k hk h; simp only [one, two, none'] at h ⊢ <;> omega)
    replace hB := F3.blkF hB (by intro h; simp only [one, two, none'] at h <;> omega)
    replace hX := F3.blkF hX (by intro h; simp only [one, two, none'] at h <;> omega)
    replace hP := F3.blkF hP (by intro h; simp only [one, two, none'] at h <;> omega)
    refine wl_nil ?_
    refine bp_end Tryz.results42 rfl ?_
    rw [cut_end, htot] at hbv3
    exact ⟨rfl, ⟨bf3, hb, hbv3⟩, hF⟩

end Go.Proofs.Qxb6500567aGreat
