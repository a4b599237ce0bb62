import Derived.Test.Qxb6500567aGreatKd
import Derived.Test.Qxb6500567aGreatGf
/- The lock-step machine: Search, New. -/
namespace Go.Proofs.Qxb6500567aGreat
set_option linter.unusedVariables false
set_option linter.unusedSimpArgs false

theorem MM.flip {w : World} {P : PK} {i : Nat} {f h ho sf : Nat → Value} {reg best : List Int} {z : Nat} (hi : i < 2) (M : MM w P i f h ho sf reg best z) : MM w P (1 - i) f ho h sf reg best z :=
  ⟨M.blk, M.oc, by rw [show 1 - (1 - i) = i by omega]; exact M.cc, M.st, M.rg, M.bs, M.nn, M.af, M.r8, M.b8⟩

/-- The machine between calls. -/
def PKV (w : World) (P : PK) : Prop := ∃ f h h2 sf reg best z, MM w P 0 f h h2 sf reg best z

/-- What it owns and writes. -/
def pset (P : PK) : Nat → Prop := fun k => k = P.pb ∨ k = P.c 0 ∨ k = P.c 1 ∨ k = P.st ∨ k = P.rg ∨ k = P.bs

theorem pset_c {P : PK} {i : Nat} (hi : i < 2) : pset P (P.c i) := by
  rcases (show i = 0 ∨ i = 1 by omega) with rfl | rfl
  · exact .inr (.inl rfl)
  · exact .inr (.inr (.inl rfl))
theorem fset_p {P : PK} {i k : Nat} (hi : i < 2) (h : fset P i k) : pset P k := by
  rcases h with rfl | rfl | rfl | rfl
  · exact .inl rfl
  · exact pset_c hi
  · exact .inr (.inr (.inr (.inl rfl)))
  · exact .inr (.inr (.inr (.inr (.inl rfl))))
theorem tset_p {P : PK} {i k : Nat} (hi : i < 2) (h : tset P i k) : pset P k := by
  rcases h with rfl | rfl | rfl | rfl | rfl
  · exact .inl rfl
  · exact pset_c (by omega)
  · exact .inr (.inr (.inr (.inl rfl)))
  · exact .inr (.inr (.inr (.inr (.inl rfl))))
  · exact .inr (.inr (.inr (.inr (.inr rfl))))

theorem MM.pkv {w : World} {P : PK} {i : Nat} {f h ho sf : Nat → Value} {reg best : List Int} {z : Nat} (hi : i < 2) (M : MM w P i f h ho sf reg best z) : PKV w P := by
  rcases (show i = 0 ∨ i = 1 by omega) with rfl | rfl
  · exact ⟨f, h, ho, sf, reg, best, z, M⟩
  · exact ⟨f, ho, h, sf, reg, best, z, M.flip (by omega)⟩

theorem scan_cases {p : List Ins} {s : List UInt8} {i : Nat} {l : List Ent} {hit res : Option (List Int)} (hi : i ≤ s.length) (h : ScanR p s (s.length + 1 - i) i l hit res) :
    (∃ l1 nl w, hit = none ∧ AddR p s.length i l 0 (c0 i) l1 ∧ l1 ≠ [] ∧ StepR p s i l1 [] nl w ∧ ScanR p s (s.length + 1 - (i + 1)) (i + 1) nl w res) ∨
    (∃ c, hit = some c ∧ l = [] ∧ res = some c) ∨
    (∃ c nl w, hit = some c ∧ l ≠ [] ∧ StepR p s i l [] nl w ∧ ScanR p s (s.length + 1 - (i + 1)) (i + 1) nl (w.or (some c)) res) := by
  rw [show s.length + 1 - i = (s.length + 1 - (i + 1)) + 1 by omega] at h
  rcases hit with _ | c
  · obtain ⟨l1, nl, w, h1, h2, h3, h4⟩ := h
    exact .inl ⟨l1, nl, w, rfl, h1, h2, h3, h4⟩
  · rcases h with ⟨h1, h2⟩ | ⟨h1, nl, w, h2, h3⟩
    · exact .inr (.inl ⟨c, rfl, h1, h2⟩)
    · exact .inr (.inr ⟨c, nl, w, rfl, h1, h2, h3⟩)

theorem rgv_none {reg : List Int} : cel 8 (cpf (rgv reg) 0 (fun _ => icv (-1)) 0 (8 * 1)) = cel 8 (rgv (List.replicate 8 (-1))) :=
  cpf_rgv (fun j hj => congrArg icv ((by decide : ∀ j, j < 8 → (-1 : Int) = (List.replicate 8 (-1 : Int)).getD j 0) j hj))

theorem c0_len (i : Nat) : (c0 i).length = 8 := by simp [c0]

set_option maxHeartbeats 16000000 in
theorem Search51 {w : World} {P : PK} {from0 gb : Nat} {p : List Ins} {s : List UInt8} {res : Option (List Int)} (ho : PKo P) (V : PKV w P) (hG : PGB w.heap gb (insL p)) (hp : PrgOK p) (hs : s.length ≤ 256) (hfr : from0 ≤ s.length) (hscan : ScanR p s (s.length + 1 - from0) from0 [] none res) :
    Ret Tryz.prog 51 [ptr P.pb, pgs gb p.length, S s, i64c from0] w (fun v w' => v = .agg (fdc 0 0 res.isSome (capO res)).toArray ∧ PKV w' P ∧ PGB w'.heap gb (insL p) ∧ Fram (pset P) w w') := by
  have hF : Fram (pset P) w w := Fram.refl _ _
  obtain ⟨f, h, h2, sf, reg, best, z, M⟩ := V
  obtain ⟨hB, hC, hO, hK, hR, hE, hN, hA, hr8, hb8⟩ := M
  have o1 := ho.a
  have o2 := ho.b
  have o2' := ho.c
  have o3 := ho.d
  have o4 := ho.e
  have o5 := ho.f
  have hple := hp.le
  have hppos := hp.pos
  have hgb : gb ≠ P.pb := fun e => by rw [e] at hG; exact absurd (hG.uniq hB).2 (by decide)
  have hgc : gb ≠ P.c 0 := fun e => by rw [e] at hG; exact absurd (hG.uniq hC).2 (by decide)
  have hgo : gb ≠ P.c 1 := fun e => by rw [e] at hG; exact absurd (hG.uniq hO).2 (by decide)
  have hgs : gb ≠ P.st := fun e => by rw [e] at hG; exact absurd (hG.uniq hK).2 (by decide)
  have hgr : gb ≠ P.rg := fun e => by rw [e] at hG; exact absurd (hG.uniq hR).2 (by decide)
  have hge : gb ≠ P.bs := fun e => by rw [e] at hG; exact absurd (hG.uniq hE).2 (by decide)
  have hgn : gb ≠ P.nn := fun e => by rw [e] at hG; exact absurd (hG.uniq hN).2 (by decide)
  have hm1 : pset P P.pb := .inl rfl
  have hm2 : pset P P.rg := .inr (.inr (.inr (.inr (.inl rfl))))
  have hm3 : pset P P.bs := .inr (.inr (.inr (.inr (.inr rfl))))
  have hA0 : AF P (pt (pt (pt f 265 (i64c 0)) (0 * 130 + 128) (i64c 0)) (1 * 130 + 128) (i64c 0)) 0 0 := ((hA.z' (z' := 0)).n0 (by omega)).n0 (by omega)
  have hL0 : LV (pt (pt (pt f 265 (i64c 0)) (0 * 130 + 128) (i64c 0)) (1 * 130 + 128) (i64c 0)) 0 [] := lv_n0O lv_n0 (by omega) (by omega) (by omega)
  replace hO : FB w.heap (P.c 1) 512 h2 3 := hO
  refine ret_of Tryz.func51 rfl Tryz.ntmps51 rfl ?_
  refine c_seq (fun K1 hK1 => ?_)
  refine c_reg ?_ -- region 0 machine.go:155
  refine wl_new (ze_57) (fun mb w1 hbmb hM F1 => ?_)
  have hbsmb := Nat.le_trans hF.size hbmb
  have hneP.pbmb : P.pb < mb := Nat.lt_of_lt_of_le hB.lt hbmb
  have hneP.c0mb : P.c 0 < mb := Nat.lt_of_lt_of_le hC.lt hbmb
  have hneP.c1mb : P.c 1 < mb := Nat.lt_of_lt_of_le hO.lt hbmb
  have hneP.stmb : P.st < mb := Nat.lt_of_lt_of_le hK.lt hbmb
  have hneP.rgmb : P.rg < mb := Nat.lt_of_lt_of_le hR.lt hbmb
  have hneP.bsmb : P.bs < mb := Nat.lt_of_lt_of_le hE.lt hbmb
  have hneP.nnmb : P.nn < mb := Nat.lt_of_lt_of_le hN.lt hbmb
  have hnegbmb : gb < mb := Nat.lt_of_lt_of_le hG.lt hbmb
  replace hF := hF.thenDrew.thenN F1
  replace hB := F1.blkN hB
  replace hC := F1.blkN hC
  replace hO := F1.blkN hO
  replace hK := F1.blkN hK
  replace hR := F1.blkN hR
  replace hE := F1.blkN hE
  replace hN := F1.blkN hN
  replace hG := F1.blkN hG
  refine wl_nil (x_then (hK1 _ _ ?_))
  clear hK1 K1
  refine forget [(0, _), (1, _), (2, _), (3, _), (8, _)] ⟨rfl, rfl, rfl, rfl, rfl, trivial⟩ (fun e => ?_)
  refine c_seq (fun K2 hK2 => ?_)
  refine c_reg ?_ -- region 1 machine.go:156
  refine wl (ro_move rfl) ?_
  refine wl (ro_nilCheck rfl) ?_
  refine wl (ro_fieldAddr (k := 265) rfl fo_108_6) ?_
  refine wl_put rfl rfl rfl sz_3 hB ((cel_lt (by omega))) ((cel_put 265 (by omega))) (fun w2 hB F2 => ?_)
  replace hF := hF.thenDrew.thenO F2 (by first | exact .inr (by omega) | exact .inl rfl | exact .inl (by assumption))
  replace hC := F2.blkO hC (by omega)
  replace hO := F2.blkO hO (by omega)
  replace hK := F2.blkO hK (by omega)
  replace hR := F2.blkO hR (by omega)
  replace hE := F2.blkO hE (by omega)
  replace hN := F2.blkO hN (by omega)
  replace hG := F2.blkO hG (by omega)
  replace hM := F2.blkO hM (by omega)
  refine wl_nil (x_then (hK2 _ _ ?_))
  clear hK2 K2
  refine c_seq (fun K3 hK3 => ?_)
  refine c_seq (fun K4 hK4 => ?_)
  refine c_reg ?_ -- region 2 machine.go:157
  refine wl (ro_move rfl) ?_
  refine wl (ro_lenS rfl st_9) ?_
  refine wl (ro_cmp (r := false) rfl rfl (congrArg some (decide_eq_false (by omega)))) ?_
  refine wl_nil (x_then (hK4 _ _ ?_))
  clear hK4 K4
  refine wc_condF rfl ?_
  refine c_skip (x_then (hK3 _ _ ?_))
  clear hK3 K3
  refine forget [(0, _), (1, _), (2, _), (3, _), (8, _)] ⟨rfl, rfl, rfl, rfl, rfl, trivial⟩ (fun e => ?_)
  refine c_seq (fun K5 hK5 => ?_)
  refine c_reg ?_ -- region 4 machine.go:160
  refine wl (ro_move rfl) ?_
  refine wl_call rfl en_59 (ProgOK59 hG hp) ?_
  rintro _ w1 ⟨rfl, F1⟩
  replace hF := hF.transG F1 (by intro k hk h; simp only [one, two, none', fset, tset, pset] at h ⊢ <;> omega)
  replace hB := F1.blkF hB (by intro h; simp only [one, two, none', fset, tset, pset] at h <;> omega)
  replace hC := F1.blkF hC (by intro h; simp only [one, two, none', fset, tset, pset] at h <;> omega)
  replace hO := F1.blkF hO (by intro h; simp only [one, two, none', fset, tset, pset] at h <;> omega)
  replace hK := F1.blkF hK (by intro h; simp only [one, two, none', fset, tset, pset] at h <;> omega)
  replace hR := F1.blkF hR (by intro h; simp only [one, two, none', fset, tset, pset] at h <;> omega)
  replace hE := F1.blkF hE (by intro h; simp only [one, two, none', fset, tset, pset] at h <;> omega)
  replace hN := F1.blkF hN (by intro h; simp only [one, two, none', fset, tset, pset] at h <;> omega)
  replace hG := F1.blkF hG (by intro h; simp only [one, two, none', fset, tset, pset] at h <;> omega)
  replace hM := F1.blkF hM (by intro h; simp only [one, two, none', fset, tset, pset] at h <;> omega)
  refine wl (ro_assign rfl) ?_
  refine wl_nil (x_then (hK5 _ _ ?_))
  clear hK5 K5
  refine c_seq (fun K6 hK6 => ?_)
  refine c_seq (fun K7 hK7 => ?_)
  refine c_reg ?_ -- region 5 machine.go:161
  refine wl (ro_move rfl) ?_
  refine wl (ro_not rfl) ?_
  refine wl_nil (x_then (hK7 _ _ ?_))
  clear hK7 K7
  refine wc_condF rfl ?_
  refine c_skip (x_then (hK6 _ _ ?_))
  clear hK6 K6
  refine c_seq (fun K8 hK8 => ?_)
  refine c_seq (fun K9 hK9 => ?_)
  refine c_reg ?_ -- region 7 machine.go:164
  refine wl (ro_move rfl) ?_
  refine wl (ro_cmp (r := false) rfl rfl (congrArg some (decide_eq_false (by omega)))) ?_
  refine wl (ro_move rfl) ?_
  refine wlg_yes rfl (ro_move rfl) ?_
  refine wlg_yes rfl (ro_move rfl) ?_
  refine wlg_yes rfl (ro_lenS rfl st_9) ?_
  refine wlg_yes rfl (ro_cmp (r := false) rfl rfl (congrArg some (decide_eq_false (by omega)))) ?_
  refine wl (ro_pick rfl rfl rfl) ?_
  refine wl_nil (x_then (hK9 _ _ ?_))
  clear hK9 K9
  refine wc_condF rfl ?_
  refine c_skip (x_then (hK8 _ _ ?_))
  clear hK8 K8
  refine forget [(0, _), (1, _), (2, _), (3, _), (8, _)] ⟨rfl, rfl, rfl, rfl, rfl, trivial⟩ (fun e => ?_)
  refine c_seq (fun K10 hK10 => ?_)
  refine c_reg ?_ -- region 9 machine.go:167
  refine wl (ro_move rfl) ?_
  refine wl (ro_nilCheck rfl) ?_
  refine wl (ro_fieldAddr (k := 0) rfl fo_108_0) ?_
  refine wl (ro_indexAddrA (et := 104) (k := 130) rfl rfl ar_105 ((show (0 : Int) = ((0 : Nat) : Int) from rfl)) ((by omega : 0 < 2))) ?_
  refine wl (ro_fieldAddr (k := 128) rfl fo_104_2) ?_
  refine wl_put rfl rfl rfl sz_3 hB ((cel_lt (by omega))) ((cel_put (0 * 130 + 128) (by omega))) (fun w3 hB F3 => ?_)
  replace hF := hF.thenDrew.thenO F3 (by first | exact .inr (by omega) | exact .inl rfl | exact .inl (by assumption))
  replace hC := F3.blkO hC (by omega)
  replace hO := F3.blkO hO (by omega)
  replace hK := F3.blkO hK (by omega)
  replace hR := F3.blkO hR (by omega)
  replace hE := F3.blkO hE (by omega)
  replace hN := F3.blkO hN (by omega)
  replace hG := F3.blkO hG (by omega)
  replace hM := F3.blkO hM (by omega)
  refine wl_nil (x_then (hK10 _ _ ?_))
  clear hK10 K10
  refine forget [(0, _), (1, _), (2, _), (3, _), (8, _)] ⟨rfl, rfl, rfl, rfl, rfl, trivial⟩ (fun e => ?_)
  refine c_seq (fun K11 hK11 => ?_)
  refine c_reg ?_ -- region 10 machine.go:168
  refine wl (ro_move rfl) ?_
  refine wl (ro_nilCheck rfl) ?_
  refine wl (ro_fieldAddr (k := 0) rfl fo_108_0) ?_
  refine wl (ro_indexAddrA (et := 104) (k := 130) rfl rfl ar_105 ((show (1 : Int) = ((1 : Nat) : Int) from rfl)) ((by omega : 1 < 2))) ?_
  refine wl (ro_fieldAddr (k := 128) rfl fo_104_2) ?_
  refine wl_put rfl rfl rfl sz_3 hB ((cel_lt (by omega))) ((cel_put (1 * 130 + 128) (by omega))) (fun w4 hB F4 => ?_)
  replace hF := hF.thenDrew.thenO F4 (by first | exact .inr (by omega) | exact .inl rfl | exact .inl (by assumption))
  replace hC := F4.blkO hC (by omega)
  replace hO := F4.blkO hO (by omega)
  replace hK := F4.blkO hK (by omega)
  replace hR := F4.blkO hR (by omega)
  replace hE := F4.blkO hE (by omega)
  replace hN := F4.blkO hN (by omega)
  replace hG := F4.blkO hG (by omega)
  replace hM := F4.blkO hM (by omega)
  refine wl_nil (x_then (hK11 _ _ ?_))
  clear hK11 K11
  refine forget [(0, _), (1, _), (2, _), (3, _), (8, _)] ⟨rfl, rfl, rfl, rfl, rfl, trivial⟩ (fun e => ?_)
  refine c_seq (fun K12 hK12 => ?_)
  refine c_reg ?_ -- region 11 machine.go:169
  refine wl (ro_assign rfl) ?_
  refine wl_nil (x_then (hK12 _ _ ?_))
  clear hK12 K12
  refine forget [(0, _), (1, _), (2, _), (3, _), (8, _), (10, _)] ⟨rfl, rfl, rfl, rfl, rfl, rfl, trivial⟩ (fun e => ?_)
  refine c_seq (fun K13 hK13 => ?_)
  refine c_reg ?_ -- region 12 machine.go:170
  refine wl (ro_assign rfl) ?_
  refine wl_nil (x_then (hK13 _ _ ?_))
  clear hK13 K13
  refine c_seq (fun K14 hK14 => ?_)
  refine c_seq (fun K15 hK15 => ?_)
  refine c_reg ?_ -- region 13 machine.go:171
  refine wl (ro_move rfl) ?_
  refine wl (ro_assign rfl) ?_
  refine wl_nil (x_then (hK15 _ _ ?_))
  clear hK15 K15
  refine c_block ?_
  -- loop@r14: live slots [0, 1, 2, 8, 10, 11, 12]
  refine c_loopG (fun m a' w' => ∃ (at0 i : Nat) (l : List Ent) (hit : Option (List Int)) (f h h2 sf : Nat → Value) (reg best : List Int) (z : Nat), m = s.length + 1 - at0 ∧ at0 ≤ s.length + 1 ∧ from0 ≤ at0 ∧ i < 2 ∧ z ≤ 15300 * at0 ∧ ScanR p s (s.length + 1 - at0) at0 l hit res ∧ (∀ c, hit = some c → best = c) ∧ MM w' P i f h h2 sf reg best z ∧ LV f i l ∧ CP p h l ∧ (∀ e ∈ l, e.1 < p.length) ∧ PGB w'.heap gb (insL p) ∧ (∃ zz, Blk w'.heap mb zz 57 ∧ zz.length = 11) ∧ Fram (pset P) w w' ∧ ∃ e, a' = Fr 113 (upds e [(0, ptr P.pb), (1, pgs gb p.length), (2, S s), (8, ptr mb), (10, i64c i), (11, .bool hit.isSome), (12, i64c at0)]) []) (s.length + 1 - from0) ⟨from0, 0, [], none, _, h, h2, sf, reg, best, 0, rfl, by omega, by omega, by omega, by omega, hscan, (fun c hc ↦ by cases hc), ⟨hB, hC, hO, hK, hR, hE, hN, hA0, hr8, hb8⟩, hL0, (fun k e he ↦ by simp at he), (fun e he ↦ by simp at he), hG, ⟨_, hM, rfl⟩, hF, kp _ ⟨rfl, rfl, rfl, rfl, rfl, rfl, rfl, trivial⟩⟩ ?_
  clear hB hC hO hK hR hE hN hG hF hA hr8 hb8 hA0 hL0 hscan hM
  rintro m a' w1 ⟨at0, i, l, hit, f, h, h2, sf, reg, best, z, rfl, hat, hfat, hi, hz, hscan, hbest, ⟨hB, hC, hO, hK, hR, hE, hN, hA, hr8, hb8⟩, hL, hcp, hlp, hG, ⟨zz, hM, hzz⟩, hF, e, rfl⟩
  have q1 := (ho.mid hi).1
  have q2 := (ho.mid hi).2
  have q3 := (ho.mid (show 1 - i < 2 by omega)).1
  have q4 := (ho.mid (show 1 - i < 2 by omega)).2
  have q5 : P.c i ≠ P.c (1 - i) := by
    rcases (show i = 0 ∨ i = 1 by omega) with rfl | rfl
    · show P.c 0 ≠ P.c 1; omega
    · show P.c 1 ≠ P.c 0; omega
  have q6 : gb ≠ P.c i := fun e => by rw [e] at hG; exact absurd (hG.uniq hC).2 (by decide)
  have q7 : gb ≠ P.c (1 - i) := fun e => by rw [e] at hG; exact absurd (hG.uniq hO).2 (by decide)
  have q8 : mb ≠ P.c i := fun e => by rw [e] at hM; exact absurd (hM.uniq hC).2 (by decide)
  have q9 : mb ≠ P.c (1 - i) := fun e => by rw [e] at hM; exact absurd (hM.uniq hO).2 (by decide)
  refine c_seq (fun K16 hK16 => ?_)
  refine c_seq (fun K17 hK17 => ?_)
  refine c_reg ?_ -- region 14 machine.go:171
  refine wl (ro_move rfl) ?_
  refine wl (ro_move rfl) ?_
  refine wl (ro_lenS rfl st_9) ?_
  refine wl (ro_cmp (r := decide (at0 ≤ s.length)) rfl rfl (congrArg some (decide_eq_decide.2 (by omega)))) ?_
  refine wl_nil (x_then (hK17 _ _ ?_))
  clear hK17 K17
  refine wc_cond rfl (fun hc51 => ?_) (fun hc51 => ?_)
  · try simp only [decide_eq_true_eq, decide_eq_false_iff_not, Bool.not_eq_true', Bool.not_eq_false', Bool.not_eq_eq_eq_not, Bool.not_true, Bool.not_false, beq_iff_eq, bne_iff_ne, ne_eq, beq_eq_false_iff_ne, bne_eq_false_iff_eq, gt_iff_lt, ge_iff_le, Int.not_lt, Int.not_le] at hc51
    refine c_skip (x_then (hK16 _ _ ?_))
    clear hK16 K16
    refine forget [(0, _), (1, _), (2, _), (8, _), (10, _), (11, _), (12, _)] ⟨rfl, rfl, rfl, rfl, rfl, rfl, rfl, trivial⟩ (fun e => ?_)
    refine c_seq (fun K18 hK18 => ?_)
    refine c_block ?_
    refine c_seq (fun K19 hK19 => ?_)
    refine c_seq (fun K20 hK20 => ?_)
    rcases scan_cases (by omega) hscan with ⟨l1, nl, wn, rfl, had, hne, hst, hrest⟩ | ⟨c, rfl, hl0, hres⟩ | ⟨c, nl, wn, rfl, hne, hst, hrest⟩
    · skip
      refine c_reg ?_ -- region 16 machine.go:172
      refine wl (ro_move rfl) ?_
      refine wl (ro_not rfl) ?_
      refine wl_nil (x_then (hK20 _ _ ?_))
      clear hK20 K20
      refine wc_condT rfl ?_
      refine c_seq (fun K21 hK21 => ?_)
      refine c_piL 8 [(0, false), (1, false), (2, false), (3, false), (4, false), (5, false), (6, false), (7, false)] (SameH _) mixed (by kernel_rfl) rfl (by kernel_rfl) (po_then (po_then (po_blk (po_then (po_then (po_blk (po_then (po_bp)))))))) (sameH_now _ _) ?_ -- region 17 machine.go:173
      refine ql_ro rfl (fun w hS => ro_move rfl) ?_
      refine ql_ro rfl (fun w hS => ro_nilCheck rfl) ?_
      refine ql_ro rfl (fun w hS => ro_fieldAddr (k := 262) rfl fo_108_3) ?_
      refine ql_ro rfl (fun w hS => ro_loadB rfl sc_97 (Blk.of_heap hB hS) (cel_at (by omega) (by omega) hA.rg)) ?_
      refine ql_ro rfl (fun w hS => ro_move rfl) ?_
      refine ql_ro rfl (fun w hS => ro_nilCheck rfl) ?_
      refine ql_ro rfl (fun w hS => ro_fieldAddr (k := 264) rfl fo_108_5) ?_
      refine ql_ro rfl (fun w hS => ro_loadB rfl sc_97 (Blk.of_heap hB hS) (cel_at (by omega) (by omega) hA.nn)) ?_
      refine ql_copy (m := 8) (k := 1) rfl rfl rfl se_97 hR hN (Nat.min_self _) (fun j hj ↦ rfl) (by omega) (by omega) ?_
      intro w3 hR F3
      replace hF := hF.transG F3 (by intro k hk h; simp only [one, two, none', fset, tset, pset] at h ⊢ <;> omega)
      replace hB := F3.blkF hB (by intro h; simp only [one, two, none', fset, tset, pset] at h <;> omega)
      replace hC := F3.blkF hC (by intro h; simp only [one, two, none', fset, tset, pset] at h <;> omega)
      replace hO := F3.blkF hO (by intro h; simp only [one, two, none', fset, tset, pset] at h <;> omega)
      replace hK := F3.blkF hK (by intro h; simp only [one, two, none', fset, tset, pset] at h <;> omega)
      replace hE := F3.blkF hE (by intro h; simp only [one, two, none', fset, tset, pset] at h <;> omega)
      replace hN := F3.blkF hN (by intro h; simp only [one, two, none', fset, tset, pset] at h <;> omega)
      replace hG := F3.blkF hG (by intro h; simp only [one, two, none', fset, tset, pset] at h <;> omega)
      replace hM := F3.blkF hM (by intro h; simp only [one, two, none', fset, tset, pset] at h <;> omega)
      replace hR : FB w3.heap P.rg 8 (rgv (List.replicate 8 (-1))) 3 := by
        show Blk _ _ _ _
        rw [← rgv_none (reg := reg)]
        exact hR
      refine x_then (hK21 _ _ ?_)
      clear hK21 K21
      refine forget [(0, _), (1, _), (2, _), (8, _), (10, _), (11, _), (12, _)] ⟨rfl, rfl, rfl, rfl, rfl, rfl, rfl, trivial⟩ (fun e => ?_)
      refine c_seq (fun K22 hK22 => ?_)
      refine c_reg ?_ -- region 18 machine.go:174
      refine wl (ro_move rfl) ?_
      refine wl (ro_nilCheck rfl) ?_
      refine wl (ro_fieldAddr (k := 262) rfl fo_108_3) ?_
      refine wl (ro_loadB rfl sc_97 (hB) (cel_at (by omega) (by omega) hA.rg)) ?_
      refine wl (ro_move rfl) ?_
      refine wl (ro_indexAddr (et := 3) (k := 1) rfl rfl se_97 ((show (0 : Int) = ((0 : Nat) : Int) from rfl)) ((by omega : 0 < 8))) ?_
      refine wl_put rfl rfl rfl sz_3 hR ((cel_lt (by omega))) (((cel_put 0 (by omega)).trans (congrArg (cel 8) (rgv_set (c := List.replicate 8 (-1)) (v := at0) (by simp)).symm))) (fun w5 hR F5 => ?_)
      replace hF := hF.thenDrew.thenO F5 (by first | exact .inr (by omega) | exact .inl rfl | exact .inl (by assumption))
      replace hB := F5.blkO hB (by omega)
      replace hC := F5.blkO hC (by omega)
      replace hO := F5.blkO hO (by omega)
      replace hK := F5.blkO hK (by omega)
      replace hE := F5.blkO hE (by omega)
      replace hN := F5.blkO hN (by omega)
      replace hG := F5.blkO hG (by omega)
      replace hM := F5.blkO hM (by omega)
      refine wl_nil (x_then (hK22 _ _ ?_))
      clear hK22 K22
      refine c_reg ?_ -- region 19 machine.go:175
      refine wl (ro_move rfl) ?_
      refine wl (ro_move rfl) ?_
      refine wl (ro_move rfl) ?_
      refine wl (ro_lenS rfl st_9) ?_
      refine wl (ro_move rfl) ?_
      refine wl (ro_move rfl) ?_
      refine wl_call rfl en_64 (add64 (pc := 0) ho ⟨hB, hC, hK, hR, hA, hL, hcp, SV.nil _, c0_len _⟩ hi hG hp hppos had (by omega) (by omega) (by omega)) ?_
      rintro _ w4 ⟨rfl, ⟨f4, h4, sf4, z4, hz4, M4, hot4⟩, hG, F4⟩
      replace hO := F4.blkF hO (by intro h; simp only [one, two, none', fset, tset, pset] at h <;> omega)
      replace hE := F4.blkF hE (by intro h; simp only [one, two, none', fset, tset, pset] at h <;> omega)
      replace hN := F4.blkF hN (by intro h; simp only [one, two, none', fset, tset, pset] at h <;> omega)
      replace hM := F4.blkF hM (by intro h; simp only [one, two, none', fset, tset, pset] at h <;> omega)
      replace hF := hF.trans' F4 (fun k _ h ↦ fset_p hi h)
      obtain ⟨hB, hC, hK, hR, hA, hL, hcp, -, hr8⟩ := M4
      have hlp1 := had.in' hp hlp hppos
      have hM5 : MM w4 P i f4 h4 h2 sf4 (c0 at0) best z4 := ⟨hB, hC, hO, hK, hR, hE, hN, hA, hr8, hb8⟩
      have hln : l1.length ≠ 0 := fun e => hne (List.length_eq_zero_iff.1 e)
      refine wl_nil (x_then (hK19 _ _ ?_))
      clear hK19 K19
      refine c_seq (fun K23 hK23 => ?_)
      refine c_seq (fun K24 hK24 => ?_)
      have hz5 : z ≤ 15300 * at0 := hz
      refine c_reg ?_ -- region 20 machine.go:177
      refine wl (ro_move rfl) ?_
      refine wl (ro_move rfl) ?_
      refine wl (ro_nilCheck rfl) ?_
      refine wl (ro_fieldAddr (k := 0) rfl fo_108_0) ?_
      refine wl (ro_indexAddrA (et := 104) (k := 130) rfl rfl ar_105 (rfl) (hi)) ?_
      refine wl (ro_fieldAddr (k := 128) rfl fo_104_2) ?_
      refine wl (ro_loadB rfl sc_3 (hB) (cel_at (by omega) (by omega) hL.n)) ?_
      refine wl (ro_cmp (r := false) rfl rfl (congrArg some ((beqc l1.length 0).trans (decide_eq_false hln)))) ?_
      refine wl_nil (x_then (hK24 _ _ ?_))
      clear hK24 K24
      refine wc_condF rfl ?_
      refine c_skip (x_then (hK23 _ _ ?_))
      clear hK23 K23
      refine forget [(0, _), (1, _), (2, _), (8, _), (10, _), (11, _), (12, _)] ⟨rfl, rfl, rfl, rfl, rfl, rfl, rfl, trivial⟩ (fun e => ?_)
      refine c_seq (fun K25 hK25 => ?_)
      refine c_reg ?_ -- region 21 machine.go:180
      refine wl (ro_move rfl) ?_
      refine wl (ro_move rfl) ?_
      refine wl (ro_move rfl) ?_
      refine wl (ro_move rfl) ?_
      refine wl (ro_move rfl) ?_
      refine wl_call rfl en_65 (step65 ho hM5 hi hL hcp hlp1 hG hp hst (by omega) (by omega) hs) ?_
      rintro _ w6 ⟨rfl, ⟨f6, h6, sf6, reg6, best6, z6, hz6, M6, hL6, hcp6, hlp6, hb6⟩, hG, F6⟩
      replace hN := F6.blkF hN (by intro h; simp only [one, two, none', fset, tset, pset] at h <;> omega)
      replace hM := F6.blkF hM (by intro h; simp only [one, two, none', fset, tset, pset] at h <;> omega)
      replace hF := hF.trans' F6 (fun k _ h ↦ tset_p hi h)
      refine wl (ro_assign rfl) ?_
      refine wl_nil (x_then (hK25 _ _ ?_))
      clear hK25 K25
      refine c_seq (fun K26 hK26 => ?_)
      refine c_seq (fun K27 hK27 => ?_)
      refine c_reg ?_ -- region 22 machine.go:181
      refine wl (ro_move rfl) ?_
      refine wl_nil (x_then (hK27 _ _ ?_))
      clear hK27 K27
      refine wc_cond rfl (fun hc92 => ?_) (fun hc92 => ?_)
      · try simp only [decide_eq_true_eq, decide_eq_false_iff_not, Bool.not_eq_true', Bool.not_eq_false', Bool.not_eq_eq_eq_not, Bool.not_true, Bool.not_false, beq_iff_eq, bne_iff_ne, ne_eq, beq_eq_false_iff_ne, bne_eq_false_iff_eq, gt_iff_lt, ge_iff_le, Int.not_lt, Int.not_le] at hc92
        obtain ⟨c6, rfl⟩ := Option.isSome_iff_exists.1 hc92
        refine c_reg ?_ -- region 23 machine.go:182
        refine wl (ro_assign rfl) ?_
        refine wl_nil (x_then (hK26 _ _ ?_))
        clear hK26 K26
        refine c_reg ?_ -- region 24 machine.go:184
        refine wl (ro_move rfl) ?_
        refine wl (ro_arith (r := ((1 - i : Nat) : Int)) rfl rfl (congrArg some (by omega)) (Go.IntWalk.i64_in _ (by omega))) ?_
        refine wl (ro_assign rfl) ?_
        refine wl_nil (x_blk (x_then (hK18 _ _ ?_)))
        clear hK18 K18
        refine c_reg ?_ -- region 15 machine.go:171
        refine wl (ro_move rfl) ?_
        refine wl (ro_arith rfl rfl rfl (Go.IntWalk.i64_in _ (by omega))) ?_
        refine wl (ro_assign rfl) ?_
        refine wl_nil (x_then ?_)
        refine ⟨s.length + 1 - (at0 + 1), by omega, at0 + 1, 1 - i, nl, _, f6, h6, _, sf6, reg6, best6, z6, rfl, by omega, by omega, by omega, by omega, hrest, ?_, M6, hL6, hcp6, hlp6, hG, ⟨zz, hM, hzz⟩, hF, kp _ ⟨rfl, rfl, rfl, rfl, rfl, rfl, rfl, trivial⟩⟩
        intro c hc
        rw [hc] at hb6
        exact hb6.symm
      · try simp only [decide_eq_true_eq, decide_eq_false_iff_not, Bool.not_eq_true', Bool.not_eq_false', Bool.not_eq_eq_eq_not, Bool.not_true, Bool.not_false, beq_iff_eq, bne_iff_ne, ne_eq, beq_eq_false_iff_ne, bne_eq_false_iff_eq, gt_iff_lt, ge_iff_le, Int.not_lt, Int.not_le] at hc92
        have hwn : wn = none := by
          cases wn with
          | none => rfl
          | some c => cases hc92
        subst hwn
        refine c_skip (x_then (hK26 _ _ ?_))
        clear hK26 K26
        refine c_reg ?_ -- region 24 machine.go:184
        refine wl (ro_move rfl) ?_
        refine wl (ro_arith (r := ((1 - i : Nat) : Int)) rfl rfl (congrArg some (by omega)) (Go.IntWalk.i64_in _ (by omega))) ?_
        refine wl (ro_assign rfl) ?_
        refine wl_nil (x_blk (x_then (hK18 _ _ ?_)))
        clear hK18 K18
        refine c_reg ?_ -- region 15 machine.go:171
        refine wl (ro_move rfl) ?_
        refine wl (ro_arith rfl rfl rfl (Go.IntWalk.i64_in _ (by omega))) ?_
        refine wl (ro_assign rfl) ?_
        refine wl_nil (x_then ?_)
        refine ⟨s.length + 1 - (at0 + 1), by omega, at0 + 1, 1 - i, nl, _, f6, h6, _, sf6, reg6, best6, z6, rfl, by omega, by omega, by omega, by omega, hrest, ?_, M6, hL6, hcp6, hlp6, hG, ⟨zz, hM, hzz⟩, hF, kp _ ⟨rfl, rfl, rfl, rfl, rfl, rfl, rfl, trivial⟩⟩
        intro c hc
        rw [hc] at hb6
        exact hb6.symm
    · skip
      refine c_reg ?_ -- region 16 machine.go:172
      refine wl (ro_move rfl) ?_
      refine wl (ro_not rfl) ?_
      refine wl_nil (x_then (hK20 _ _ ?_))
      clear hK20 K20
      refine wc_condF rfl ?_
      refine c_skip (x_then (hK19 _ _ ?_))
      clear hK19 K19
      refine c_seq (fun K28 hK28 => ?_)
      refine c_seq (fun K29 hK29 => ?_)
      have hz5 : z ≤ 15300 * at0 := hz
      refine c_reg ?_ -- region 20 machine.go:177
      refine wl (ro_move rfl) ?_
      refine wl (ro_move rfl) ?_
      refine wl (ro_nilCheck rfl) ?_
      refine wl (ro_fieldAddr (k := 0) rfl fo_108_0) ?_
      refine wl (ro_indexAddrA (et := 104) (k := 130) rfl rfl ar_105 (rfl) (hi)) ?_
      refine wl (ro_fieldAddr (k := 128) rfl fo_104_2) ?_
      refine wl (ro_loadB rfl sc_3 (hB) (cel_at (by omega) (by omega) hL.n)) ?_
      refine wl (ro_cmp (r := true) rfl rfl (congrArg some ((beqc l.length 0).trans (decide_eq_true (by rw [hl0]; rfl))))) ?_
      refine wl_nil (x_then (hK29 _ _ ?_))
      clear hK29 K29
      refine wc_condT rfl ?_
      refine c_exit (x_thenX (x_blkY rfl (x_thenX (x_thenX (x_blkX (x_then (hK14 _ _ ?_)))))))
      clear hK28 K28 hK18 K18 hK14 K14
      refine c_seq (fun K30 hK30 => ?_)
      refine c_seq (fun K31 hK31 => ?_)
      refine c_reg ?_ -- region 25 machine.go:186
      refine wl (ro_move rfl) ?_
      refine wl (ro_not rfl) ?_
      refine wl_nil (x_then (hK31 _ _ ?_))
      clear hK31 K31
      refine wc_condF rfl ?_
      refine c_skip (x_then (hK30 _ _ ?_))
      clear hK30 K30
      refine forget [(0, _), (8, _)] ⟨rfl, rfl, trivial⟩ (fun e => ?_)
      refine c_seq (fun K32 hK32 => ?_)
      refine c_reg ?_ -- region 27 machine.go:189
      refine wl_new (ze_55) (fun cb w6 hbcb hD F6 => ?_)
      have hbscb := Nat.le_trans hF.size hbcb
      have hneP.pbcb : P.pb < cb := Nat.lt_of_lt_of_le hB.lt hbcb
      have hneP.cicb : P.c i < cb := Nat.lt_of_lt_of_le hC.lt hbcb
      have hneP.c1icb : P.c (1 - i) < cb := Nat.lt_of_lt_of_le hO.lt hbcb
      have hneP.stcb : P.st < cb := Nat.lt_of_lt_of_le hK.lt hbcb
      have hneP.rgcb : P.rg < cb := Nat.lt_of_lt_of_le hR.lt hbcb
      have hneP.bscb : P.bs < cb := Nat.lt_of_lt_of_le hE.lt hbcb
      have hneP.nncb : P.nn < cb := Nat.lt_of_lt_of_le hN.lt hbcb
      have hnegbcb : gb < cb := Nat.lt_of_lt_of_le hG.lt hbcb
      have hnembcb : mb < cb := Nat.lt_of_lt_of_le hM.lt hbcb
      replace hF := hF.thenDrew.thenN F6
      replace hB := F6.blkN hB
      replace hC := F6.blkN hC
      replace hO := F6.blkN hO
      replace hK := F6.blkN hK
      replace hR := F6.blkN hR
      replace hE := F6.blkN hE
      replace hN := F6.blkN hN
      replace hG := F6.blkN hG
      replace hM := F6.blkN hM
      refine wl_nil (x_then (hK32 _ _ ?_))
      clear hK32 K32
      refine c_seq (fun K33 hK33 => ?_)
      refine c_seq (fun K34 hK34 => ?_)
      refine c_reg ?_ -- region 28 machine.go:190
      refine wl (ro_assign rfl) ?_
      refine wl_nil (x_then (hK34 _ _ ?_))
      clear hK34 K34
      refine c_block ?_
      -- loop@r29: live slots [0, 8, 14, 15]
      have hbc := hbest c rfl
      subst hbc
      refine c_loopG (fun m a' w' => ∃ (k : Nat) (g : Nat → Value), m = 8 - k ∧ k ≤ 8 ∧ (∀ j, j < k → g j = rgv best j) ∧ MM w' P i f h h2 sf reg best z ∧ FB w'.heap cb 8 g 55 ∧ PGB w'.heap gb (insL p) ∧ (∃ zz, Blk w'.heap mb zz 57 ∧ zz.length = 11) ∧ Fram (pset P) w w' ∧ ∃ e, a' = Fr 113 (upds e [(0, ptr P.pb), (8, ptr mb), (14, ptr cb), (15, i64c k)]) []) 8 ⟨0, fun _ ↦ icv 0, rfl, by omega, fun j hj ↦ by omega, ⟨hB, hC, hO, hK, hR, hE, hN, hA, hr8, hb8⟩, hD, hG, ⟨zz, hM, hzz⟩, hF, kp _ ⟨rfl, rfl, rfl, rfl, trivial⟩⟩ ?_
      clear hB hC hO hK hR hE hN hG hF hA hD hM
      rintro m a' w9 ⟨k, g, rfl, hk, hg, ⟨hB, hC, hO, hK, hR, hE, hN, hA, -, -⟩, hD, hG, ⟨zz, hM, hzz⟩, hF, e, rfl⟩
      refine c_seq (fun K35 hK35 => ?_)
      refine c_seq (fun K36 hK36 => ?_)
      refine c_reg ?_ -- region 29 machine.go:190
      refine wl (ro_move rfl) ?_
      refine wl (ro_cmp (r := decide (k < 8)) rfl rfl (congrArg some (decide_eq_decide.2 (by omega)))) ?_
      refine wl_nil (x_then (hK36 _ _ ?_))
      clear hK36 K36
      refine wc_cond rfl (fun hc99 => ?_) (fun hc99 => ?_)
      · try simp only [decide_eq_true_eq, decide_eq_false_iff_not, Bool.not_eq_true', Bool.not_eq_false', Bool.not_eq_eq_eq_not, Bool.not_true, Bool.not_false, beq_iff_eq, bne_iff_ne, ne_eq, beq_eq_false_iff_ne, bne_eq_false_iff_eq, gt_iff_lt, ge_iff_le, Int.not_lt, Int.not_le] at hc99
        refine c_skip (x_then (hK35 _ _ ?_))
        clear hK35 K35
        refine forget [(0, _), (8, _), (14, _), (15, _)] ⟨rfl, rfl, rfl, rfl, trivial⟩ (fun e => ?_)
        refine c_seq (fun K37 hK37 => ?_)
        refine c_block ?_
        refine c_reg ?_ -- region 31 machine.go:191
        refine wl (ro_move rfl) ?_
        refine wl (ro_move rfl) ?_
        refine wl (ro_nilCheck rfl) ?_
        refine wl (ro_fieldAddr (k := 263) rfl fo_108_4) ?_
        refine wl (ro_loadB rfl sc_97 (hB) (cel_at (by omega) (by omega) hA.bs)) ?_
        refine wl (ro_move rfl) ?_
        refine wl (ro_indexAddr (et := 3) (k := 1) rfl rfl se_97 (rfl) ((by omega : k < 8))) ?_
        refine wl (ro_loadB rfl sc_3 (hE) (cel_at (by omega) (by omega) (show rgv best k = rgv best k from rfl))) ?_
        refine wl (ro_indexAddrA (et := 3) (k := 1) rfl rfl ar_55 (rfl) ((by omega : k < 8))) ?_
        refine wl_put rfl rfl rfl sz_3 hD ((cel_lt (by omega))) ((cel_put k (by omega))) (fun w7 hD F7 => ?_)
        replace hF := hF.thenDrew.thenO F7 (by first | exact .inr (by omega) | exact .inl rfl | exact .inl (by assumption))
        replace hB := F7.blkO hB (by omega)
        replace hC := F7.blkO hC (by omega)
        replace hO := F7.blkO hO (by omega)
        replace hK := F7.blkO hK (by omega)
        replace hR := F7.blkO hR (by omega)
        replace hE := F7.blkO hE (by omega)
        replace hN := F7.blkO hN (by omega)
        replace hG := F7.blkO hG (by omega)
        replace hM := F7.blkO hM (by omega)
        refine wl_nil (x_blk (x_then (hK37 _ _ ?_)))
        clear hK37 K37
        refine c_reg ?_ -- region 30 machine.go:190
        refine wl (ro_move rfl) ?_
        refine wl (ro_arith rfl rfl rfl (Go.IntWalk.i64_in _ (by omega))) ?_
        refine wl (ro_assign rfl) ?_
        refine wl_nil (x_then ?_)
        refine ⟨8 - (k + 1), by omega, k + 1, _, rfl, by omega, ?_, ⟨hB, hC, hO, hK, hR, hE, hN, hA, hr8, hb8⟩, hD, hG, ⟨zz, hM, hzz⟩, hF, kp _ ⟨rfl, rfl, rfl, rfl, trivial⟩⟩
        intro j hj
        by_cases h : j = k
        · subst h; rw [pt_same]
        · rw [pt_ne h]; exact hg j (by omega)
      · try simp only [decide_eq_true_eq, decide_eq_false_iff_not, Bool.not_eq_true', Bool.not_eq_false', Bool.not_eq_eq_eq_not, Bool.not_true, Bool.not_false, beq_iff_eq, bne_iff_ne, ne_eq, beq_eq_false_iff_ne, bne_eq_false_iff_eq, gt_iff_lt, ge_iff_le, Int.not_lt, Int.not_le] at hc99
        refine c_exit (x_thenX (x_thenX (x_blkX (x_then (hK33 _ _ ?_)))))
        clear hK35 K35 hK33 K33
        refine forget [(8, _), (14, _)] ⟨rfl, rfl, trivial⟩ (fun e => ?_)
        refine c_seq (fun K38 hK38 => ?_)
        replace hD : Blk w9.heap cb (capc best) 55 := by
          have e8 : cel 8 g = capc best := cel_congr (fun j hj => hg j (by omega))
          rw [← e8]
          exact hD
        refine c_reg ?_ -- region 32 machine.go:193
        refine wl (ro_loadAggB rfl ag_55 (hD) (rfl) (rfl)) ?_
        refine wl (ro_build rfl bld_57_2_3) ?_
        refine wl_puta rfl rfl ((fdc_cells 0 0 true best)) sz_57 (rfl) hM ((by omega)) ((seg_all hzz)) (fun w8 hM F8 => ?_)
        replace hF := hF.thenDrew.thenO F8 (by first | exact .inr (by omega) | exact .inl rfl | exact .inl (by assumption))
        replace hB := F8.blkO hB (by omega)
        replace hC := F8.blkO hC (by omega)
        replace hO := F8.blkO hO (by omega)
        replace hK := F8.blkO hK (by omega)
        replace hR := F8.blkO hR (by omega)
        replace hE := F8.blkO hE (by omega)
        replace hN := F8.blkO hN (by omega)
        replace hG := F8.blkO hG (by omega)
        replace hD := F8.blkO hD (by omega)
        refine wl_nil (x_then (hK38 _ _ ?_))
        clear hK38 K38
        refine c_ret ?_
        refine bq_ret (res1 Tryz.results51 (rv_c rfl ag_57 (hM) rfl)) ?_
        rw [hres]; exact ⟨rfl, MM.pkv hi ⟨hB, hC, hO, hK, hR, hE, hN, hA, hr8, hb8⟩, hG, hF⟩
    · skip
      refine c_reg ?_ -- region 16 machine.go:172
      refine wl (ro_move rfl) ?_
      refine wl (ro_not rfl) ?_
      refine wl_nil (x_then (hK20 _ _ ?_))
      clear hK20 K20
      refine wc_condF rfl ?_
      refine c_skip (x_then (hK19 _ _ ?_))
      clear hK19 K19
      refine c_seq (fun K39 hK39 => ?_)
      refine c_seq (fun K40 hK40 => ?_)
      have hz5 : z ≤ 15300 * at0 := hz
      refine c_reg ?_ -- region 20 machine.go:177
      refine wl (ro_move rfl) ?_
      refine wl (ro_move rfl) ?_
      refine wl (ro_nilCheck rfl) ?_
      refine wl (ro_fieldAddr (k := 0) rfl fo_108_0) ?_
      refine wl (ro_indexAddrA (et := 104) (k := 130) rfl rfl ar_105 (rfl) (hi)) ?_
      refine wl (ro_fieldAddr (k := 128) rfl fo_104_2) ?_
      refine wl (ro_loadB rfl sc_3 (hB) (cel_at (by omega) (by omega) hL.n)) ?_
      refine wl (ro_cmp (r := false) rfl rfl (congrArg some ((beqc l.length 0).trans (decide_eq_false (fun e ↦ hne (List.length_eq_zero_iff.1 e)))))) ?_
      refine wl_nil (x_then (hK40 _ _ ?_))
      clear hK40 K40
      refine wc_condF rfl ?_
      refine c_skip (x_then (hK39 _ _ ?_))
      clear hK39 K39
      refine forget [(0, _), (1, _), (2, _), (8, _), (10, _), (11, _), (12, _)] ⟨rfl, rfl, rfl, rfl, rfl, rfl, rfl, trivial⟩ (fun e => ?_)
      refine c_seq (fun K41 hK41 => ?_)
      refine c_reg ?_ -- region 21 machine.go:180
      refine wl (ro_move rfl) ?_
      refine wl (ro_move rfl) ?_
      refine wl (ro_move rfl) ?_
      refine wl (ro_move rfl) ?_
      refine wl (ro_move rfl) ?_
      refine wl_call rfl en_65 (step65 ho ⟨hB, hC, hO, hK, hR, hE, hN, hA, hr8, hb8⟩ hi hL hcp hlp hG hp hst (by omega) (by omega) hs) ?_
      rintro _ w6 ⟨rfl, ⟨f6, h6, sf6, reg6, best6, z6, hz6, M6, hL6, hcp6, hlp6, hb6⟩, hG, F6⟩
      replace hN := F6.blkF hN (by intro h; simp only [one, two, none', fset, tset, pset] at h <;> omega)
      replace hM := F6.blkF hM (by intro h; simp only [one, two, none', fset, tset, pset] at h <;> omega)
      replace hF := hF.trans' F6 (fun k _ h ↦ tset_p hi h)
      refine wl (ro_assign rfl) ?_
      refine wl_nil (x_then (hK41 _ _ ?_))
      clear hK41 K41
      refine c_seq (fun K42 hK42 => ?_)
      refine c_seq (fun K43 hK43 => ?_)
      refine c_reg ?_ -- region 22 machine.go:181
      refine wl (ro_move rfl) ?_
      refine wl_nil (x_then (hK43 _ _ ?_))
      clear hK43 K43
      refine wc_cond rfl (fun hc92 => ?_) (fun hc92 => ?_)
      · try simp only [decide_eq_true_eq, decide_eq_false_iff_not, Bool.not_eq_true', Bool.not_eq_false', Bool.not_eq_eq_eq_not, Bool.not_true, Bool.not_false, beq_iff_eq, bne_iff_ne, ne_eq, beq_eq_false_iff_ne, bne_eq_false_iff_eq, gt_iff_lt, ge_iff_le, Int.not_lt, Int.not_le] at hc92
        obtain ⟨c6, rfl⟩ := Option.isSome_iff_exists.1 hc92
        refine c_reg ?_ -- region 23 machine.go:182
        refine wl (ro_assign rfl) ?_
        refine wl_nil (x_then (hK42 _ _ ?_))
        clear hK42 K42
        refine c_reg ?_ -- region 24 machine.go:184
        refine wl (ro_move rfl) ?_
        refine wl (ro_arith (r := ((1 - i : Nat) : Int)) rfl rfl (congrArg some (by omega)) (Go.IntWalk.i64_in _ (by omega))) ?_
        refine wl (ro_assign rfl) ?_
        refine wl_nil (x_blk (x_then (hK18 _ _ ?_)))
        clear hK18 K18
        refine c_reg ?_ -- region 15 machine.go:171
        refine wl (ro_move rfl) ?_
        refine wl (ro_arith rfl rfl rfl (Go.IntWalk.i64_in _ (by omega))) ?_
        refine wl (ro_assign rfl) ?_
        refine wl_nil (x_then ?_)
        refine ⟨s.length + 1 - (at0 + 1), by omega, at0 + 1, 1 - i, nl, _, f6, h6, _, sf6, reg6, best6, z6, rfl, by omega, by omega, by omega, by omega, hrest, ?_, M6, hL6, hcp6, hlp6, hG, ⟨zz, hM, hzz⟩, hF, kp _ ⟨rfl, rfl, rfl, rfl, rfl, rfl, rfl, trivial⟩⟩
        intro c' hc'
        first
          | (cases hc'; exact hb6.symm)
          | (cases hc'; rw [← hb6]; exact hbest _ rfl)
      · try simp only [decide_eq_true_eq, decide_eq_false_iff_not, Bool.not_eq_true', Bool.not_eq_false', Bool.not_eq_eq_eq_not, Bool.not_true, Bool.not_false, beq_iff_eq, bne_iff_ne, ne_eq, beq_eq_false_iff_ne, bne_eq_false_iff_eq, gt_iff_lt, ge_iff_le, Int.not_lt, Int.not_le] at hc92
        have hwn : wn = none := by
          cases wn with
          | none => rfl
          | some c => cases hc92
        subst hwn
        refine c_skip (x_then (hK42 _ _ ?_))
        clear hK42 K42
        refine c_reg ?_ -- region 24 machine.go:184
        refine wl (ro_move rfl) ?_
        refine wl (ro_arith (r := ((1 - i : Nat) : Int)) rfl rfl (congrArg some (by omega)) (Go.IntWalk.i64_in _ (by omega))) ?_
        refine wl (ro_assign rfl) ?_
        refine wl_nil (x_blk (x_then (hK18 _ _ ?_)))
        clear hK18 K18
        refine c_reg ?_ -- region 15 machine.go:171
        refine wl (ro_move rfl) ?_
        refine wl (ro_arith rfl rfl rfl (Go.IntWalk.i64_in _ (by omega))) ?_
        refine wl (ro_assign rfl) ?_
        refine wl_nil (x_then ?_)
        refine ⟨s.length + 1 - (at0 + 1), by omega, at0 + 1, 1 - i, nl, _, f6, h6, _, sf6, reg6, best6, z6, rfl, by omega, by omega, by omega, by omega, hrest, ?_, M6, hL6, hcp6, hlp6, hG, ⟨zz, hM, hzz⟩, hF, kp _ ⟨rfl, rfl, rfl, rfl, rfl, rfl, rfl, trivial⟩⟩
        intro c' hc'
        first
          | (cases hc'; exact hb6.symm)
          | (cases hc'; rw [← hb6]; exact hbest _ rfl)
  · try simp only [decide_eq_true_eq, decide_eq_false_iff_not, Bool.not_eq_true', Bool.not_eq_false', Bool.not_eq_eq_eq_not, Bool.not_true, Bool.not_false, beq_iff_eq, bne_iff_ne, ne_eq, beq_eq_false_iff_ne, bne_eq_false_iff_eq, gt_iff_lt, ge_iff_le, Int.not_lt, Int.not_le] at hc51
    have hres : res = hit := by
      rw [show s.length + 1 - at0 = 0 by omega] at hscan
      exact hscan
    refine c_exit (x_thenX (x_thenX (x_blkX (x_then (hK14 _ _ ?_)))))
    clear hK16 K16 hK14 K14
    refine c_seq (fun K44 hK44 => ?_)
    refine c_seq (fun K45 hK45 => ?_)
    refine c_reg ?_ -- region 25 machine.go:186
    refine wl (ro_move rfl) ?_
    refine wl (ro_not rfl) ?_
    refine wl_nil (x_then (hK45 _ _ ?_))
    clear hK45 K45
    refine wc_cond rfl (fun hc96 => ?_) (fun hc96 => ?_)
    · try simp only [decide_eq_true_eq, decide_eq_false_iff_not, Bool.not_eq_true', Bool.not_eq_false', Bool.not_eq_eq_eq_not, Bool.not_true, Bool.not_false, beq_iff_eq, bne_iff_ne, ne_eq, beq_eq_false_iff_ne, bne_eq_false_iff_eq, gt_iff_lt, ge_iff_le, Int.not_lt, Int.not_le] at hc96
      have hno : hit = none := by
        cases hit with
        | none => rfl
        | some c => cases hc96
      subst hno
      refine c_seq (fun K46 hK46 => ?_)
      refine c_reg ?_ -- region 26 machine.go:187
      refine wl_call rfl en_50 (Nothing50) ?_
      rintro _ w9 ⟨rfl, F9⟩
      replace hF := hF.thenDrew.thenN F9
      replace hB := F9.blkN hB
      replace hC := F9.blkN hC
      replace hO := F9.blkN hO
      replace hK := F9.blkN hK
      replace hR := F9.blkN hR
      replace hE := F9.blkN hE
      replace hN := F9.blkN hN
      replace hG := F9.blkN hG
      replace hM := F9.blkN hM
      refine wl_puta rfl rfl ((fdc_cells 0 0 false nocaps)) sz_57 (rfl) hM ((by omega)) ((seg_all hzz)) (fun w10 hM F10 => ?_)
      replace hF := hF.thenDrew.thenO F10 (by first | exact .inr (by omega) | exact .inl rfl | exact .inl (by assumption))
      replace hB := F10.blkO hB (by omega)
      replace hC := F10.blkO hC (by omega)
      replace hO := F10.blkO hO (by omega)
      replace hK := F10.blkO hK (by omega)
      replace hR := F10.blkO hR (by omega)
      replace hE := F10.blkO hE (by omega)
      replace hN := F10.blkO hN (by omega)
      replace hG := F10.blkO hG (by omega)
      refine wl_nil (x_then (hK46 _ _ ?_))
      clear hK46 K46
      refine c_ret (x_thenR ?_)
      refine bq_ret (res1 Tryz.results51 (rv_c rfl ag_57 (hM) rfl)) ?_
      rw [hres]; exact ⟨rfl, MM.pkv hi ⟨hB, hC, hO, hK, hR, hE, hN, hA, hr8, hb8⟩, hG, hF⟩
    · try simp only [decide_eq_true_eq, decide_eq_false_iff_not, Bool.not_eq_true', Bool.not_eq_false', Bool.not_eq_eq_eq_not, Bool.not_true, Bool.not_false, beq_iff_eq, bne_iff_ne, ne_eq, beq_eq_false_iff_ne, bne_eq_false_iff_eq, gt_iff_lt, ge_iff_le, Int.not_lt, Int.not_le] at hc96
      obtain ⟨c, rfl⟩ : ∃ c, hit = some c := by
        cases hit with
        | none => cases hc96
        | some c => exact ⟨c, rfl⟩
      refine c_skip (x_then (hK44 _ _ ?_))
      clear hK44 K44
      refine forget [(0, _), (8, _)] ⟨rfl, rfl, trivial⟩ (fun e => ?_)
      refine c_seq (fun K47 hK47 => ?_)
      refine c_reg ?_ -- region 27 machine.go:189
      refine wl_new (ze_55) (fun cb w11 hbcb hD F11 => ?_)
      have hbscb := Nat.le_trans hF.size hbcb
      have hneP.pbcb : P.pb < cb := Nat.lt_of_lt_of_le hB.lt hbcb
      have hneP.cicb : P.c i < cb := Nat.lt_of_lt_of_le hC.lt hbcb
      have hneP.c1icb : P.c (1 - i) < cb := Nat.lt_of_lt_of_le hO.lt hbcb
      have hneP.stcb : P.st < cb := Nat.lt_of_lt_of_le hK.lt hbcb
      have hneP.rgcb : P.rg < cb := Nat.lt_of_lt_of_le hR.lt hbcb
      have hneP.bscb : P.bs < cb := Nat.lt_of_lt_of_le hE.lt hbcb
      have hneP.nncb : P.nn < cb := Nat.lt_of_lt_of_le hN.lt hbcb
      have hnegbcb : gb < cb := Nat.lt_of_lt_of_le hG.lt hbcb
      have hnembcb : mb < cb := Nat.lt_of_lt_of_le hM.lt hbcb
      replace hF := hF.thenDrew.thenN F11
      replace hB := F11.blkN hB
      replace hC := F11.blkN hC
      replace hO := F11.blkN hO
      replace hK := F11.blkN hK
      replace hR := F11.blkN hR
      replace hE := F11.blkN hE
      replace hN := F11.blkN hN
      replace hG := F11.blkN hG
      replace hM := F11.blkN hM
      refine wl_nil (x_then (hK47 _ _ ?_))
      clear hK47 K47
      refine c_seq (fun K48 hK48 => ?_)
      refine c_seq (fun K49 hK49 => ?_)
      refine c_reg ?_ -- region 28 machine.go:190
      refine wl (ro_assign rfl) ?_
      refine wl_nil (x_then (hK49 _ _ ?_))
      clear hK49 K49
      refine c_block ?_
      -- loop@r29: live slots [0, 8, 14, 15]
      have hbc := hbest c rfl
      subst hbc
      refine c_loopG (fun m a' w' => ∃ (k : Nat) (g : Nat → Value), m = 8 - k ∧ k ≤ 8 ∧ (∀ j, j < k → g j = rgv best j) ∧ MM w' P i f h h2 sf reg best z ∧ FB w'.heap cb 8 g 55 ∧ PGB w'.heap gb (insL p) ∧ (∃ zz, Blk w'.heap mb zz 57 ∧ zz.length = 11) ∧ Fram (pset P) w w' ∧ ∃ e, a' = Fr 113 (upds e [(0, ptr P.pb), (8, ptr mb), (14, ptr cb), (15, i64c k)]) []) 8 ⟨0, fun _ ↦ icv 0, rfl, by omega, fun j hj ↦ by omega, ⟨hB, hC, hO, hK, hR, hE, hN, hA, hr8, hb8⟩, hD, hG, ⟨zz, hM, hzz⟩, hF, kp _ ⟨rfl, rfl, rfl, rfl, trivial⟩⟩ ?_
      clear hB hC hO hK hR hE hN hG hF hA hD hM
      rintro m a' w9 ⟨k, g, rfl, hk, hg, ⟨hB, hC, hO, hK, hR, hE, hN, hA, -, -⟩, hD, hG, ⟨zz, hM, hzz⟩, hF, e, rfl⟩
      refine c_seq (fun K50 hK50 => ?_)
      refine c_seq (fun K51 hK51 => ?_)
      refine c_reg ?_ -- region 29 machine.go:190
      refine wl (ro_move rfl) ?_
      refine wl (ro_cmp (r := decide (k < 8)) rfl rfl (congrArg some (decide_eq_decide.2 (by omega)))) ?_
      refine wl_nil (x_then (hK51 _ _ ?_))
      clear hK51 K51
      refine wc_cond rfl (fun hc99 => ?_) (fun hc99 => ?_)
      · try simp only [decide_eq_true_eq, decide_eq_false_iff_not, Bool.not_eq_true', Bool.not_eq_false', Bool.not_eq_eq_eq_not, Bool.not_true, Bool.not_false, beq_iff_eq, bne_iff_ne, ne_eq, beq_eq_false_iff_ne, bne_eq_false_iff_eq, gt_iff_lt, ge_iff_le, Int.not_lt, Int.not_le] at hc99
        refine c_skip (x_then (hK50 _ _ ?_))
        clear hK50 K50
        refine forget [(0, _), (8, _), (14, _), (15, _)] ⟨rfl, rfl, rfl, rfl, trivial⟩ (fun e => ?_)
        refine c_seq (fun K52 hK52 => ?_)
        refine c_block ?_
        refine c_reg ?_ -- region 31 machine.go:191
        refine wl (ro_move rfl) ?_
        refine wl (ro_move rfl) ?_
        refine wl (ro_nilCheck rfl) ?_
        refine wl (ro_fieldAddr (k := 263) rfl fo_108_4) ?_
        refine wl (ro_loadB rfl sc_97 (hB) (cel_at (by omega) (by omega) hA.bs)) ?_
        refine wl (ro_move rfl) ?_
        refine wl (ro_indexAddr (et := 3) (k := 1) rfl rfl se_97 (rfl) ((by omega : k < 8))) ?_
        refine wl (ro_loadB rfl sc_3 (hE) (cel_at (by omega) (by omega) (show rgv best k = rgv best k from rfl))) ?_
        refine wl (ro_indexAddrA (et := 3) (k := 1) rfl rfl ar_55 (rfl) ((by omega : k < 8))) ?_
        refine wl_put rfl rfl rfl sz_3 hD ((cel_lt (by omega))) ((cel_put k (by omega))) (fun w12 hD F12 => ?_)
        replace hF := hF.thenDrew.thenO F12 (by first | exact .inr (by omega) | exact .inl rfl | exact .inl (by assumption))
        replace hB := F12.blkO hB (by omega)
        replace hC := F12.blkO hC (by omega)
        replace hO := F12.blkO hO (by omega)
        replace hK := F12.blkO hK (by omega)
        replace hR := F12.blkO hR (by omega)
        replace hE := F12.blkO hE (by omega)
        replace hN := F12.blkO hN (by omega)
        replace hG := F12.blkO hG (by omega)
        replace hM := F12.blkO hM (by omega)
        refine wl_nil (x_blk (x_then (hK52 _ _ ?_)))
        clear hK52 K52
        refine c_reg ?_ -- region 30 machine.go:190
        refine wl (ro_move rfl) ?_
        refine wl (ro_arith rfl rfl rfl (Go.IntWalk.i64_in _ (by omega))) ?_
        refine wl (ro_assign rfl) ?_
        refine wl_nil (x_then ?_)
        refine ⟨8 - (k + 1), by omega, k + 1, _, rfl, by omega, ?_, ⟨hB, hC, hO, hK, hR, hE, hN, hA, hr8, hb8⟩, hD, hG, ⟨zz, hM, hzz⟩, hF, kp _ ⟨rfl, rfl, rfl, rfl, trivial⟩⟩
        intro j hj
        by_cases h : j = k
        · subst h; rw [pt_same]
        · rw [pt_ne h]; exact hg j (by omega)
      · try simp only [decide_eq_true_eq, decide_eq_false_iff_not, Bool.not_eq_true', Bool.not_eq_false', Bool.not_eq_eq_eq_not, Bool.not_true, Bool.not_false, beq_iff_eq, bne_iff_ne, ne_eq, beq_eq_false_iff_ne, bne_eq_false_iff_eq, gt_iff_lt, ge_iff_le, Int.not_lt, Int.not_le] at hc99
        refine c_exit (x_thenX (x_thenX (x_blkX (x_then (hK48 _ _ ?_)))))
        clear hK50 K50 hK48 K48
        refine forget [(8, _), (14, _)] ⟨rfl, rfl, trivial⟩ (fun e => ?_)
        refine c_seq (fun K53 hK53 => ?_)
        replace hD : Blk w9.heap cb (capc best) 55 := by
          have e8 : cel 8 g = capc best := cel_congr (fun j hj => hg j (by omega))
          rw [← e8]
          exact hD
        refine c_reg ?_ -- region 32 machine.go:193
        refine wl (ro_loadAggB rfl ag_55 (hD) (rfl) (rfl)) ?_
        refine wl (ro_build rfl bld_57_2_3) ?_
        refine wl_puta rfl rfl ((fdc_cells 0 0 true best)) sz_57 (rfl) hM ((by omega)) ((seg_all hzz)) (fun w13 hM F13 => ?_)
        replace hF := hF.thenDrew.thenO F13 (by first | exact .inr (by omega) | exact .inl rfl | exact .inl (by assumption))
        replace hB := F13.blkO hB (by omega)
        replace hC := F13.blkO hC (by omega)
        replace hO := F13.blkO hO (by omega)
        replace hK := F13.blkO hK (by omega)
        replace hR := F13.blkO hR (by omega)
        replace hE := F13.blkO hE (by omega)
        replace hN := F13.blkO hN (by omega)
        replace hG := F13.blkO hG (by omega)
        replace hD := F13.blkO hD (by omega)
        refine wl_nil (x_then (hK53 _ _ ?_))
        clear hK53 K53
        refine c_ret ?_
        refine bq_ret (res1 Tryz.results51 (rv_c rfl ag_57 (hM) rfl)) ?_
        rw [hres]; exact ⟨rfl, MM.pkv hi ⟨hB, hC, hO, hK, hR, hE, hN, hA, hr8, hb8⟩, hG, hF⟩

end Go.Proofs.Qxb6500567aGreat
