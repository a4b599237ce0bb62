import Derived.Test.Qxb6500567aGreatNb
/- The law: FindAll, Split, side by side. -/
namespace Go.Proofs.Qxb6500567aGreat
set_option linter.unusedVariables false
set_option linter.unusedSimpArgs false

/-- What was handed out: a list made for it alone. -/
def FaQ (w w' : World) (p s : List UInt8) (V : Value) : Prop := match engT p s with
  | .error _ => V = .slice none 0 0
  | .ok r => (scanAll s r 0).length ≤ 257 ∧ ∃ ob, V = sl ob (scanAll s r 0).length ∧ w.heap.size ≤ ob ∧ Blk w'.heap ob (rws capc (scanAll s r 0)) 55
def SpQ (w w' : World) (p s : List UInt8) (V : Value) : Prop := match engT p s with
  | .error _ => V = .slice none 0 0
  | .ok r => (splF s (scanAll s r 0) 0).length ≤ 258 ∧ ∃ ob, V = sl ob (splF s (scanAll s r 0) 0).length ∧ w.heap.size ≤ ob ∧ Blk w'.heap ob (rws (fun t => [S t]) (splF s (scanAll s r 0) 0)) 9

set_option maxHeartbeats 1000000 in
theorem foundAll8 {w : World} {F : FK} {cn gb n : Nat} {E : MB} {p s : List UInt8} (V : Pr w F cn gb E n) (hcn : cn ≤ 40000000000000000) (hn : n < 90000000000000) (hpm : p.length ≤ 9223372036854775807) (hsm : s.length ≤ 9223372036854775807) :
    Ret Tryz.prog 8 [ptr F.fb, ptr gb, S p, S s] w (fun v w' => (∃ V1, v = .tuple #[V1, .bool true] ∧ FaQ w w' p s V1) ∧ Pr w' F (cn + 300000) gb E (n + 600) ∧ Fram (bset2 F E) w w') := by
  have hF : Fram (bset2 F E) w w := Fram.refl _ _
  have hmlt := V.m.eng.lt
  refine ret_of Tryz.func8 rfl Tryz.ntmps8 rfl ?_
  refine c_seq (fun K1 hK1 => ?_)
  refine c_reg ?_ -- region 0 law.go:93
  refine wl (ro_assign rfl) ?_
  refine wl (ro_assign rfl) ?_
  refine wl_nil (x_then (hK1 _ _ ?_))
  clear hK1 K1
  refine forget [(0, _), (1, _), (2, _), (3, _)] ⟨rfl, rfl, rfl, rfl, trivial⟩ (fun e => ?_)
  refine c_seq (fun K2 hK2 => ?_)
  rcases hE : engT p s with er | r
  · skip
    have hne := engT_er hE
    refine c_reg ?_ -- region 1 law.go:94
    refine wl (ro_move rfl) ?_
    refine wl (ro_move rfl) ?_
    refine wl (ro_move rfl) ?_
    refine wl_call rfl en_23 (FindAll23 (p := p) (s := s) V.ho V.x (by omega) hpm hsm) ?_
    rintro _ w1 ⟨⟨V1, e1, q1, rfl, h1⟩, X1, F1⟩
    replace V := V.byX (d := World.drawn _) F1 X1
    replace hF := hF.trans' F1 (fun k _ h ↦ .inl h)
    have hs1 := F1.size
    rw [hE] at h1
    first
      | (obtain ⟨rfl, rfl, rfl⟩ : V1 = .slice none 0 0 ∧ e1 = er.1 ∧ q1 = er.2 := h1)
      | (obtain ⟨rfl, rfl, ob, rfl, hob, hG⟩ := h1)
    refine wl (ro_move rfl) ?_
    refine wl (ro_extract rfl rfl) ?_
    refine wl (ro_extract rfl rfl) ?_
    refine wl (ro_extract rfl rfl) ?_
    refine wl (ro_assign rfl) ?_
    refine wl (ro_assign rfl) ?_
    refine wl (ro_assign rfl) ?_
    refine wl_nil (x_then (hK2 _ _ ?_))
    clear hK2 K2
    refine forget [(1, _), (2, _), (3, _), (10, _), (11, _), (12, _)] ⟨rfl, rfl, rfl, rfl, rfl, rfl, trivial⟩ (fun e => ?_)
    refine c_seq (fun K3 hK3 => ?_)
    refine c_reg ?_ -- region 2 law.go:95
    refine wl (ro_move rfl) ?_
    refine wl (ro_move rfl) ?_
    refine wl (ro_move rfl) ?_
    refine wl_call rfl en_24 (FindAll24 (p := p) (s := s) V.m (by omega) hpm hsm) ?_
    rintro _ w2 ⟨⟨V2, e2, q2, rfl, h2⟩, X2, F2⟩
    replace V := V.byM (d := World.drawn _) F2 X2
    replace hF := hF.trans' F2 (fun k _ h ↦ .inr h)
    rw [hE] at h2
    obtain ⟨rfl, rfl, rfl⟩ : V2 = .slice none 0 0 ∧ e2 = er.1 ∧ q2 = er.2 := h2
    refine wl (ro_move rfl) ?_
    refine wl (ro_extract rfl rfl) ?_
    refine wl (ro_extract rfl rfl) ?_
    refine wl (ro_extract rfl rfl) ?_
    refine wl (ro_assign rfl) ?_
    refine wl (ro_assign rfl) ?_
    refine wl (ro_assign rfl) ?_
    refine wl_nil (x_then (hK3 _ _ ?_))
    clear hK3 K3
    refine c_seq (fun K4 hK4 => ?_)
    refine c_seq (fun K5 hK5 => ?_)
    refine c_reg ?_ -- region 3 law.go:96
    refine wl (ro_move rfl) ?_
    refine wl (ro_cmp (r := true) rfl rfl (congrArg some ((bnec er.1 0).trans (decide_eq_true hne)))) ?_
    refine wl (ro_move rfl) ?_
    refine wlg_yes rfl (ro_move rfl) ?_
    refine wlg_yes rfl (ro_sliceNil (r := false) rfl rfl se_27 rfl) ?_
    refine wl (ro_pick rfl rfl rfl) ?_
    refine wl_nil (x_then (hK5 _ _ ?_))
    clear hK5 K5
    refine wc_condF rfl ?_
    refine c_skip (x_then (hK4 _ _ ?_))
    clear hK4 K4
    refine forget [(10, _), (11, _), (12, _), (13, _), (14, _), (15, _)] ⟨rfl, rfl, rfl, rfl, rfl, rfl, trivial⟩ (fun e => ?_)
    refine c_seq (fun K6 hK6 => ?_)
    refine c_reg ?_ -- region 5 law.go:99
    refine wl (ro_move rfl) ?_
    refine wl (ro_move rfl) ?_
    refine wl (ro_move rfl) ?_
    refine wl (ro_cmp (r := true) rfl rfl (congrArg some (by simp))) ?_
    refine wl (ro_move rfl) ?_
    refine wlg_yes rfl (ro_move rfl) ?_
    refine wlg_yes rfl (ro_move rfl) ?_
    refine wlg_yes rfl (ro_cmp (r := true) rfl rfl (congrArg some (by simp))) ?_
    refine wl (ro_pick rfl rfl rfl) ?_
    refine wl (ro_move rfl) ?_
    refine wlg_yes rfl (ro_move rfl) ?_
    refine wlg_yes rfl (ro_move rfl) ?_
    refine wlg_call rfl rfl en_25 (sameAll25 (L := []) (RWV.nil _ _ _ _ 0 0) (RWV.nil _ _ _ _ 0 0) (by simp)) ?_
    rintro _ w3 ⟨rfl, F3⟩
    replace V := V.framN (d := World.drawn _) F3
    replace hF := hF.trans' F3 (fun k _ h ↦ h.elim)
    refine wl (ro_pick rfl rfl rfl) ?_
    refine wl (ro_assign rfl) ?_
    refine wl (ro_assign rfl) ?_
    refine wl_nil (x_then (hK6 _ _ ?_))
    clear hK6 K6
    refine c_ret ?_
    refine bp_ret Tryz.results8 rfl ?_
    exact ⟨⟨_, rfl, by unfold FaQ; rw [hE]; rfl⟩, V, hF⟩
  · skip
    obtain ⟨hw, -, -, hsl, -⟩ := engT_ok hE
    have hln := chain_len _ 0 (scanAll_chain (s := s) hw 0) (by omega)
    refine c_reg ?_ -- region 1 law.go:94
    refine wl (ro_move rfl) ?_
    refine wl (ro_move rfl) ?_
    refine wl (ro_move rfl) ?_
    refine wl_call rfl en_23 (FindAll23 (p := p) (s := s) V.ho V.x (by omega) hpm hsm) ?_
    rintro _ w1 ⟨⟨V1, e1, q1, rfl, h1⟩, X1, F1⟩
    replace V := V.byX (d := World.drawn _) F1 X1
    replace hF := hF.trans' F1 (fun k _ h ↦ .inl h)
    have hs1 := F1.size
    rw [hE] at h1
    first
      | (obtain ⟨rfl, rfl, rfl⟩ : V1 = .slice none 0 0 ∧ e1 = er.1 ∧ q1 = er.2 := h1)
      | (obtain ⟨rfl, rfl, ob, rfl, hob, hG⟩ := h1)
    refine wl (ro_move rfl) ?_
    refine wl (ro_extract rfl rfl) ?_
    refine wl (ro_extract rfl rfl) ?_
    refine wl (ro_extract rfl rfl) ?_
    refine wl (ro_assign rfl) ?_
    refine wl (ro_assign rfl) ?_
    refine wl (ro_assign rfl) ?_
    refine wl_nil (x_then (hK2 _ _ ?_))
    clear hK2 K2
    refine forget [(1, _), (2, _), (3, _), (10, _), (11, _), (12, _)] ⟨rfl, rfl, rfl, rfl, rfl, rfl, trivial⟩ (fun e => ?_)
    refine c_seq (fun K7 hK7 => ?_)
    refine c_reg ?_ -- region 2 law.go:95
    refine wl (ro_move rfl) ?_
    refine wl (ro_move rfl) ?_
    refine wl (ro_move rfl) ?_
    refine wl_call rfl en_24 (FindAll24 (p := p) (s := s) V.m (by omega) hpm hsm) ?_
    rintro _ w2 ⟨⟨V2, e2, q2, rfl, h2⟩, X2, F2⟩
    replace hG := F2.blkF hG (fun h5 => by have := hmlt ob h5; omega)
    replace V := V.byM (d := World.drawn _) F2 X2
    replace hF := hF.trans' F2 (fun k _ h ↦ .inr h)
    have hs2 := F2.size
    rw [hE] at h2
    obtain ⟨rfl, rfl, h2⟩ := h2
    obtain ⟨a2, c2, rfl⟩ := own_form h2.own
    refine wl (ro_move rfl) ?_
    refine wl (ro_extract rfl rfl) ?_
    refine wl (ro_extract rfl rfl) ?_
    refine wl (ro_extract rfl rfl) ?_
    refine wl (ro_assign rfl) ?_
    refine wl (ro_assign rfl) ?_
    refine wl (ro_assign rfl) ?_
    refine wl_nil (x_then (hK7 _ _ ?_))
    clear hK7 K7
    refine c_seq (fun K8 hK8 => ?_)
    refine c_seq (fun K9 hK9 => ?_)
    refine c_reg ?_ -- region 3 law.go:96
    refine wl (ro_move rfl) ?_
    refine wl (ro_cmp (r := false) rfl rfl rfl) ?_
    refine wl (ro_move rfl) ?_
    refine wlg_no rfl ?_
    refine wlg_no rfl ?_
    refine wl (ro_pick rfl rfl rfl) ?_
    refine wl_nil (x_then (hK9 _ _ ?_))
    clear hK9 K9
    refine wc_condF rfl ?_
    refine c_skip (x_then (hK8 _ _ ?_))
    clear hK8 K8
    refine forget [(10, _), (11, _), (12, _), (13, _), (14, _), (15, _)] ⟨rfl, rfl, rfl, rfl, rfl, rfl, trivial⟩ (fun e => ?_)
    refine c_seq (fun K10 hK10 => ?_)
    refine c_reg ?_ -- region 5 law.go:99
    refine wl (ro_move rfl) ?_
    refine wl (ro_move rfl) ?_
    refine wl (ro_move rfl) ?_
    refine wl (ro_cmp (r := true) rfl rfl (congrArg some (by simp))) ?_
    refine wl (ro_move rfl) ?_
    refine wlg_yes rfl (ro_move rfl) ?_
    refine wlg_yes rfl (ro_move rfl) ?_
    refine wlg_yes rfl (ro_cmp (r := true) rfl rfl (congrArg some (by simp))) ?_
    refine wl (ro_pick rfl rfl rfl) ?_
    refine wl (ro_move rfl) ?_
    refine wlg_yes rfl (ro_move rfl) ?_
    refine wlg_yes rfl (ro_move rfl) ?_
    refine wlg_call rfl rfl en_25 (sameAll25 (CL.made hG (by omega) hob) h2 (by omega)) ?_
    rintro _ w3 ⟨rfl, F3⟩
    replace hG := hG.fram F3 (fun h => h)
    have hs3 := F3.size
    replace V := V.framN (d := World.drawn _) F3
    replace hF := hF.trans' F3 (fun k _ h ↦ h.elim)
    refine wl (ro_pick rfl rfl rfl) ?_
    refine wl (ro_assign rfl) ?_
    refine wl (ro_assign rfl) ?_
    refine wl_nil (x_then (hK10 _ _ ?_))
    clear hK10 K10
    refine c_ret ?_
    refine bp_ret Tryz.results8 rfl ?_
    exact ⟨⟨_, rfl, by unfold FaQ; rw [hE]; exact ⟨by omega, ob, rfl, by omega, hG⟩⟩, V, hF⟩

set_option maxHeartbeats 1000000 in
theorem split10 {w : World} {F : FK} {cn gb n : Nat} {E : MB} {p s : List UInt8} (V : Pr w F cn gb E n) (hcn : cn ≤ 40000000000000000) (hn : n < 90000000000000) (hpm : p.length ≤ 9223372036854775807) (hsm : s.length ≤ 9223372036854775807) :
    Ret Tryz.prog 10 [ptr F.fb, ptr gb, S p, S s] w (fun v w' => (∃ V1, v = .tuple #[V1, .bool true] ∧ SpQ w w' p s V1) ∧ Pr w' F (cn + 300000) gb E (n + 600) ∧ Fram (bset2 F E) w w') := by
  have hF : Fram (bset2 F E) w w := Fram.refl _ _
  have hmlt := V.m.eng.lt
  refine ret_of Tryz.func10 rfl Tryz.ntmps10 rfl ?_
  refine c_seq (fun K1 hK1 => ?_)
  refine c_reg ?_ -- region 0 law.go:108
  refine wl (ro_assign rfl) ?_
  refine wl (ro_assign rfl) ?_
  refine wl_nil (x_then (hK1 _ _ ?_))
  clear hK1 K1
  refine forget [(0, _), (1, _), (2, _), (3, _)] ⟨rfl, rfl, rfl, rfl, trivial⟩ (fun e => ?_)
  refine c_seq (fun K2 hK2 => ?_)
  rcases hE : engT p s with er | r
  · skip
    have hne := engT_er hE
    refine c_reg ?_ -- region 1 law.go:109
    refine wl (ro_move rfl) ?_
    refine wl (ro_move rfl) ?_
    refine wl (ro_move rfl) ?_
    refine wl_call rfl en_28 (Split28 (p := p) (s := s) V.ho V.x (by omega) hpm hsm) ?_
    rintro _ w1 ⟨⟨V1, e1, q1, rfl, h1⟩, X1, F1⟩
    replace V := V.byX (d := World.drawn _) F1 X1
    replace hF := hF.trans' F1 (fun k _ h ↦ .inl h)
    have hs1 := F1.size
    rw [hE] at h1
    first
      | (obtain ⟨rfl, rfl, rfl⟩ : V1 = .slice none 0 0 ∧ e1 = er.1 ∧ q1 = er.2 := h1)
      | (obtain ⟨rfl, rfl, ob, rfl, hob, hG⟩ := h1)
    refine wl (ro_move rfl) ?_
    refine wl (ro_extract rfl rfl) ?_
    refine wl (ro_extract rfl rfl) ?_
    refine wl (ro_extract rfl rfl) ?_
    refine wl (ro_assign rfl) ?_
    refine wl (ro_assign rfl) ?_
    refine wl (ro_assign rfl) ?_
    refine wl_nil (x_then (hK2 _ _ ?_))
    clear hK2 K2
    refine forget [(1, _), (2, _), (3, _), (10, _), (11, _), (12, _)] ⟨rfl, rfl, rfl, rfl, rfl, rfl, trivial⟩ (fun e => ?_)
    refine c_seq (fun K3 hK3 => ?_)
    refine c_reg ?_ -- region 2 law.go:110
    refine wl (ro_move rfl) ?_
    refine wl (ro_move rfl) ?_
    refine wl (ro_move rfl) ?_
    refine wl_call rfl en_29 (Split29 (p := p) (s := s) V.m (by omega) hpm hsm) ?_
    rintro _ w2 ⟨⟨V2, e2, q2, rfl, h2⟩, X2, F2⟩
    replace V := V.byM (d := World.drawn _) F2 X2
    replace hF := hF.trans' F2 (fun k _ h ↦ .inr h)
    rw [hE] at h2
    obtain ⟨rfl, rfl, rfl⟩ : V2 = .slice none 0 0 ∧ e2 = er.1 ∧ q2 = er.2 := h2
    refine wl (ro_move rfl) ?_
    refine wl (ro_extract rfl rfl) ?_
    refine wl (ro_extract rfl rfl) ?_
    refine wl (ro_extract rfl rfl) ?_
    refine wl (ro_assign rfl) ?_
    refine wl (ro_assign rfl) ?_
    refine wl (ro_assign rfl) ?_
    refine wl_nil (x_then (hK3 _ _ ?_))
    clear hK3 K3
    refine c_seq (fun K4 hK4 => ?_)
    refine c_seq (fun K5 hK5 => ?_)
    refine c_reg ?_ -- region 3 law.go:111
    refine wl (ro_move rfl) ?_
    refine wl (ro_cmp (r := true) rfl rfl (congrArg some ((bnec er.1 0).trans (decide_eq_true hne)))) ?_
    refine wl (ro_move rfl) ?_
    refine wlg_yes rfl (ro_move rfl) ?_
    refine wlg_yes rfl (ro_sliceNil (r := false) rfl rfl se_31 rfl) ?_
    refine wl (ro_pick rfl rfl rfl) ?_
    refine wl_nil (x_then (hK5 _ _ ?_))
    clear hK5 K5
    refine wc_condF rfl ?_
    refine c_skip (x_then (hK4 _ _ ?_))
    clear hK4 K4
    refine forget [(10, _), (11, _), (12, _), (13, _), (14, _), (15, _)] ⟨rfl, rfl, rfl, rfl, rfl, rfl, trivial⟩ (fun e => ?_)
    refine c_seq (fun K6 hK6 => ?_)
    refine c_reg ?_ -- region 5 law.go:114
    refine wl (ro_move rfl) ?_
    refine wl (ro_move rfl) ?_
    refine wl (ro_move rfl) ?_
    refine wl (ro_cmp (r := true) rfl rfl (congrArg some (by simp))) ?_
    refine wl (ro_move rfl) ?_
    refine wlg_yes rfl (ro_move rfl) ?_
    refine wlg_yes rfl (ro_move rfl) ?_
    refine wlg_yes rfl (ro_cmp (r := true) rfl rfl (congrArg some (by simp))) ?_
    refine wl (ro_pick rfl rfl rfl) ?_
    refine wl (ro_move rfl) ?_
    refine wlg_yes rfl (ro_move rfl) ?_
    refine wlg_yes rfl (ro_move rfl) ?_
    refine wlg_call rfl rfl en_30 (sameCut30 (L := []) (RWV.nil _ _ _ _ 0 0) (RWV.nil _ _ _ _ 0 0) (by simp)) ?_
    rintro _ w3 ⟨rfl, F3⟩
    replace V := V.framN (d := World.drawn _) F3
    replace hF := hF.trans' F3 (fun k _ h ↦ h.elim)
    refine wl (ro_pick rfl rfl rfl) ?_
    refine wl (ro_assign rfl) ?_
    refine wl (ro_assign rfl) ?_
    refine wl_nil (x_then (hK6 _ _ ?_))
    clear hK6 K6
    refine c_ret ?_
    refine bp_ret Tryz.results10 rfl ?_
    exact ⟨⟨_, rfl, by unfold SpQ; rw [hE]; rfl⟩, V, hF⟩
  · skip
    obtain ⟨hw, -, -, hsl, -⟩ := engT_ok hE
    have hln := chain_len _ 0 (scanAll_chain (s := s) hw 0) (by omega)
    refine c_reg ?_ -- region 1 law.go:109
    refine wl (ro_move rfl) ?_
    refine wl (ro_move rfl) ?_
    refine wl (ro_move rfl) ?_
    refine wl_call rfl en_28 (Split28 (p := p) (s := s) V.ho V.x (by omega) hpm hsm) ?_
    rintro _ w1 ⟨⟨V1, e1, q1, rfl, h1⟩, X1, F1⟩
    replace V := V.byX (d := World.drawn _) F1 X1
    replace hF := hF.trans' F1 (fun k _ h ↦ .inl h)
    have hs1 := F1.size
    rw [hE] at h1
    first
      | (obtain ⟨rfl, rfl, rfl⟩ : V1 = .slice none 0 0 ∧ e1 = er.1 ∧ q1 = er.2 := h1)
      | (obtain ⟨rfl, rfl, ob, rfl, hob, hG⟩ := h1)
    refine wl (ro_move rfl) ?_
    refine wl (ro_extract rfl rfl) ?_
    refine wl (ro_extract rfl rfl) ?_
    refine wl (ro_extract rfl rfl) ?_
    refine wl (ro_assign rfl) ?_
    refine wl (ro_assign rfl) ?_
    refine wl (ro_assign rfl) ?_
    refine wl_nil (x_then (hK2 _ _ ?_))
    clear hK2 K2
    refine forget [(1, _), (2, _), (3, _), (10, _), (11, _), (12, _)] ⟨rfl, rfl, rfl, rfl, rfl, rfl, trivial⟩ (fun e => ?_)
    refine c_seq (fun K7 hK7 => ?_)
    refine c_reg ?_ -- region 2 law.go:110
    refine wl (ro_move rfl) ?_
    refine wl (ro_move rfl) ?_
    refine wl (ro_move rfl) ?_
    refine wl_call rfl en_29 (Split29 (p := p) (s := s) V.m (by omega) hpm hsm) ?_
    rintro _ w2 ⟨⟨V2, e2, q2, rfl, h2⟩, X2, F2⟩
    replace hG := F2.blkF hG (fun h5 => by have := hmlt ob h5; omega)
    replace V := V.byM (d := World.drawn _) F2 X2
    replace hF := hF.trans' F2 (fun k _ h ↦ .inr h)
    have hs2 := F2.size
    rw [hE] at h2
    obtain ⟨rfl, rfl, h2⟩ := h2
    obtain ⟨a2, c2, rfl⟩ := own_form h2.own
    refine wl (ro_move rfl) ?_
    refine wl (ro_extract rfl rfl) ?_
    refine wl (ro_extract rfl rfl) ?_
    refine wl (ro_extract rfl rfl) ?_
    refine wl (ro_assign rfl) ?_
    refine wl (ro_assign rfl) ?_
    refine wl (ro_assign rfl) ?_
    refine wl_nil (x_then (hK7 _ _ ?_))
    clear hK7 K7
    refine c_seq (fun K8 hK8 => ?_)
    refine c_seq (fun K9 hK9 => ?_)
    refine c_reg ?_ -- region 3 law.go:111
    refine wl (ro_move rfl) ?_
    refine wl (ro_cmp (r := false) rfl rfl rfl) ?_
    refine wl (ro_move rfl) ?_
    refine wlg_no rfl ?_
    refine wlg_no rfl ?_
    refine wl (ro_pick rfl rfl rfl) ?_
    refine wl_nil (x_then (hK9 _ _ ?_))
    clear hK9 K9
    refine wc_condF rfl ?_
    refine c_skip (x_then (hK8 _ _ ?_))
    clear hK8 K8
    refine forget [(10, _), (11, _), (12, _), (13, _), (14, _), (15, _)] ⟨rfl, rfl, rfl, rfl, rfl, rfl, trivial⟩ (fun e => ?_)
    refine c_seq (fun K10 hK10 => ?_)
    refine c_reg ?_ -- region 5 law.go:114
    refine wl (ro_move rfl) ?_
    refine wl (ro_move rfl) ?_
    refine wl (ro_move rfl) ?_
    refine wl (ro_cmp (r := true) rfl rfl (congrArg some (by simp))) ?_
    refine wl (ro_move rfl) ?_
    refine wlg_yes rfl (ro_move rfl) ?_
    refine wlg_yes rfl (ro_move rfl) ?_
    refine wlg_yes rfl (ro_cmp (r := true) rfl rfl (congrArg some (by simp))) ?_
    refine wl (ro_pick rfl rfl rfl) ?_
    refine wl (ro_move rfl) ?_
    refine wlg_yes rfl (ro_move rfl) ?_
    refine wlg_yes rfl (ro_move rfl) ?_
    refine wlg_call rfl rfl en_30 (sameCut30 (TL.made hG (by rw [spl_len]; omega) hob) h2 (by rw [spl_len]; omega)) ?_
    rintro _ w3 ⟨rfl, F3⟩
    replace hG := hG.fram F3 (fun h => h)
    have hs3 := F3.size
    replace V := V.framN (d := World.drawn _) F3
    replace hF := hF.trans' F3 (fun k _ h ↦ h.elim)
    refine wl (ro_pick rfl rfl rfl) ?_
    refine wl (ro_assign rfl) ?_
    refine wl (ro_assign rfl) ?_
    refine wl_nil (x_then (hK10 _ _ ?_))
    clear hK10 K10
    refine c_ret ?_
    refine bp_ret Tryz.results10 rfl ?_
    exact ⟨⟨_, rfl, by unfold SpQ; rw [hE]; exact ⟨by rw [spl_len]; omega, ob, rfl, by omega, hG⟩⟩, V, hF⟩

end Go.Proofs.Qxb6500567aGreat
