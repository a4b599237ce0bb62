import Derived.Test.Qxb6500569aGreatUa
/- The real reader: call, term. -/
namespace Go.Proofs.Qxb6500569aGreat
set_option linter.unusedVariables false
set_option linter.unusedSimpArgs false

def preT (ks : List TI) : List UInt8 := if ks = [] then [] else joinT ks ++ [44]

theorem joinT_snoc : ∀ (ks : List TI) (i : TI), joinT (ks ++ [i]) = preT ks ++ i.text
  | [], i => by simp [joinT, preT]
  | [a], i => by simp [joinT, preT]
  | a :: b :: l, i => by
    have := joinT_snoc (b :: l) i
    simp only [List.cons_append, joinT] at this ⊢
    rw [this]
    simp [preT, joinT]

theorem maxM_snoc : ∀ (ks : List TI) (i : TI), maxM (ks ++ [i]) = max (maxM ks) i.m
  | [], i => by simp [maxM]
  | a :: l, i => by
    have := maxM_snoc l i
    simp only [maxM, List.cons_append, List.foldr_cons] at this ⊢
    rw [this]; omega

/-- What a reading of the mode gives. -/
def RPost (m : Nat) (mk : Value → Value) (rb mb : Nat) (s : List UInt8) (p : Nat) (vs : List UInt8) (w : World) (v : Value) (w' : World) : Prop :=
  ∃ r i q, Px m (s.drop p) vs = some r ∧ TAt (s.length - p + 1) w'.heap (mk v) i ∧ i.code = r.code ∧ s.drop p = i.text ++ r.rest ∧ r.vs.length = max vs.length i.m ∧ RD w'.heap rb mb s q r.vs ∧ s.drop q = r.rest ∧ q ≤ s.length ∧ p < q ∧ r.vs.length ≤ q ∧ (∀ b ∈ i.B, w.heap.size ≤ b) ∧ Fram (RF rb mb) w w'

def EPost (m rb mb : Nat) (s : List UInt8) (p : Nat) (vs : List UInt8) (w : World) (pv : Value) (w' : World) : Prop := Px m (s.drop p) vs = none ∧ EPan rb mb w pv w'

def TSpec (rb mb : Nat) (s : List UInt8) (p : Nat) : Prop := ∀ (w : World) (vs : List UInt8), RD w.heap rb mb s p vs → p ≤ s.length → vs.length ≤ p → RetP Tryz.prog 124 [ptr rb] w (RPost 0 id rb mb s p vs w) (EPost 0 rb mb s p vs w)
def CSpec (rb mb : Nat) (s : List UInt8) (p : Nat) : Prop := ∀ (w : World) (vs : List UInt8), RD w.heap rb mb s p vs → p ≤ s.length → vs.length ≤ p → RetP Tryz.prog 116 [ptr rb] w (RPost 1 (fun v => .iface 155 v) rb mb s p vs w) (EPost 1 rb mb s p vs w)

theorem kids_keep {d d' : Nat} {F : Nat → Prop} {w w' : World} {ks : List (Value × TI)} (h : ∀ k ∈ ks, TAt d w.heap k.1 k.2) (hf : Fram F w w') (hn : ∀ k ∈ ks, ∀ b ∈ k.2.B, ¬ F b) (hd : d ≤ d') : ∀ k ∈ ks, TAt d' w'.heap k.1 k.2 :=
  fun k hk => ((h k hk).fram hf (hn k hk)).mono hd

set_option maxHeartbeats 1600000 in
theorem call116 {rb mb : Nat} {s : List UInt8} (hs : s.length ≤ 1000) {p : Nat} (IH : ∀ p', p < p' → TSpec rb mb s p') : CSpec rb mb s p := by
  intro w vs h hp hvs
  have hrb := h.blk.lt
  have hmb := h.map.lt
  obtain ⟨f, hf⟩ : ∃ f, f = pk (s.drop p) := ⟨_, rfl⟩
  refine retp_of Tryz.func116 rfl Tryz.ntmps116 rfl ?_
  refine c_seq (fun K1 hK1 => ?_)
  refine c_reg ?_ -- region 0 reader.go:128
  refine wl (ro_assign rfl) ?_
  refine wl_nil (x_then (hK1 _ _ ?_))
  clear hK1 K1
  refine forget [(0, _)] ⟨rfl, trivial⟩ (fun e => ?_)
  refine c_seq (fun K2 hK2 => ?_)
  refine c_reg ?_ -- region 1 reader.go:129
  refine wl (ro_move rfl) ?_
  refine wl_call rfl en_119 (peek119 h (by omega) (by omega)) ?_
  rintro _ w1 ⟨rfl, F1⟩
  have h1 := h.none F1
  have hB := h1.blk
  have F01 : Fram (RF rb mb) w w1 := F1.mono (fun _ _ h => h.elim)
  rw [← hf]
  refine wl (ro_assign rfl) ?_
  refine wl_nil (x_then (hK2 _ _ ?_))
  clear hK2 K2
  refine c_seq (fun K3 hK3 => ?_)
  refine c_seq (fun K4 hK4 => ?_)
  rcases (by omega : f.toNat < 97 ∨ 122 < f.toNat ∨ (97 ≤ f.toNat ∧ f.toNat ≤ 122)) with hlo | hlo | hlo
  · skip
    refine c_reg ?_ -- region 2 reader.go:130
    refine wl (ro_move rfl) ?_
    refine wl (ro_cmp (r := true) rfl rfl (by simp; omega)) ?_
    refine wl (ro_move rfl) ?_
    refine wlg_no rfl ?_
    refine wlg_no rfl ?_
    refine wl (ro_pick rfl rfl rfl) ?_
    refine wl_nil (x_then (hK4 _ _ ?_))
    clear hK4 K4
    refine wc_condT rfl ?_
    refine c_reg ?_ -- region 3 reader.go:131
    refine wl (ro_move rfl) ?_
    refine wl_callP rfl en_120 (fail120 h1 _) (fun pv w9 hE => bpp_pan (P := Tryz.prog) (fn := Tryz.f116) (⟨by (have : isLo (pk (s.drop p)) = false := by (rw [← hf]; simp [isLo]; omega)); rw [Px1, this]; rfl, hE.after F01⟩)) ?_
    rintro _ _ ⟨⟩
  · skip
    refine c_reg ?_ -- region 2 reader.go:130
    refine wl (ro_move rfl) ?_
    refine wl (ro_cmp (r := false) rfl rfl (by simp; omega)) ?_
    refine wl (ro_move rfl) ?_
    refine wlg_yes rfl (ro_move rfl) ?_
    refine wlg_yes rfl (ro_cmp (r := true) rfl rfl (by simp; omega)) ?_
    refine wl (ro_pick rfl rfl rfl) ?_
    refine wl_nil (x_then (hK4 _ _ ?_))
    clear hK4 K4
    refine wc_condT rfl ?_
    refine c_reg ?_ -- region 3 reader.go:131
    refine wl (ro_move rfl) ?_
    refine wl_callP rfl en_120 (fail120 h1 _) (fun pv w9 hE => bpp_pan (P := Tryz.prog) (fn := Tryz.f116) (⟨by (have : isLo (pk (s.drop p)) = false := by (rw [← hf]; simp [isLo]; omega)); rw [Px1, this]; rfl, hE.after F01⟩)) ?_
    rintro _ _ ⟨⟩
  · skip
    refine c_reg ?_ -- region 2 reader.go:130
    refine wl (ro_move rfl) ?_
    refine wl (ro_cmp (r := false) rfl rfl (by simp; omega)) ?_
    refine wl (ro_move rfl) ?_
    refine wlg_yes rfl (ro_move rfl) ?_
    refine wlg_yes rfl (ro_cmp (r := false) rfl rfl (by simp; omega)) ?_
    refine wl (ro_pick rfl rfl rfl) ?_
    refine wl_nil (x_then (hK4 _ _ ?_))
    clear hK4 K4
    refine wc_condF rfl ?_
    refine c_skip (x_then (hK3 _ _ ?_))
    clear hK3 K3
    refine forget [(0, _), (3, _)] ⟨rfl, rfl, trivial⟩ (fun e => ?_)
    refine c_seq (fun K5 hK5 => ?_)
    have hlf : isLo f = true := by simp [isLo]; omega
    have hpl := (pk_lt (c := f) hf.symm (isLo_ne hlf)).1
    have hdp : s.drop p = f :: s.drop (p + 1) := by
      rw [List.drop_eq_getElem_cons hpl]
      congr 1
      have := (pk_lt (c := f) hf.symm (isLo_ne hlf)).2
      rw [List.getElem?_eq_getElem hpl] at this
      exact Option.some.inj this
    have hP1 : Px 1 (s.drop p) vs = if pk (s.drop (p + 1)) = 40 then (Px 2 (s.drop (p + 2)) vs).bind (fun r => if pk r.rest = 41 then some ⟨f :: UInt8.ofNat (48 + r.n) :: r.code, 0, r.rest.tail, r.vs⟩ else none) else some ⟨[f, 48], 0, s.drop (p + 1), vs⟩ := by
      rw [Px1, drop1, drop1, ← hf, hlf]
      rfl
    refine c_reg ?_ -- region 4 reader.go:133
    refine wl (ro_move rfl) ?_
    refine wl (ro_nilCheck rfl) ?_
    refine wl (ro_fieldAddr (k := 1) rfl fo_152_1) ?_
    refine wl (ro_loadB rfl sc_3 (by assumption) rfl) ?_
    refine wl (ro_arith rfl rfl rfl (Go.IntWalk.i64_in _ (by omega))) ?_
    refine wl (ro_nilCheck rfl) ?_
    refine wl (ro_fieldAddr (k := 1) rfl fo_152_1) ?_
    refine wls (so_storeB rfl rfl rfl sz_3 (hB) (by simp)) ?_
    obtain ⟨h2, F2⟩ := h1.move (p + 1)
    refine gen2 (A := fun w2 => RD w2.heap rb mb s (p + 1) vs) (B := fun w2 => Fram (RF rb mb) w w2) (C := fun w2 => WL _ _ _ _ _ w2) h2 (F01.trans F2) ?_
    clear h2 F2 h1 hB F1 F01
    intro w2 h2 F02
    refine wl_nil (x_then (hK5 _ _ ?_))
    clear hK5 K5
    refine forget [(0, _), (3, _)] ⟨rfl, rfl, trivial⟩ (fun e => ?_)
    refine c_seq (fun K6 hK6 => ?_)
    refine c_reg ?_ -- region 5 reader.go:134
    refine wl (ro_move rfl) ?_
    refine wl (ro_build rfl bld_193_0) ?_
    refine wle (eo_box rfl rfl) ?_
    have hN := Blk.new w2 [u8c f, .slice none 0 0] 193
    have h3 := h2.none (Fram.alloc none' w2 (.cells [u8c f, .slice none 0 0].toArray 193))
    have F03 := F02.trans (Fram.alloc (RF rb mb) w2 (.cells [u8c f, .slice none 0 0].toArray 193))
    obtain ⟨cb, hcb⟩ : ∃ cb, cb = w2.heap.size := ⟨_, rfl⟩
    have hsz2 := F02.size
    refine gen3 (A := fun w3 => RD w3.heap rb mb s (p + 1) vs) (B := fun w3 => Blk w3.heap w2.heap.size [u8c f, .slice none 0 0] 193) (D := fun w3 => Fram (RF rb mb) w w3) (C := fun w3 => WL _ _ _ _ _ w3) h3 hN F03 ?_
    rw [← hcb]
    clear h3 hN F03
    intro w3 h3 hN F03
    refine wl (ro_assign rfl) ?_
    refine wl_nil (x_then (hK6 _ _ ?_))
    clear hK6 K6
    refine c_seq (fun K7 hK7 => ?_)
    refine c_seq (fun K8 hK8 => ?_)
    refine c_reg ?_ -- region 6 reader.go:135
    refine wl (ro_move rfl) ?_
    refine wl_call rfl en_119 (peek119 h3 (by omega) (by omega)) ?_
    rintro _ w4 ⟨rfl, F4⟩
    have h4 := h3.none F4
    have hN4 := hN.fram F4 (fun h => h)
    have F04 : Fram (RF rb mb) w w4 := F03.trans' F4 (fun _ _ h => h.elim)
    have hB := h4.blk
    refine wl (ro_cmp (r := !decide (pk (s.drop (p + 1)) = 40)) rfl rfl (congrArg some (congrArg not (beqb _ 40)))) ?_
    refine wl_nil (x_then (hK8 _ _ ?_))
    clear hK8 K8
    refine wc_cond rfl (fun hc28 => ?_) (fun hc28 => ?_)
    · try simp only [decide_eq_true_eq, decide_eq_false_iff_not, Bool.not_eq_true', Bool.not_eq_false', Bool.not_eq_eq_eq_not, Bool.not_true, Bool.not_false, beq_iff_eq, bne_iff_ne, ne_eq, beq_eq_false_iff_ne, bne_eq_false_iff_eq, gt_iff_lt, ge_iff_le, Int.not_lt, Int.not_le] at hc28
      have h40 : pk (s.drop (p + 1)) ≠ 40 := by simpa using hc28
      rw [if_neg h40] at hP1
      refine c_seq (fun K9 hK9 => ?_)
      refine c_reg ?_ -- region 7 reader.go:136
      refine wl (ro_move rfl) ?_
      refine wl (ro_assign rfl) ?_
      refine wl_nil (x_then (hK9 _ _ ?_))
      clear hK9 K9
      refine c_ret (x_thenR ?_)
      refine bpp_ret Tryz.results116 rfl ?_
      refine ⟨_, ⟨[f, 48], [f], 0, [cb]⟩, p + 1, hP1, .inr (.inr ⟨cb, f, .slice none 0 0, [], rfl, ⟨hN4, Own.nil _ _ _, by simp, rfl⟩, by simp, rfl, rfl, rfl, hlf⟩), rfl, hdp, by simp, h4, rfl, by omega, by omega, by simp only; omega, ?_, F04⟩
      intro b hb
      simp at hb
      omega
    · try simp only [decide_eq_true_eq, decide_eq_false_iff_not, Bool.not_eq_true', Bool.not_eq_false', Bool.not_eq_eq_eq_not, Bool.not_true, Bool.not_false, beq_iff_eq, bne_iff_ne, ne_eq, beq_eq_false_iff_ne, bne_eq_false_iff_eq, gt_iff_lt, ge_iff_le, Int.not_lt, Int.not_le] at hc28
      have h40 : pk (s.drop (p + 1)) = 40 := by simpa using hc28
      rw [if_pos h40] at hP1
      have hpl2 := (pk_lt h40 (by decide)).1
      have hdp2 : s.drop (p + 1) = 40 :: s.drop (p + 2) := by
        rw [List.drop_eq_getElem_cons hpl2]
        congr 1
        have := (pk_lt h40 (by decide)).2
        rw [List.getElem?_eq_getElem hpl2] at this
        exact Option.some.inj this
      refine c_skip (x_then (hK7 _ _ ?_))
      clear hK7 K7
      refine forget [(0, _), (4, _)] ⟨rfl, rfl, trivial⟩ (fun e => ?_)
      refine c_seq (fun K10 hK10 => ?_)
      refine c_reg ?_ -- region 8 reader.go:138
      refine wl (ro_move rfl) ?_
      refine wl (ro_nilCheck rfl) ?_
      refine wl (ro_fieldAddr (k := 1) rfl fo_152_1) ?_
      refine wl (ro_loadB rfl sc_3 (by assumption) rfl) ?_
      refine wl (ro_arith rfl rfl rfl (Go.IntWalk.i64_in _ (by omega))) ?_
      refine wl (ro_nilCheck rfl) ?_
      refine wl (ro_fieldAddr (k := 1) rfl fo_152_1) ?_
      refine wls (so_storeB rfl rfl rfl sz_3 (hB) (by simp)) ?_
      obtain ⟨h5, F5⟩ := h4.move (p + 2)
      have hN5 := hN4.fram F5 (by intro hx; rcases hx with hx | hx <;> omega)
      refine gen3 (A := fun w2 => RD w2.heap rb mb s (p + 2) vs) (B := fun w2 => Blk w2.heap cb [u8c f, .slice none 0 0] 193) (D := fun w2 => Fram (RF rb mb) w w2) (C := fun w2 => WL _ _ _ _ _ w2) h5 hN5 (F04.trans F5) ?_
      clear h5 F5 hN5 h4 hN4 F04 F4 h3 hN F03 h2 F02 hB
      intro w5 h5 hN5 F05
      refine wl_nil (x_then (hK10 _ _ ?_))
      clear hK10 K10
      refine forget [(0, _), (4, _)] ⟨rfl, rfl, trivial⟩ (fun e => ?_)
      refine c_seq (fun K11 hK11 => ?_)
      refine c_block ?_
      -- loop@r9: live slots [0, 4]
      refine c_loopG (fun m a' w' => ∃ (ks : List (Value × TI)) (p1 : Nat) (vs1 : List UInt8) (VA : Value) (B : List Nat), m = s.length - p1 ∧ p + 2 ≤ p1 ∧ p1 ≤ s.length ∧ ks.length ≤ 3 ∧ Px 2 (s.drop (p + 2)) vs = (Px (ks.length + 2) (s.drop p1) vs1).map (fun q => ⟨ks.flatMap (·.2.code) ++ q.code, q.n, q.rest, q.vs⟩) ∧ s.drop (p + 2) = preT (ks.map (·.2)) ++ s.drop p1 ∧ vs1.length = max vs.length (maxM (ks.map (·.2))) ∧ vs1.length ≤ p1 ∧ CallB (TAt (s.length - p) w'.heap) w'.heap cb f VA ks B ∧ RD w'.heap rb mb s p1 vs1 ∧ (∀ b ∈ B, w.heap.size ≤ b) ∧ (∀ k ∈ ks, ∀ b ∈ k.2.B, b ≠ cb ∧ VA.ownBlock ≠ some b) ∧ Fram (RF rb mb) w w' ∧ ∃ e, a' = Fr 70 (upds e [(0, ptr rb), (4, ptr cb)]) []) (s.length - (p + 2)) ⟨[], p + 2, vs, .slice none 0 0, [cb], rfl, by omega, by omega, by simp, ?_, by simp [preT], by simp [maxM], by omega, ⟨hN5, Own.nil _ _ _, by simp, rfl⟩, h5, (by intro b hb; simp at hb; omega), by simp, F05, kp _ ⟨rfl, rfl, trivial⟩⟩ ?_
      · show _ = (Px 2 (s.drop (p + 2)) vs).map _
        cases Px 2 (s.drop (p + 2)) vs <;> simp
      clear h5 hN5 F05
      rintro m a' w6 ⟨ks, p1, vs1, VA, B, rfl, hp1, hp1l, hk3, hPx, htx, hv1, hv1l, hCB, h6, hBf, hdis, F06, e, rfl⟩
      have hsz6 := F06.size
      have hcbf : w.heap.size ≤ cb := hBf cb (by rw [hCB.bs]; simp)
      refine c_block ?_
      refine c_seq (fun K12 hK12 => ?_)
      refine c_reg ?_ -- region 9 reader.go:140
      refine wl (ro_move rfl) ?_
      refine wl_callP rfl en_124 (IH p1 (by omega) w6 vs1 h6 hp1l hv1l) (fun pv w9 hE => bpp_pan (P := Tryz.prog) (fn := Tryz.f116) (⟨by rw [hP1, hPx, Px2, hE.1]; rfl, hE.2.after F06⟩)) ?_
      rintro tv w7 ⟨r, i, q, hr, hT, hic, hit, hiv, h7, hq, hql, hpq, hvq, hiB, F7⟩
      simp only [id] at hT
      have hVf : ∀ b, VA.ownBlock = some b → w.heap.size ≤ b := fun b hb => hBf b (by rw [hCB.bs]; simp [blkB_mem hb])
      have hB7 : Blk w7.heap cb [u8c f, VA] 193 := hCB.blk.fram F7 (by intro hx; rcases hx with hx | hx <;> omega)
      have hO7 : Own w7.heap VA 195 1 ks.length (ks.map (·.1)) := hCB.own.fram F7 (fun b hb hx => by have := hVf b hb; rcases hx with hx | hx <;> omega)
      have hkB : ∀ k ∈ ks, ∀ b ∈ k.2.B, w.heap.size ≤ b := fun k hk b hb => hBf b (by rw [hCB.bs]; simp only [List.mem_cons, List.mem_append, List.mem_flatMap]; exact .inr (.inr ⟨k, hk, hb⟩))
      have hK7 : ∀ k ∈ ks, TAt (s.length - p) w7.heap k.1 k.2 := kids_keep hCB.kids F7 (fun k hk b hb hx => by have := hkB k hk b hb; rcases hx with hx | hx <;> omega) (Nat.le_refl _)
      have hT7 : TAt (s.length - p) w7.heap tv i := hT.mono (by omega)
      have hlt6 : ∀ k ∈ ks, ∀ b ∈ k.2.B, b < w6.heap.size := fun k hk => (hCB.kids k hk).lt
      have hcb6 := hCB.blk.lt
      have hV6 : ∀ b, VA.ownBlock = some b → b < w6.heap.size := fun b hb => hCB.own.lt hb
      have F07 := F06.trans F7
      have hsz7 := F7.size
      obtain ⟨aV, cV, rfl⟩ := hO7.form
      have htv1 : tv.oneCell' = true := by
        rcases (show TAt (s.length - p1 + 1) w7.heap tv i from hT) with ⟨c, n, hh, _⟩ | ⟨hh, _⟩ | ⟨cb', c, VA', ks', hh, _⟩ <;> rw [hh] <;> rfl
      have htvc : tv.cells = [tv].toArray := by
        rcases (show TAt (s.length - p1 + 1) w7.heap tv i from hT) with ⟨c, n, hh, _⟩ | ⟨hh, _⟩ | ⟨cb', c, VA', ks', hh, _⟩ <;> rw [hh] <;> rfl
      refine wl (ro_assign rfl) ?_
      refine wl_nil (x_then (hK12 _ _ ?_))
      clear hK12 K12
      refine forget [(0, _), (4, _), (5, _)] ⟨rfl, rfl, rfl, trivial⟩ (fun e => ?_)
      refine c_seq (fun K13 hK13 => ?_)
      refine c_reg ?_ -- region 10 reader.go:141
      refine wl (ro_move rfl) ?_
      refine wl (ro_move rfl) ?_
      refine wl (ro_nilCheck rfl) ?_
      refine wl (ro_fieldAddr (k := 1) rfl fo_193_1) ?_
      refine wl (ro_loadB rfl sc_190 (hB7) rfl) ?_
      refine wl (ro_move rfl) ?_
      refine wle (eo_bs1 (cs := [tv]) rfl htvc se_190 zx_195 rfl rfl rfl) ?_
      have hN8 := Blk.new w7 [tv] 195
      have hO8 := hO7.alloc (.cells [tv].toArray 195)
      have hB8 := hB7.alloc (.cells [tv].toArray 195)
      refine wl_app (news := [tv]) rfl rfl se_190 zx_195 by_195 rfl hO8 hN8 rfl rfl (by simpa using htv1) (by omega) (by omega) ?_
      intro V9 w9 hown hgr hloc
      obtain ⟨a9, cap9, rfl⟩ := hown.form
      have FA : Fram (fun b => (Value.slice aV ks.length cV).ownBlock = some b) (w7.alloc (.cells [tv].toArray 195)) w9 := Fram.grown hgr (fun k hk => .inl hk)
      have hB9 : Blk w9.heap cb [u8c f, .slice aV ks.length cV] 193 := hB8.fram FA (fun hk => hO8.neblk hB8 (by decide) _ hk rfl)
      refine wl (ro_nilCheck rfl) ?_
      refine wl (ro_fieldAddr (k := 1) rfl fo_193_1) ?_
      refine wls (so_storeB rfl rfl rfl sz_190 (hB9) (by simp)) ?_
      have FS : Fram (fun b => b = cb) w9 (w9.setRow cb [u8c f, .slice a9 (ks.length + 1) cap9].toArray) := Fram.set w9 cb _ (.inl rfl)
      have hB10 := hB9.set [u8c f, .slice a9 (ks.length + 1) cap9]
      have hO10 := hown.fram FS (fun b hb' he => hown.neblk hB9 (by decide) b hb' he)
      have FF : Fram (fun b => b = cb ∨ (Value.slice aV ks.length cV).ownBlock = some b) w7 (w9.setRow cb [u8c f, .slice a9 (ks.length + 1) cap9].toArray) := ((Fram.alloc _ w7 (.cells [tv].toArray 195)).trans (FA.mono (fun k hk hx => .inr hx))).trans (FS.mono (fun k hk hx => .inl hx))
      have hKa : ∀ k ∈ ks ++ [(tv, i)], TAt (s.length - p) (w9.setRow cb [u8c f, .slice a9 (ks.length + 1) cap9].toArray).heap k.1 k.2 := by
        refine kids_keep (d := s.length - p) (w := w7) ?_ FF ?_ (Nat.le_refl _)
        · intro k hk
          rcases List.mem_append.1 hk with h | h
          · exact hK7 k h
          · rw [List.mem_singleton.1 h]; exact hT7
        · intro k hk b hb hx
          rcases List.mem_append.1 hk with h | h
          · have := hdis k h b hb
            rcases hx with hx | hx
            · exact this.1 hx
            · exact this.2 hx
          · rw [List.mem_singleton.1 h] at hb
            have := hiB b hb
            rcases hx with hx | hx
            · omega
            · have := hV6 b hx; omega
      have hRD := h7.fram FF (by intro hx; rcases hx with hx | hx; omega; have := hVf _ hx; omega) (by intro hx; rcases hx with hx | hx; omega; have := hVf _ hx; omega)
      have hnew : ∀ b, (Value.slice a9 (ks.length + 1) cap9).ownBlock = some b → (Value.slice aV ks.length cV).ownBlock = some b ∨ w7.heap.size ≤ b := by
        intro b hb'
        rcases hloc with h | h
        · rw [h] at hb'; exact .inl hb'
        · rw [h] at hb'; cases hb'; exact .inr (by simp)
      have hdis' : ∀ k ∈ ks ++ [(tv, i)], ∀ b ∈ k.2.B, b ≠ cb ∧ (Value.slice a9 (ks.length + 1) cap9).ownBlock ≠ some b := by
        intro k hk b hb
        rcases List.mem_append.1 hk with h | h
        · have h1' := hdis k h b hb
          refine ⟨h1'.1, fun hx => ?_⟩
          rcases hnew b hx with hx | hx
          · exact h1'.2 hx
          · have := hlt6 k h b hb; omega
        · rw [List.mem_singleton.1 h] at hb
          have h2' := hiB b hb
          refine ⟨by omega, fun hx => ?_⟩
          rcases hnew b hx with hx | hx
          · have := hV6 b hx; omega
          · have := hT7.lt b hb; omega
      have F010 := F07.trans' FF (fun k hk hx => by
        rcases hx with hx | hx
        · omega
        · have := hVf k hx; omega)
      refine gen3 (A := fun w' => CallB (TAt (s.length - p) w'.heap) w'.heap cb f (.slice a9 (ks.length + 1) cap9) (ks ++ [(tv, i)]) (cb :: (blkB (.slice a9 (ks.length + 1) cap9) ++ (ks ++ [(tv, i)]).flatMap (·.2.B)))) (B := fun w' => RD w'.heap rb mb s q r.vs) (D := fun w' => Fram (RF rb mb) w w') (C := fun w' => WL _ _ _ _ _ w') ⟨hB10, by simpa using hO10, hKa, rfl⟩ hRD F010 ?_
      have hBf' : ∀ b ∈ cb :: (blkB (.slice a9 (ks.length + 1) cap9) ++ (ks ++ [(tv, i)]).flatMap (·.2.B)), w.heap.size ≤ b := by
        intro b hb
        simp only [List.mem_cons, List.mem_append, List.mem_flatMap] at hb
        rcases hb with hb | hb | ⟨k, hk, hb⟩
        · omega
        · unfold blkB at hb
          split at hb
          · rename_i b' hb'
            simp at hb; subst hb
            rcases hnew _ hb' with h | h
            · exact hVf _ h
            · omega
          · cases hb
        · rcases hk with hk | hk
          · exact hkB k hk b hb
          · simp at hk; subst hk; have := hiB b hb; omega
      clear F010 hRD hKa FF hO10 hB10 FS hB9 FA hown hgr hB8 hO8 hN8 hT7 hK7 hO7 hB7 hT h7 F7 h6 hCB hloc
      intro w10 hCB h10 F010
      have hB11 := hCB.blk
      refine wl_nil (x_then (hK13 _ _ ?_))
      clear hK13 K13
      refine c_seq (fun K14 hK14 => ?_)
      refine c_seq (fun K15 hK15 => ?_)
      refine c_reg ?_ -- region 11 reader.go:142
      refine wl (ro_move rfl) ?_
      refine wl (ro_nilCheck rfl) ?_
      refine wl (ro_fieldAddr (k := 1) rfl fo_193_1) ?_
      refine wl (ro_loadB rfl sc_190 (hB11) rfl) ?_
      refine wl (ro_lenL rfl se_190) ?_
      refine wl (ro_cmp (r := decide (3 < ks.length + 1)) rfl rfl (congrArg some (by simp; omega))) ?_
      refine wl_nil (x_then (hK15 _ _ ?_))
      clear hK15 K15
      refine wc_cond rfl (fun hc54 => ?_) (fun hc54 => ?_)
      · try simp only [decide_eq_true_eq, decide_eq_false_iff_not, Bool.not_eq_true', Bool.not_eq_false', Bool.not_eq_eq_eq_not, Bool.not_true, Bool.not_false, beq_iff_eq, bne_iff_ne, ne_eq, beq_eq_false_iff_ne, bne_eq_false_iff_eq, gt_iff_lt, ge_iff_le, Int.not_lt, Int.not_le] at hc54
        have h3 : 3 < ks.length + 1 := by simpa using hc54
        refine c_reg ?_ -- region 12 reader.go:143
        refine wl (ro_move rfl) ?_
        refine wl_callP rfl en_120 (fail120 h10 _) (fun pv w9 hE => bpp_pan (P := Tryz.prog) (fn := Tryz.f116) (⟨by rw [hP1, hPx, Px2, hr, Option.bind_some, if_pos h3]; rfl, hE.after F010⟩)) ?_
        rintro _ _ ⟨⟩
      · try simp only [decide_eq_true_eq, decide_eq_false_iff_not, Bool.not_eq_true', Bool.not_eq_false', Bool.not_eq_eq_eq_not, Bool.not_true, Bool.not_false, beq_iff_eq, bne_iff_ne, ne_eq, beq_eq_false_iff_ne, bne_eq_false_iff_eq, gt_iff_lt, ge_iff_le, Int.not_lt, Int.not_le] at hc54
        have h3 : ¬ 3 < ks.length + 1 := by simpa using hc54
        rw [Px2 ks.length (s.drop p1) vs1, hr, Option.bind_some, if_neg h3] at hPx
        refine c_skip (x_then (hK14 _ _ ?_))
        clear hK14 K14
        refine c_seq (fun K16 hK16 => ?_)
        refine c_seq (fun K17 hK17 => ?_)
        refine c_reg ?_ -- region 13 reader.go:145
        refine wl (ro_move rfl) ?_
        refine wl_call rfl en_119 (peek119 h10 (by omega) (by omega)) ?_
        rintro _ w11 ⟨rfl, F11⟩
        have h11 := h10.none F11
        have hC11 : CallB (TAt (s.length - p) w11.heap) w11.heap cb f (.slice a9 (ks.length + 1) cap9) (ks ++ [(tv, i)]) (cb :: (blkB (.slice a9 (ks.length + 1) cap9) ++ (ks ++ [(tv, i)]).flatMap (·.2.B))) := hCB.fram F11 (fun _ _ h => h) (fun k hk _ h => h.fram F11 (fun _ _ h => h))
        have F011 := F010.trans' F11 (fun _ _ h => h.elim)
        have hB12 := h11.blk
        have htx2 : s.drop (p + 2) = joinT ((ks ++ [(tv, i)]).map (·.2)) ++ s.drop q := by
          rw [List.map_append, List.map_singleton, joinT_snoc, htx, hit, hq, List.append_assoc]
        refine wl (ro_cmp (r := !decide (pk (s.drop q) = 44)) rfl rfl (congrArg some (congrArg not (beqb _ 44)))) ?_
        refine wl_nil (x_then (hK17 _ _ ?_))
        clear hK17 K17
        refine wc_cond rfl (fun hc59 => ?_) (fun hc59 => ?_)
        · try simp only [decide_eq_true_eq, decide_eq_false_iff_not, Bool.not_eq_true', Bool.not_eq_false', Bool.not_eq_eq_eq_not, Bool.not_true, Bool.not_false, beq_iff_eq, bne_iff_ne, ne_eq, beq_eq_false_iff_ne, bne_eq_false_iff_eq, gt_iff_lt, ge_iff_le, Int.not_lt, Int.not_le] at hc59
          have h44 : pk (s.drop q) ≠ 44 := by simpa using hc59
          rw [← hq, if_neg h44] at hPx
          simp only [Option.map_some] at hPx
          rw [hPx, Option.bind_some] at hP1
          simp only at hP1
          refine c_exit (x_thenX (x_blkY rfl (x_thenX (x_blkX (x_then (hK11 _ _ ?_))))))
          clear hK16 K16 hK11 K11
          refine forget [(0, _), (4, _)] ⟨rfl, rfl, trivial⟩ (fun e => ?_)
          refine c_seq (fun K18 hK18 => ?_)
          refine c_reg ?_ -- region 15 reader.go:150
          refine wl (ro_move rfl) ?_
          refine wl_callP rfl en_117 (expect117 h11 (by omega) (by omega) 41 _) (fun pv w9 hE => bpp_pan (P := Tryz.prog) (fn := Tryz.f116) (⟨by rw [hP1, if_neg hE.1], hE.2.after F011⟩)) ?_
          rintro _ w13 ⟨h41, h13, F13⟩
          rw [if_pos h41, drop1] at hP1
          have hgg : ∀ b ∈ cb :: (blkB (.slice a9 (ks.length + 1) cap9) ++ (ks ++ [(tv, i)]).flatMap (·.2.B)), ¬ RF rb mb b := by
            intro b hb hx
            have := hBf' b hb
            rcases hx with hx | hx <;> omega
          have hC13 := hC11.fram F13 hgg (fun k hk hb h => h.fram F13 hb)
          have hqq := (pk_lt h41 (by decide)).1
          have hdq : s.drop q = 41 :: s.drop (q + 1) := by
            rw [List.drop_eq_getElem_cons hqq]
            congr 1
            have := (pk_lt h41 (by decide)).2
            rw [List.getElem?_eq_getElem hqq] at this
            exact Option.some.inj this
          refine wl_nil (x_then (hK18 _ _ ?_))
          clear hK18 K18
          refine forget [(4, _)] ⟨rfl, trivial⟩ (fun e => ?_)
          refine c_seq (fun K19 hK19 => ?_)
          refine c_reg ?_ -- region 16 reader.go:151
          refine wl (ro_move rfl) ?_
          refine wl (ro_assign rfl) ?_
          refine wl_nil (x_then (hK19 _ _ ?_))
          clear hK19 K19
          refine c_ret ?_
          refine bpp_ret Tryz.results116 rfl ?_
          refine ⟨_, ⟨codeC f ((ks ++ [(tv, i)]).map (·.2)), textC f ((ks ++ [(tv, i)]).map (·.2)), maxM ((ks ++ [(tv, i)]).map (·.2)), cb :: (blkB (.slice a9 (ks.length + 1) cap9) ++ (ks ++ [(tv, i)]).flatMap (·.2.B))⟩, q + 1, hP1, .inr (.inr ⟨cb, f, _, ks ++ [(tv, i)], rfl, hC13, by simp; omega, rfl, rfl, rfl, hlf⟩), ?_, ?_, ?_, h13, rfl, by omega, by omega, by simp only; omega, hBf', F011.trans F13⟩
          · simp only [codeC, List.length_map, List.length_append, List.length_singleton, List.map_append, List.map_singleton, List.flatMap_append, List.flatMap_singleton, List.flatMap_map, hic]
          · simp only
            rw [hdp, hdp2, htx2, hdq]
            simp [textC]
          · simp only
            rw [List.map_append, List.map_singleton, maxM_snoc, hiv, hv1]; simp only; omega
        · try simp only [decide_eq_true_eq, decide_eq_false_iff_not, Bool.not_eq_true', Bool.not_eq_false', Bool.not_eq_eq_eq_not, Bool.not_true, Bool.not_false, beq_iff_eq, bne_iff_ne, ne_eq, beq_eq_false_iff_ne, bne_eq_false_iff_eq, gt_iff_lt, ge_iff_le, Int.not_lt, Int.not_le] at hc59
          have h44 : pk (s.drop q) = 44 := by simpa using hc59
          rw [← hq, if_pos h44, drop1] at hPx
          have hqq := (pk_lt h44 (by decide)).1
          have hdq : s.drop q = 44 :: s.drop (q + 1) := by
            rw [List.drop_eq_getElem_cons hqq]
            congr 1
            have := (pk_lt h44 (by decide)).2
            rw [List.getElem?_eq_getElem hqq] at this
            exact Option.some.inj this
          refine c_skip (x_then (hK16 _ _ ?_))
          clear hK16 K16
          refine c_reg ?_ -- region 14 reader.go:148
          refine wl (ro_move rfl) ?_
          refine wl (ro_nilCheck rfl) ?_
          refine wl (ro_fieldAddr (k := 1) rfl fo_152_1) ?_
          refine wl (ro_loadB rfl sc_3 (by assumption) rfl) ?_
          refine wl (ro_arith rfl rfl rfl (Go.IntWalk.i64_in _ (by omega))) ?_
          refine wl (ro_nilCheck rfl) ?_
          refine wl (ro_fieldAddr (k := 1) rfl fo_152_1) ?_
          refine wls (so_storeB rfl rfl rfl sz_3 (hB12) (by simp)) ?_
          obtain ⟨h12, F12⟩ := h11.move (q + 1)
          refine wl_nil (x_blk (x_then ?_))
          refine ⟨s.length - (q + 1), by omega, ks ++ [(tv, i)], q + 1, r.vs, .slice a9 (ks.length + 1) cap9, _, rfl, by omega, by omega, by simp; omega, ?_, ?_, ?_, by omega, ?_, h12, hBf', hdis', F011.trans F12, kp _ ⟨rfl, rfl, trivial⟩⟩
          · rw [hPx, show (ks ++ [(tv, i)]).length + 2 = ks.length + 3 by simp]
            cases Px (ks.length + 3) (s.drop (q + 1)) r.vs with
            | none => rfl
            | some z => simp [hic]
          · rw [htx2, hdq]
            simp [preT]
          · rw [List.map_append, List.map_singleton, maxM_snoc, hiv, hv1]; simp only; omega
          · have hgg : ∀ b ∈ cb :: (blkB (.slice a9 (ks.length + 1) cap9) ++ (ks ++ [(tv, i)]).flatMap (·.2.B)), ¬ RF rb mb b := by
              intro b hb hx
              have := hBf' b hb
              rcases hx with hx | hx <;> omega
            exact hC11.fram F12 hgg (fun k hk hb h => h.fram F12 hb)

end Go.Proofs.Qxb6500569aGreat
