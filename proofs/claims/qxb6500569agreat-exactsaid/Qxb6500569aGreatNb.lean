import Derived.Test.Qxb6500569aGreatNa
/- The model's reader: a term. -/
namespace Go.Proofs.Qxb6500569aGreat
set_option linter.unusedVariables false
set_option linter.unusedSimpArgs false

theorem vAdd_len (vs : List UInt8) (c : UInt8) : vs.length ≤ (vAdd vs c).length ∧ (vAdd vs c).length ≤ vs.length + 1 := by unfold vAdd; split <;> simp

theorem pX_vs : ∀ (f m : Nat) (t vs : List UInt8) (r : PR4), pX f m t vs = some r → vs.length ≤ r.vs.length
  | 0, m, t, vs, r, h => by simp [pX] at h
  | f + 1, 0, t, vs, r, h => by
    rw [pX_e0] at h
    split at h
    · cases h; exact (vAdd_len _ _).1
    · exact pX_vs f 1 t vs r h
  | f + 1, 1, t, vs, r, h => by
    rw [pX_e1] at h
    split at h
    · split at h
      · cases hq : pX f 2 t.tail.tail vs with
        | none => rw [hq] at h; cases h
        | some q =>
          rw [hq] at h
          simp only [Option.bind_some] at h
          split at h
          · cases h; exact pX_vs f 2 _ _ q hq
          · cases h
      · cases h; exact Nat.le_refl _
    · cases h
  | f + 1, k + 2, t, vs, r, h => by
    rw [pX_e2] at h
    cases hq : pX f 0 t vs with
    | none => rw [hq] at h; cases h
    | some q =>
      have h1 := pX_vs f 0 _ _ q hq
      rw [hq] at h
      simp only [Option.bind_some] at h
      split at h
      · cases h
      · split at h
        · cases hz : pX f (k + 3) q.rest.tail q.vs with
          | none => rw [hz] at h; cases h
          | some z =>
            have h3 := pX_vs f _ _ _ z hz
            rw [hz] at h; cases h
            simp only; omega
        · cases h; exact h1

theorem Px_vs {m : Nat} {t vs : List UInt8} {r : PR4} (h : Px m t vs = some r) : vs.length ≤ r.vs.length := pX_vs _ _ _ _ _ h

/-- The reading fails, or meets too many variables. -/
def BadS (m : Nat) (t vs : List UInt8) : Prop := ∀ r, Px m t vs = some r → 6 < r.vs.length

/-- What the model's 'term' leaves. -/
def TermOK (f rb : Nat) (s : List UInt8) (p : Nat) (vs : List UInt8) (bad0 : Bool) (m : Nat) (w : World) (r : Value) (w' : World) : Prop :=
  ∃ out p' vs' bad', r = S out ∧ RdAt w' rb s p' vs' bad' ∧ Fram (fun b => b = rb) w w' ∧ p ≤ p' ∧ p' ≤ max p s.length + f ∧ out.length ≤ 2 * (p' - p) ∧ vs'.length ≤ vs.length + (p' - p) ∧ (bad0 = true → bad' = true) ∧
    (bad0 = false → (bad' = true ∧ BadS m (s.drop p) vs) ∨ (bad' = false ∧ ∃ q, Px m (s.drop p) vs = some q ∧ q.vs.length ≤ 6 ∧ out = q.code ∧ s.drop p' = q.rest ∧ vs' = q.vs ∧ p' ≤ s.length))

theorem drop1 (s : List UInt8) (p : Nat) : (s.drop p).tail = s.drop (p + 1) := by rw [List.tail_drop]

theorem pk_lt {s : List UInt8} {p : Nat} {c : UInt8} (h : pk (s.drop p) = c) (hc : c ≠ 0) : p < s.length ∧ s[p]? = some c := by
  obtain ⟨r, hr⟩ := pk_cons h hc
  obtain ⟨h1, _, h3⟩ := drop_cons hr
  exact ⟨h3, h1⟩

/-- Letters of the variables. -/
theorem abcdef (k : Nat) (h : k < 6) : ([65, 66, 67, 68, 69, 70] : List UInt8)[k]? = some (UInt8.ofNat (65 + k)) := by
  match k, h with | 0, _ | 1, _ | 2, _ | 3, _ | 4, _ | 5, _ => rfl

theorem take1 {l : List UInt8} {k : Nat} {c : UInt8} (h : l[k]? = some c) : (l.drop k).take (k + 1 - k) = [c] := by
  obtain ⟨hk, h⟩ := List.getElem?_eq_some_iff.1 h
  rw [List.drop_eq_getElem_cons hk, show k + 1 - k = 1 by omega, h]; rfl

theorem idx_lt {vs : List UInt8} {k : Nat} {x : UInt8} (h1 : ∀ j : Nat, j < k → vs[j]? ≠ some x) (h2 : vs[k]? = some x) : vs.idxOf x = k := by
  have hm : x ∈ vs := List.mem_of_getElem? h2
  have hlt : vs.idxOf x < vs.length := List.idxOf_lt_length_iff.2 hm
  have hg : vs[vs.idxOf x]? = some x := by rw [List.getElem?_eq_getElem hlt, List.getElem_idxOf]
  rcases Nat.lt_trichotomy (vs.idxOf x) k with h | h | h
  · exact absurd hg (h1 _ h)
  · exact h
  · have := List.not_of_lt_findIdx (p := (· == x)) (xs := vs) (i := k) h
    rw [List.getElem?_eq_some_iff] at h2
    obtain ⟨hk, h2⟩ := h2
    simp [h2] at this

theorem idx_none {vs : List UInt8} {x : UInt8} (h1 : ∀ j : Nat, j < vs.length → vs[j]? ≠ some x) : x ∉ vs := by
  intro hm
  obtain ⟨i, hi⟩ := List.getElem?_of_mem hm
  exact h1 i (List.getElem?_eq_some_iff.1 hi).1 hi

theorem beqb (a b : UInt8) : ((a.toNat : Int) == (b.toNat : Int)) = decide (a = b) := by
  rw [beqc]; simp [UInt8.toNat_inj]

set_option maxHeartbeats 800000 in
theorem term95v {f rb : Nat} {s : List UInt8} {p : Nat} {vs : List UInt8} {bad0 : Bool} {w : World} (h : RdAt w rb s p vs bad0) (hp : p ≤ 100000) (hs : s.length ≤ 100000) (hvs : vs.length ≤ 100000) (hv6 : bad0 = false → vs.length ≤ 6) (hu : isUp (pk (s.drop p)) = true) :
    Ret Tryz.prog 95 [ptr rb, .bool false] w (TermOK f rb s p vs bad0 0 w) := by
  obtain ⟨c, hc⟩ : ∃ c, c = pk (s.drop p) := ⟨_, rfl⟩
  rw [← hc] at hu
  obtain ⟨hpl, hcp⟩ := pk_lt hc.symm (isUp_ne hu)
  have hcr : 65 ≤ c.toNat ∧ c.toNat ≤ 90 := by simpa [isUp] using hu
  have hspec : Px 0 (s.drop p) vs = some ⟨[UInt8.ofNat (65 + vs.idxOf c)], 0, s.drop (p + 1), vAdd vs c⟩ := by rw [Px0, ← hc, if_pos hu, drop1]
  refine ret_of Tryz.func95 rfl Tryz.ntmps95 rfl ?_
  refine c_seq (fun K1 hK1 => ?_)
  refine c_reg ?_ -- region 0 progm.go:36
  refine wl (ro_assign rfl) ?_
  refine wl_nil (x_then (hK1 _ _ ?_))
  clear hK1 K1
  refine forget [(0, _), (1, _)] ⟨rfl, rfl, trivial⟩ (fun e => ?_)
  refine c_seq (fun K2 hK2 => ?_)
  refine c_reg ?_ -- region 1 progm.go:37
  refine wl (ro_move rfl) ?_
  refine wl_call rfl en_96 (peek96 h (by omega) (by omega)) ?_
  rintro _ w1 ⟨rfl, F1⟩
  rw [← hc]
  have h1 : RdAt w1 rb s p vs bad0 := Blk.fram h F1 (fun h => h)
  refine wl (ro_assign rfl) ?_
  refine wl_nil (x_then (hK2 _ _ ?_))
  clear hK2 K2
  refine c_seq (fun K3 hK3 => ?_)
  refine c_seq (fun K4 hK4 => ?_)
  refine c_reg ?_ -- region 2 progm.go:38
  refine wl (ro_move rfl) ?_
  refine wl (ro_cmp (r := true) rfl rfl (by simp; omega)) ?_
  refine wl (ro_move rfl) ?_
  refine wlg_yes rfl (ro_move rfl) ?_
  refine wlg_yes rfl (ro_cmp (r := true) rfl rfl (by simp; omega)) ?_
  refine wl (ro_pick rfl rfl rfl) ?_
  refine wl (ro_move rfl) ?_
  refine wlg_yes rfl (ro_move rfl) ?_
  refine wlg_yes rfl (ro_not rfl) ?_
  refine wl (ro_pick rfl rfl rfl) ?_
  refine wl_nil (x_then (hK4 _ _ ?_))
  clear hK4 K4
  refine wc_condT rfl ?_
  refine c_seq (fun K5 hK5 => ?_)
  refine c_reg ?_ -- region 3 progm.go:39
  refine wl (ro_assign rfl) ?_
  refine wl_nil (x_then (hK5 _ _ ?_))
  clear hK5 K5
  refine forget [(0, _), (5, _), (6, _)] ⟨rfl, rfl, rfl, trivial⟩ (fun e => ?_)
  refine c_seq (fun K6 hK6 => ?_)
  refine c_block ?_
  -- loop@r4: live slots [0, 5, 6]
  refine c_loopG (fun m a' w' => ∃ k, m = vs.length - k ∧ k ≤ vs.length ∧ (∀ j : Nat, j < k → vs[j]? ≠ some c) ∧ w' = w1 ∧ ∃ e, a' = Fr 172 (upds e [(0, ptr rb), (5, u8c c), (6, i64c k)]) []) vs.length ⟨0, rfl, by omega, fun j hj => by omega, rfl, kp _ ⟨rfl, rfl, rfl, trivial⟩⟩ ?_
  rintro m a' w1 ⟨k, rfl, hk, hnot, rfl, e, rfl⟩
  refine c_seq (fun K7 hK7 => ?_)
  refine c_seq (fun K8 hK8 => ?_)
  by_cases hkl : k < vs.length
  · skip
    obtain ⟨y, hy⟩ : ∃ y, vs[k]? = some y := ⟨_, List.getElem?_eq_getElem hkl⟩
    refine c_reg ?_ -- region 4 progm.go:40
    refine wl (ro_move rfl) ?_
    refine wl (ro_move rfl) ?_
    refine wl (ro_nilCheck rfl) ?_
    refine wl (ro_fieldAddr (k := 2) rfl fo_167_2) ?_
    refine wl (ro_loadB rfl sc_9 (h1) (rfl)) ?_
    refine wl (ro_lenS rfl st_9) ?_
    refine wl (ro_cmp (r := true) rfl rfl (by simp; omega)) ?_
    refine wl (ro_move rfl) ?_
    refine wlg_yes rfl (ro_move rfl) ?_
    refine wlg_yes rfl (ro_nilCheck rfl) ?_
    refine wlg_yes rfl (ro_fieldAddr (k := 2) rfl fo_167_2) ?_
    refine wlg_yes rfl (ro_loadB rfl sc_9 (h1) (rfl)) ?_
    refine wlg_yes rfl (ro_move rfl) ?_
    refine wlg_yes rfl (ro_indexS rfl rfl st_9 rfl (hy)) ?_
    refine wlg_yes rfl (ro_move rfl) ?_
    refine wlg_yes rfl (ro_cmp (r := decide (y ≠ c)) rfl rfl (congrArg some (by have := beqb y c; simp [bne, this]))) ?_
    refine wl (ro_pick rfl rfl rfl) ?_
    refine wl_nil (x_then (hK8 _ _ ?_))
    clear hK8 K8
    refine wc_cond rfl (fun hc40 => ?_) (fun hc40 => ?_)
    · try simp only [decide_eq_true_eq, decide_eq_false_iff_not, Bool.not_eq_true', Bool.not_eq_false', Bool.not_eq_eq_eq_not, Bool.not_true, Bool.not_false, beq_iff_eq, bne_iff_ne, ne_eq, beq_eq_false_iff_ne, bne_eq_false_iff_eq, gt_iff_lt, ge_iff_le, Int.not_lt, Int.not_le] at hc40
      have hyx : y ≠ c := by simpa using hc40
      refine c_skip (x_then (hK7 _ _ ?_))
      clear hK7 K7
      refine c_block ?_
      refine c_reg ?_ -- region 5 progm.go:41
      refine wl (ro_move rfl) ?_
      refine wl (ro_arith rfl rfl rfl (Go.IntWalk.i64_in _ (by omega))) ?_
      refine wl (ro_assign rfl) ?_
      refine wl_nil (x_blk (x_then ?_))
      refine ⟨vs.length - (k + 1), by omega, k + 1, rfl, by omega, ?_, rfl, kp _ ⟨rfl, rfl, rfl, trivial⟩⟩
      intro j hj
      rcases Nat.lt_or_ge j k with h | h
      · exact hnot j h
      · have : j = k := by omega
        subst this; rw [hy]; simpa using hyx
    · try simp only [decide_eq_true_eq, decide_eq_false_iff_not, Bool.not_eq_true', Bool.not_eq_false', Bool.not_eq_eq_eq_not, Bool.not_true, Bool.not_false, beq_iff_eq, bne_iff_ne, ne_eq, beq_eq_false_iff_ne, bne_eq_false_iff_eq, gt_iff_lt, ge_iff_le, Int.not_lt, Int.not_le] at hc40
      have hyx : y = c := by simpa using hc40
      refine c_exit (x_thenX (x_thenX (x_blkX (x_then (hK6 _ _ ?_)))))
      clear hK7 K7 hK6 K6
      refine c_seq (fun K9 hK9 => ?_)
      refine c_seq (fun K10 hK10 => ?_)
      have hidx : vs.idxOf c = k := idx_lt hnot (by rw [hy, hyx])
      have hin : c ∈ vs := List.mem_of_getElem? (by rw [hy, hyx])
      have hva : vAdd vs c = vs := by unfold vAdd; rw [if_pos hin]
      have hkv : k < (vAdd vs c).length := by rw [hva]; exact hkl
      have hl6 : bad0 = false → k < 6 → (vAdd vs c).length ≤ 6 := fun hb _ => by rw [hva]; exact hv6 hb
      refine c_reg ?_ -- region 6 progm.go:43
      refine wl (ro_move rfl) ?_
      refine wl (ro_move rfl) ?_
      refine wl (ro_nilCheck rfl) ?_
      refine wl (ro_fieldAddr (k := 2) rfl fo_167_2) ?_
      refine wl (ro_loadB rfl sc_9 (h1) (rfl)) ?_
      refine wl (ro_lenS rfl st_9) ?_
      refine wl (ro_cmp (r := false) rfl rfl (by simp; omega)) ?_
      refine wl_nil (x_then (hK10 _ _ ?_))
      clear hK10 K10
      refine wc_condF rfl ?_
      refine c_skip (x_then (hK9 _ _ ?_))
      clear hK9 K9
      refine forget [(0, _), (6, _)] ⟨rfl, rfl, trivial⟩ (fun e => ?_)
      refine c_seq (fun K11 hK11 => ?_)
      have hz : Blk w1.heap rb [S s, i64c p, S (vAdd vs c), .bool bad0] 167 ∧ Fram (fun b => b = rb) w w1 := ⟨by rw [hva]; exact h1, F1.mono (fun _ _ h => h.elim)⟩
      refine gen2 (A := fun w2 => Blk w2.heap rb [S s, i64c p, S (vAdd vs c), .bool bad0] 167) (B := fun w2 => Fram (fun b => b = rb) w w2) (C := fun w2 => WC _ _ _ _ w2) hz.1 hz.2 ?_
      clear hz
      intro w2 h2 F2
      refine c_reg ?_ -- region 8 progm.go:46
      refine wl (ro_move rfl) ?_
      refine wl (ro_nilCheck rfl) ?_
      refine wl (ro_fieldAddr (k := 1) rfl fo_167_1) ?_
      refine wl (ro_loadB rfl sc_3 (h2) (rfl)) ?_
      refine wl (ro_arith rfl rfl rfl (Go.IntWalk.i64_in _ (by omega))) ?_
      refine wl (ro_nilCheck rfl) ?_
      refine wl (ro_fieldAddr (k := 1) rfl fo_167_1) ?_
      refine wls (so_storeB rfl rfl rfl sz_3 (h2) (by simp)) ?_
      have h3 := Blk.set h2 [S s, i64c (p + 1), S (vAdd vs c), .bool bad0]
      have F3 : Fram (fun b => b = rb) w _ := F2.thenSet (b := rb) (cs := [S s, i64c (p + 1), S (vAdd vs c), .bool bad0].toArray) (.inl rfl)
      refine wl_nil (x_then (hK11 _ _ ?_))
      clear hK11 K11
      refine c_seq (fun K12 hK12 => ?_)
      refine c_seq (fun K13 hK13 => ?_)
      refine c_reg ?_ -- region 9 progm.go:47
      refine wl (ro_move rfl) ?_
      refine wl (ro_cmp rfl rfl rfl) ?_
      refine wl_nil (x_then (hK13 _ _ ?_))
      clear hK13 K13
      refine wc_cond rfl (fun hc80 => ?_) (fun hc80 => ?_)
      · try simp only [decide_eq_true_eq, decide_eq_false_iff_not, Bool.not_eq_true', Bool.not_eq_false', Bool.not_eq_eq_eq_not, Bool.not_true, Bool.not_false, beq_iff_eq, bne_iff_ne, ne_eq, beq_eq_false_iff_ne, bne_eq_false_iff_eq, gt_iff_lt, ge_iff_le, Int.not_lt, Int.not_le] at hc80
        have hk6 : 6 ≤ k := by omega
        refine c_seq (fun K14 hK14 => ?_)
        refine c_reg ?_ -- region 10 progm.go:48
        refine wl (ro_move rfl) ?_
        refine wl (ro_nilCheck rfl) ?_
        refine wl (ro_fieldAddr (k := 3) rfl fo_167_3) ?_
        refine wls (so_storeB rfl rfl rfl sz_4 (h3) (by simp)) ?_
        refine wl_nil (x_then (hK14 _ _ ?_))
        clear hK14 K14
        refine forget [] trivial (fun e => ?_)
        refine c_seq (fun K15 hK15 => ?_)
        refine c_reg ?_ -- region 11 progm.go:49
        refine wl (ro_assign rfl) ?_
        refine wl_nil (x_then (hK15 _ _ ?_))
        clear hK15 K15
        refine c_ret (x_thenR (x_thenR ?_))
        refine bp_ret Tryz.results95 rfl ?_
        refine ⟨[], p + 1, vAdd vs c, true, rfl, Blk.set h3 [S s, i64c (p + 1), S (vAdd vs c), .bool true], F3.thenSet (.inl rfl), by omega, by omega, by simp, by have := (vAdd_len vs c).2; omega, fun _ => rfl, fun hb => .inl ⟨rfl, ?_⟩⟩
        intro q hq
        rw [hspec] at hq
        cases hq
        simp only
        omega
      · try simp only [decide_eq_true_eq, decide_eq_false_iff_not, Bool.not_eq_true', Bool.not_eq_false', Bool.not_eq_eq_eq_not, Bool.not_true, Bool.not_false, beq_iff_eq, bne_iff_ne, ne_eq, beq_eq_false_iff_ne, bne_eq_false_iff_eq, gt_iff_lt, ge_iff_le, Int.not_lt, Int.not_le] at hc80
        refine c_skip (x_then (hK12 _ _ ?_))
        clear hK12 K12
        refine forget [(6, _)] ⟨rfl, trivial⟩ (fun e => ?_)
        refine c_seq (fun K16 hK16 => ?_)
        refine c_reg ?_ -- region 12 progm.go:51
        refine wl (ro_move rfl) ?_
        refine wl (ro_move rfl) ?_
        refine wl (ro_arith rfl rfl rfl (Go.IntWalk.i64_in _ (by omega))) ?_
        refine wl ((show RO _ _ _ _ _ (S [UInt8.ofNat (65 + k)]) from take1 (abcdef k (by omega)) ▸ ro_sliceSLH (s := [65, 66, 67, 68, 69, 70]) (l := k) (h := k + 1) rfl rfl rfl st_9 rfl (by omega) (by omega) (by simp; omega))) ?_
        refine wl (ro_assign rfl) ?_
        refine wl_nil (x_then (hK16 _ _ ?_))
        clear hK16 K16
        refine c_ret (x_thenR ?_)
        refine bp_ret Tryz.results95 rfl ?_
        refine ⟨[UInt8.ofNat (65 + k)], p + 1, vAdd vs c, bad0, rfl, h3, F3, by omega, by omega, by simp, by have := (vAdd_len vs c).2; omega, fun hb => hb, fun hb => .inr ⟨hb, _, hspec, hl6 hb (by omega), by rw [hidx], rfl, rfl, by omega⟩⟩
  · skip
    refine c_reg ?_ -- region 4 progm.go:40
    refine wl (ro_move rfl) ?_
    refine wl (ro_move rfl) ?_
    refine wl (ro_nilCheck rfl) ?_
    refine wl (ro_fieldAddr (k := 2) rfl fo_167_2) ?_
    refine wl (ro_loadB rfl sc_9 (h1) (rfl)) ?_
    refine wl (ro_lenS rfl st_9) ?_
    refine wl (ro_cmp (r := false) rfl rfl (by simp; omega)) ?_
    refine wl (ro_move rfl) ?_
    refine wlg_no rfl ?_
    refine wlg_no rfl ?_
    refine wlg_no rfl ?_
    refine wlg_no rfl ?_
    refine wlg_no rfl ?_
    refine wlg_no rfl ?_
    refine wlg_no rfl ?_
    refine wlg_no rfl ?_
    refine wl (ro_pick rfl rfl rfl) ?_
    refine wl_nil (x_then (hK8 _ _ ?_))
    clear hK8 K8
    refine wc_condF rfl ?_
    refine c_exit (x_thenX (x_thenX (x_blkX (x_then (hK6 _ _ ?_)))))
    clear hK7 K7 hK6 K6
    refine c_seq (fun K17 hK17 => ?_)
    refine c_seq (fun K18 hK18 => ?_)
    have hke : k = vs.length := by omega
    have hin := idx_none (x := c) (vs := vs) (by rw [← hke]; exact hnot)
    have hidx : vs.idxOf c = k := by rw [hke]; exact List.idxOf_eq_length hin
    have hva : vAdd vs c = vs ++ [c] := by unfold vAdd; rw [if_neg hin]
    have hkv : k < (vAdd vs c).length := by rw [hva]; simp; omega
    have hl6 : bad0 = false → k < 6 → (vAdd vs c).length ≤ 6 := fun hb _ => by rw [hva]; simp; omega
    refine c_reg ?_ -- region 6 progm.go:43
    refine wl (ro_move rfl) ?_
    refine wl (ro_move rfl) ?_
    refine wl (ro_nilCheck rfl) ?_
    refine wl (ro_fieldAddr (k := 2) rfl fo_167_2) ?_
    refine wl (ro_loadB rfl sc_9 (h1) (rfl)) ?_
    refine wl (ro_lenS rfl st_9) ?_
    refine wl (ro_cmp (r := true) rfl rfl (by simp; omega)) ?_
    refine wl_nil (x_then (hK18 _ _ ?_))
    clear hK18 K18
    refine wc_condT rfl ?_
    refine c_piL 22 [(0, false), (1, false), (2, false), (3, false), (4, false), (5, false), (6, false), (7, false), (8, false), (9, false), (10, false), (11, false), (12, false), (13, false), (14, false), (15, false), (16, false), (17, false), (18, false), (19, false), (20, false), (21, false)] (SameH _) mixed (by kernel_rfl) rfl (by kernel_rfl) (po_then (po_then (po_bp))) (sameH_now _ _) ?_ -- region 7 progm.go:44
    refine ql_ro rfl (fun w hS => ro_move rfl) ?_
    refine ql_ro rfl (fun w hS => ro_move rfl) ?_
    refine ql_ro rfl (fun w hS => ro_nilCheck rfl) ?_
    refine ql_ro rfl (fun w hS => ro_fieldAddr (k := 2) rfl fo_167_2) ?_
    refine ql_ro rfl (fun w hS => ro_loadB rfl sc_9 (Blk.of_heap h1 hS) (rfl)) ?_
    refine ql_ro rfl (fun w hS => ro_move rfl) ?_
    refine ql_ro rfl (fun w hS => ro_nilCheck rfl) ?_
    refine ql_ro rfl (fun w hS => ro_fieldAddr (k := 0) rfl fo_167_0) ?_
    refine ql_ro rfl (fun w hS => ro_loadB rfl sc_9 (Blk.of_heap h1 hS) (rfl)) ?_
    refine ql_ro rfl (fun w hS => ro_move rfl) ?_
    refine ql_ro rfl (fun w hS => ro_nilCheck rfl) ?_
    refine ql_ro rfl (fun w hS => ro_fieldAddr (k := 1) rfl fo_167_1) ?_
    refine ql_ro rfl (fun w hS => ro_loadB rfl sc_3 (Blk.of_heap h1 hS) (rfl)) ?_
    refine ql_ro rfl (fun w hS => ro_move rfl) ?_
    refine ql_ro rfl (fun w hS => ro_nilCheck rfl) ?_
    refine ql_ro rfl (fun w hS => ro_fieldAddr (k := 1) rfl fo_167_1) ?_
    refine ql_ro rfl (fun w hS => ro_loadB rfl sc_3 (Blk.of_heap h1 hS) (rfl)) ?_
    refine ql_ro rfl (fun w hS => ro_arith rfl rfl rfl (Go.IntWalk.i64_in _ (by omega))) ?_
    refine ql_ro rfl (fun w hS => (show RO _ _ _ _ _ (S [c]) from take1 hcp ▸ ro_sliceSLH (l := p) (h := p + 1) rfl rfl rfl st_9 rfl (by omega) (by omega) (by omega))) ?_
    refine ql_ro rfl (fun w hS => ro_catS rfl rfl (by simp; omega)) ?_
    refine ql_ro rfl (fun w hS => ro_nilCheck rfl) ?_
    refine ql_ro rfl (fun w hS => ro_fieldAddr (k := 2) rfl fo_167_2) ?_
    refine ql_last rfl (so_storeB rfl rfl rfl sz_9 (h1) (by simp)) ?_
    refine x_then (hK17 _ _ ?_)
    clear hK17 K17
    refine forget [(0, _), (6, _)] ⟨rfl, rfl, trivial⟩ (fun e => ?_)
    refine c_seq (fun K19 hK19 => ?_)
    have hz : Blk (w1.setRow rb [S s, i64c p, S (vAdd vs c), .bool bad0].toArray).heap rb [S s, i64c p, S (vAdd vs c), .bool bad0] 167 ∧ Fram (fun b => b = rb) w (w1.setRow rb [S s, i64c p, S (vAdd vs c), .bool bad0].toArray) := ⟨Blk.set h1 _, (F1.mono (fun _ _ h => h.elim)).thenSet (.inl rfl)⟩
    rw [hva] at hz
    refine gen2 (A := fun w2 => Blk w2.heap rb [S s, i64c p, S (vs ++ [c]), .bool bad0] 167) (B := fun w2 => Fram (fun b => b = rb) w w2) (C := fun w2 => WC _ _ _ _ w2) (Blk.set (w := { w1 with drawn := w1.drawn + 1 }) h1 [S s, i64c p, S (vs ++ [c]), .bool bad0]) (((F1.mono (fun _ _ h => h.elim)).thenDrew (k := w1.drawn + 1)).thenSet (.inl rfl)) ?_
    rw [← hva]
    clear hz
    intro w2 h2 F2
    refine c_reg ?_ -- region 8 progm.go:46
    refine wl (ro_move rfl) ?_
    refine wl (ro_nilCheck rfl) ?_
    refine wl (ro_fieldAddr (k := 1) rfl fo_167_1) ?_
    refine wl (ro_loadB rfl sc_3 (h2) (rfl)) ?_
    refine wl (ro_arith rfl rfl rfl (Go.IntWalk.i64_in _ (by omega))) ?_
    refine wl (ro_nilCheck rfl) ?_
    refine wl (ro_fieldAddr (k := 1) rfl fo_167_1) ?_
    refine wls (so_storeB rfl rfl rfl sz_3 (h2) (by simp)) ?_
    have h3 := Blk.set h2 [S s, i64c (p + 1), S (vAdd vs c), .bool bad0]
    have F3 : Fram (fun b => b = rb) w _ := F2.thenSet (b := rb) (cs := [S s, i64c (p + 1), S (vAdd vs c), .bool bad0].toArray) (.inl rfl)
    refine wl_nil (x_then (hK19 _ _ ?_))
    clear hK19 K19
    refine c_seq (fun K20 hK20 => ?_)
    refine c_seq (fun K21 hK21 => ?_)
    refine c_reg ?_ -- region 9 progm.go:47
    refine wl (ro_move rfl) ?_
    refine wl (ro_cmp rfl rfl rfl) ?_
    refine wl_nil (x_then (hK21 _ _ ?_))
    clear hK21 K21
    refine wc_cond rfl (fun hc80 => ?_) (fun hc80 => ?_)
    · try simp only [decide_eq_true_eq, decide_eq_false_iff_not, Bool.not_eq_true', Bool.not_eq_false', Bool.not_eq_eq_eq_not, Bool.not_true, Bool.not_false, beq_iff_eq, bne_iff_ne, ne_eq, beq_eq_false_iff_ne, bne_eq_false_iff_eq, gt_iff_lt, ge_iff_le, Int.not_lt, Int.not_le] at hc80
      have hk6 : 6 ≤ k := by omega
      refine c_seq (fun K22 hK22 => ?_)
      refine c_reg ?_ -- region 10 progm.go:48
      refine wl (ro_move rfl) ?_
      refine wl (ro_nilCheck rfl) ?_
      refine wl (ro_fieldAddr (k := 3) rfl fo_167_3) ?_
      refine wls (so_storeB rfl rfl rfl sz_4 (h3) (by simp)) ?_
      refine wl_nil (x_then (hK22 _ _ ?_))
      clear hK22 K22
      refine forget [] trivial (fun e => ?_)
      refine c_seq (fun K23 hK23 => ?_)
      refine c_reg ?_ -- region 11 progm.go:49
      refine wl (ro_assign rfl) ?_
      refine wl_nil (x_then (hK23 _ _ ?_))
      clear hK23 K23
      refine c_ret (x_thenR (x_thenR ?_))
      refine bp_ret Tryz.results95 rfl ?_
      refine ⟨[], p + 1, vAdd vs c, true, rfl, Blk.set h3 [S s, i64c (p + 1), S (vAdd vs c), .bool true], F3.thenSet (.inl rfl), by omega, by omega, by simp, by have := (vAdd_len vs c).2; omega, fun _ => rfl, fun hb => .inl ⟨rfl, ?_⟩⟩
      intro q hq
      rw [hspec] at hq
      cases hq
      simp only
      omega
    · try simp only [decide_eq_true_eq, decide_eq_false_iff_not, Bool.not_eq_true', Bool.not_eq_false', Bool.not_eq_eq_eq_not, Bool.not_true, Bool.not_false, beq_iff_eq, bne_iff_ne, ne_eq, beq_eq_false_iff_ne, bne_eq_false_iff_eq, gt_iff_lt, ge_iff_le, Int.not_lt, Int.not_le] at hc80
      refine c_skip (x_then (hK20 _ _ ?_))
      clear hK20 K20
      refine forget [(6, _)] ⟨rfl, trivial⟩ (fun e => ?_)
      refine c_seq (fun K24 hK24 => ?_)
      refine c_reg ?_ -- region 12 progm.go:51
      refine wl (ro_move rfl) ?_
      refine wl (ro_move rfl) ?_
      refine wl (ro_arith rfl rfl rfl (Go.IntWalk.i64_in _ (by omega))) ?_
      refine wl ((show RO _ _ _ _ _ (S [UInt8.ofNat (65 + k)]) from take1 (abcdef k (by omega)) ▸ ro_sliceSLH (s := [65, 66, 67, 68, 69, 70]) (l := k) (h := k + 1) rfl rfl rfl st_9 rfl (by omega) (by omega) (by simp; omega))) ?_
      refine wl (ro_assign rfl) ?_
      refine wl_nil (x_then (hK24 _ _ ?_))
      clear hK24 K24
      refine c_ret (x_thenR ?_)
      refine bp_ret Tryz.results95 rfl ?_
      refine ⟨[UInt8.ofNat (65 + k)], p + 1, vAdd vs c, bad0, rfl, h3, F3, by omega, by omega, by simp, by have := (vAdd_len vs c).2; omega, fun hb => hb, fun hb => .inr ⟨hb, _, hspec, hl6 hb (by omega), by rw [hidx], rfl, rfl, by omega⟩⟩

end Go.Proofs.Qxb6500569aGreat
