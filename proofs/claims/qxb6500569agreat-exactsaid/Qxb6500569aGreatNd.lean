import Derived.Test.Qxb6500569aGreatNc
/- The model's reader: goals. -/
namespace Go.Proofs.Qxb6500569aGreat
set_option linter.unusedVariables false
set_option linter.unusedSimpArgs false

theorem term95 {rb : Nat} {s : List UInt8} (hs : s.length ≤ 10000) : ∀ (f : Nat), f ≤ 10000 → ∀ (p : Nat) (vs : List UInt8) (bad0 top : Bool) (w : World), RdAt w rb s p vs bad0 → p ≤ 50000 → vs.length ≤ 50000 → (bad0 = false → vs.length ≤ 6) → (s.drop p).length < f → Ret Tryz.prog 95 [ptr rb, .bool top] w (TermOK f rb s p vs bad0 (mOf top) w)
  | 0, _ => fun p vs bad0 top w _ _ _ _ h => by omega
  | f + 1, hf => fun p vs bad0 top w h hp hvs hv6 hlt => by
    by_cases hu : isUp (pk (s.drop p)) = true ∧ top = false
    · obtain ⟨hu, rfl⟩ := hu
      exact term95v h (by omega) (by omega) (by omega) hv6 hu
    · exact term95c hs (by omega) (term95 hs f (by omega)) h hp hvs hv6 hlt (fun h => by cases top with | true => rfl | false => exact absurd ⟨h, rfl⟩ hu)

/-- One goal. -/
def pGoal (t vs : List UInt8) : Option PR4 := if pk t = 33 then some ⟨[33, 48], 0, t.tail, vs⟩ else Px 1 t vs

def pG : Nat → List UInt8 → List UInt8 → Option PR4
  | 0, _, _ => none
  | f + 1, t, vs => (pGoal t vs).bind (fun r => if pk r.rest = 44 then (pG f r.rest.tail r.vs).map (fun q => ⟨r.code ++ q.code, q.n + 1, q.rest, q.vs⟩) else some ⟨r.code, 1, r.rest, r.vs⟩)

theorem pGoal_rest {t vs : List UInt8} {r : PR4} (h : pGoal t vs = some r) : r.rest.length < t.length ∧ vs.length ≤ r.vs.length := by
  unfold pGoal at h
  split at h
  · rename_i h33
    cases h
    have := tail_len h33 (by decide)
    exact ⟨by simp only; omega, Nat.le_refl _⟩
  · exact ⟨Px_rest h, Px_vs h⟩

theorem pG_fuel : ∀ (f g : Nat) (t vs : List UInt8), t.length < f → t.length < g → pG f t vs = pG g t vs
  | 0, g, t, vs, h, _ => by omega
  | f + 1, 0, t, vs, _, h => by omega
  | f + 1, g + 1, t, vs, hf, hg => by
    simp only [pG]
    cases hq : pGoal t vs with
    | none => rfl
    | some q =>
      have h1 := (pGoal_rest hq).1
      simp only [Option.bind_some]
      split
      · rename_i h44
        have h2 := tail_len h44 (by decide)
        rw [pG_fuel f g q.rest.tail q.vs (by omega) (by omega)]
      · rfl

def PG (t vs : List UInt8) : Option PR4 := pG (t.length + 1) t vs

theorem PG_eq (t vs : List UInt8) : PG t vs = (pGoal t vs).bind (fun r => if pk r.rest = 44 then (PG r.rest.tail r.vs).map (fun q => ⟨r.code ++ q.code, q.n + 1, q.rest, q.vs⟩) else some ⟨r.code, 1, r.rest, r.vs⟩) := by
  show (pGoal t vs).bind (fun r => if pk r.rest = 44 then (pG t.length r.rest.tail r.vs).map (fun q => (⟨r.code ++ q.code, q.n + 1, q.rest, q.vs⟩ : PR4)) else some ⟨r.code, 1, r.rest, r.vs⟩) = _
  cases hq : pGoal t vs with
  | none => rfl
  | some q =>
    have h1 := (pGoal_rest hq).1
    simp only [Option.bind_some]
    split
    · rename_i h44
      have h2 := tail_len h44 (by decide)
      rw [pG_fuel t.length (q.rest.tail.length + 1) q.rest.tail q.vs (by omega) (by omega)]
      rfl
    · rfl

theorem pG_vs : ∀ (f : Nat) (t vs : List UInt8) (r : PR4), pG f t vs = some r → vs.length ≤ r.vs.length
  | 0, t, vs, r, h => by simp [pG] at h
  | f + 1, t, vs, r, h => by
    simp only [pG] at h
    cases hq : pGoal t vs with
    | none => rw [hq] at h; cases h
    | some q =>
      have h1 := (pGoal_rest hq).2
      rw [hq] at h
      simp only [Option.bind_some] at h
      split at h
      · cases hz : pG f q.rest.tail q.vs with
        | none => rw [hz] at h; cases h
        | some z =>
          have := pG_vs f _ _ z hz
          rw [hz] at h; cases h
          simp only; omega
      · cases h; exact h1

def BadG (t vs : List UInt8) : Prop := ∀ r, PG t vs = some r → 6 < r.vs.length

def GoalsOK (rb : Nat) (s : List UInt8) (p : Nat) (vs : List UInt8) (bad0 : Bool) (w : World) (r : Value) (w' : World) : Prop :=
  ∃ out n p' vs' bad', r = .tuple #[S out, i64c n] ∧ RdAt w' rb s p' vs' bad' ∧ Fram (fun b => b = rb) w w' ∧ p' ≤ 40000 ∧ out.length ≤ 100000 ∧ 1 ≤ n ∧ n ≤ 40000 ∧ (bad0 = true → bad' = true) ∧
    (bad0 = false → (bad' = true ∧ BadG (s.drop p) vs) ∨ (bad' = false ∧ ∃ q, PG (s.drop p) vs = some q ∧ q.vs.length ≤ 6 ∧ out = q.code ∧ n = q.n ∧ s.drop p' = q.rest ∧ vs' = q.vs ∧ p' ≤ s.length))

/-- Ahead of a goal: what the reading of all comes to. -/
def GInv (T0 vs : List UInt8) (n : Nat) (out t1 vs1 : List UInt8) : Prop := PG T0 vs = (PG t1 vs1).map (fun q => ⟨out ++ q.code, q.n + n, q.rest, q.vs⟩)

theorem badG_of {T0 vs out t1 vs1 : List UInt8} {n : Nat} (h : GInv T0 vs n out t1 vs1) (hb : ∀ r, pGoal t1 vs1 = some r → 6 < r.vs.length) : BadG T0 vs := by
  intro r hr
  rw [h, PG_eq] at hr
  cases hq : pGoal t1 vs1 with
  | none => rw [hq] at hr; cases hr
  | some q =>
    have h6 := hb q hq
    rw [hq] at hr
    simp only [Option.bind_some] at hr
    split at hr
    · cases hz : PG q.rest.tail q.vs with
      | none => rw [hz] at hr; cases hr
      | some z =>
        have := pG_vs _ _ _ z hz
        rw [hz] at hr; cases hr
        simp only; omega
    · cases hr; exact h6

set_option maxHeartbeats 1600000 in
theorem goals97 {rb : Nat} {s : List UInt8} (hs : s.length ≤ 1000) {p : Nat} {vs : List UInt8} {bad0 : Bool} {w : World} (h : RdAt w rb s p vs bad0) (hp : p ≤ 5000) (hvs : vs.length ≤ 5000) (hv6 : bad0 = false → vs.length ≤ 6) :
    Ret Tryz.prog 97 [ptr rb] w (GoalsOK rb s p vs bad0 w) := by
  refine ret_of Tryz.func97 rfl Tryz.ntmps97 rfl ?_
  refine c_seq (fun K1 hK1 => ?_)
  refine c_reg ?_ -- region 0 progm.go:83
  refine wl (ro_assign rfl) ?_
  refine wl (ro_assign rfl) ?_
  refine wl_nil (x_then (hK1 _ _ ?_))
  clear hK1 K1
  refine forget [(0, _)] ⟨rfl, trivial⟩ (fun e => ?_)
  refine c_seq (fun K2 hK2 => ?_)
  refine c_reg ?_ -- region 1 progm.go:84
  refine wl (ro_assign rfl) ?_
  refine wl_nil (x_then (hK2 _ _ ?_))
  clear hK2 K2
  refine forget [(0, _), (4, _)] ⟨rfl, rfl, trivial⟩ (fun e => ?_)
  refine c_seq (fun K3 hK3 => ?_)
  refine c_reg ?_ -- region 2 progm.go:85
  refine wl (ro_assign rfl) ?_
  refine wl_nil (x_then (hK3 _ _ ?_))
  clear hK3 K3
  refine c_block ?_
  -- loop@r3: live slots [0, 4, 5]
  refine c_loopG (fun m a' w' => ∃ n p1 out vs1, m = (s.drop p1).length ∧ RdAt w' rb s p1 vs1 bad0 ∧ Fram (fun b => b = rb) w w' ∧ p1 ≤ max p s.length ∧ out.length ≤ 20000 + 3 * p1 ∧ vs1.length ≤ 5000 + p1 ∧ n ≤ p1 ∧ (bad0 = true → p1 = p ∧ n = 0) ∧ (bad0 = false → vs1.length ≤ 6 ∧ GInv (s.drop p) vs n out (s.drop p1) vs1) ∧ ∃ e, a' = Fr 44 (upds e [(0, ptr rb), (4, S out), (5, i64c n)]) []) (s.drop p).length ⟨0, p, [], vs, rfl, h, Fram.refl _ _, by omega, by simp, by omega, by omega, fun _ => ⟨rfl, rfl⟩, fun hb => ⟨hv6 hb, by unfold GInv; cases PG (s.drop p) vs <;> simp⟩, kp _ ⟨rfl, rfl, rfl, trivial⟩⟩ ?_
  rintro m a' w1 ⟨n, p1, out, vs1, rfl, h1, F1, b1, b2, b3, b4, b5, b6, e, rfl⟩
  have hdl : (s.drop p1).length = s.length - p1 := by simp
  refine c_block ?_
  refine c_mid (fun a' w' => ∃ p2 out2 vs2 bad2, RdAt w' rb s p2 vs2 bad2 ∧ Fram (fun b => b = rb) w w' ∧ p1 ≤ p2 ∧ p2 ≤ max p s.length + (s.length + 2) ∧ out2.length ≤ 2 * (p2 - p1) ∧ vs2.length ≤ vs1.length + (p2 - p1) ∧ (bad0 = true → bad2 = true) ∧ (bad0 = false → (bad2 = true ∧ ∀ r, pGoal (s.drop p1) vs1 = some r → 6 < r.vs.length) ∨ (bad2 = false ∧ ∃ q, pGoal (s.drop p1) vs1 = some q ∧ q.vs.length ≤ 6 ∧ out2 = q.code ∧ s.drop p2 = q.rest ∧ vs2 = q.vs ∧ p2 ≤ s.length)) ∧ ∃ e, a' = Fr 44 (upds e [(0, ptr rb), (4, S (out ++ out2)), (5, i64c n)]) []) ?_ ?_
  · skip
    refine c_seq (fun K4 hK4 => ?_)
    refine c_reg ?_ -- region 3 progm.go:87
    refine wl (ro_move rfl) ?_
    refine wl_call rfl en_96 (peek96 h1 (by omega) (by omega)) ?_
    rintro _ w2 ⟨rfl, F2⟩
    have h2 : RdAt w2 rb s p1 vs1 bad0 := Blk.fram h1 F2 (fun h => h)
    have F3 : Fram (fun b => b = rb) w w2 := F1.trans (F2.mono (fun _ _ h => h.elim))
    clear h1 F1 F2
    refine wl (ro_cmp (r := decide (pk (s.drop p1) = 33)) rfl rfl (congrArg some (beqb _ 33))) ?_
    refine wl_nil (x_then (hK4 _ _ ?_))
    clear hK4 K4
    refine wc_cond rfl (fun hc9 => ?_) (fun hc9 => ?_)
    · try simp only [decide_eq_true_eq, decide_eq_false_iff_not, Bool.not_eq_true', Bool.not_eq_false', Bool.not_eq_eq_eq_not, Bool.not_true, Bool.not_false, beq_iff_eq, bne_iff_ne, ne_eq, beq_eq_false_iff_ne, bne_eq_false_iff_eq, gt_iff_lt, ge_iff_le, Int.not_lt, Int.not_le] at hc9
      have h33 : pk (s.drop p1) = 33 := by simpa using hc9
      have hpl := (pk_lt h33 (by decide)).1
      unfold RdAt at h2
      refine c_seq (fun K5 hK5 => ?_)
      refine c_reg ?_ -- region 4 progm.go:88
      refine wl (ro_move rfl) ?_
      refine wl (ro_nilCheck rfl) ?_
      refine wl (ro_fieldAddr (k := 1) rfl fo_167_1) ?_
      refine wl (ro_loadB rfl sc_3 (h2) (rfl)) ?_
      refine wl (ro_arith rfl rfl rfl (Go.IntWalk.i64_in _ (by omega))) ?_
      refine wl (ro_nilCheck rfl) ?_
      refine wl (ro_fieldAddr (k := 1) rfl fo_167_1) ?_
      refine wls (so_storeB rfl rfl rfl sz_3 (h2) (by simp)) ?_
      have h3 := Blk.set h2 [S s, i64c (p1 + 1), S vs1, .bool bad0]
      have F4 : Fram (fun b => b = rb) w _ := F3.thenSet (b := rb) (cs := [S s, i64c (p1 + 1), S vs1, .bool bad0].toArray) (.inl rfl)
      refine wl_nil (x_then (hK5 _ _ ?_))
      clear hK5 K5
      refine c_reg ?_ -- region 5 progm.go:89
      refine wl (ro_move rfl) ?_
      refine wl (ro_catS rfl rfl (by simp; omega)) ?_
      refine wl (ro_assign rfl) ?_
      refine wl_nil (x_then ?_)
      refine ⟨p1 + 1, [33, 48], vs1, bad0, h3, F4, by omega, by omega, by simp, by omega, fun h => h, fun hb => .inr ⟨hb, ⟨[33, 48], 0, s.drop (p1 + 1), vs1⟩, ?_, (b6 hb).1, rfl, rfl, rfl, by omega⟩, kp _ ⟨rfl, rfl, rfl, trivial⟩⟩
      unfold pGoal
      rw [if_pos h33, drop1]
    · try simp only [decide_eq_true_eq, decide_eq_false_iff_not, Bool.not_eq_true', Bool.not_eq_false', Bool.not_eq_eq_eq_not, Bool.not_true, Bool.not_false, beq_iff_eq, bne_iff_ne, ne_eq, beq_eq_false_iff_ne, bne_eq_false_iff_eq, gt_iff_lt, ge_iff_le, Int.not_lt, Int.not_le] at hc9
      have h33 : ¬ pk (s.drop p1) = 33 := by simpa using hc9
      have hv61 : bad0 = false → vs1.length ≤ 6 := fun hb => (b6 hb).1
      refine c_seq (fun K6 hK6 => ?_)
      refine c_reg ?_ -- region 6 progm.go:91
      refine wl (ro_move rfl) ?_
      refine wl_call rfl en_95 (term95 (by omega) (s.length + 1) (by omega) p1 vs1 bad0 true w2 h2 (by omega) (by omega) hv61 (by omega)) ?_
      rintro _ w4 ⟨out2, p2, vs2, bad2, rfl, h4, F4, d1, d2, d3, d4, d5, d6⟩
      have F5 := F3.trans F4
      refine wl (ro_assign rfl) ?_
      refine wl_nil (x_then (hK6 _ _ ?_))
      clear hK6 K6
      refine c_reg ?_ -- region 7 progm.go:92
      refine wl (ro_move rfl) ?_
      refine wl (ro_move rfl) ?_
      refine wl (ro_catS rfl rfl (by omega)) ?_
      refine wl (ro_assign rfl) ?_
      refine wl_nil (x_then ?_)
      refine ⟨p2, out2, vs2, bad2, h4, F5, d1, by omega, d3, d4, d5, ?_, kp _ ⟨rfl, rfl, rfl, trivial⟩⟩
      have hg : pGoal (s.drop p1) vs1 = Px 1 (s.drop p1) vs1 := by unfold pGoal; rw [if_neg h33]
      rw [hg]
      exact d6
  rintro a' w4 ⟨p2, out2, vs2, bad2, h4, F4, c1, c2, c3, c4, c5, c6, e, rfl⟩
  refine c_seq (fun K7 hK7 => ?_)
  refine c_reg ?_ -- region 8 progm.go:94
  refine wl (ro_move rfl) ?_
  refine wl (ro_arith rfl rfl rfl (Go.IntWalk.i64_in _ (by omega))) ?_
  refine wl (ro_assign rfl) ?_
  refine wl_nil (x_then (hK7 _ _ ?_))
  clear hK7 K7
  refine c_seq (fun K8 hK8 => ?_)
  refine c_seq (fun K9 hK9 => ?_)
  cases bad2
  · skip
    unfold RdAt at h4
    refine c_reg ?_ -- region 9 progm.go:95
    refine wl (ro_move rfl) ?_
    refine wl (ro_nilCheck rfl) ?_
    refine wl (ro_fieldAddr (k := 3) rfl fo_167_3) ?_
    refine wl (ro_loadB rfl sc_4 (h4) (rfl)) ?_
    refine wl (ro_move rfl) ?_
    refine wlg_yes rfl (ro_move rfl) ?_
    refine wlg_call rfl rfl en_96 (peek96 h4 (by omega) (by omega)) ?_
    rintro _ w5 ⟨rfl, F5⟩
    have h5 := Blk.fram h4 F5 (fun h => h)
    have F6 : Fram (fun b => b = rb) w w5 := F4.trans (F5.mono (fun _ _ h => h.elim))
    refine wlg_yes rfl (ro_cmp (r := decide (pk (s.drop p2) ≠ 44)) rfl rfl (congrArg some (by have := beqb (pk (s.drop p2)) 44; simp [bne] at this ⊢; rw [this]))) ?_
    refine wl (ro_pick rfl rfl rfl) ?_
    refine wl_nil (x_then (hK9 _ _ ?_))
    clear hK9 K9
    refine wc_cond rfl (fun hc34 => ?_) (fun hc34 => ?_)
    · try simp only [decide_eq_true_eq, decide_eq_false_iff_not, Bool.not_eq_true', Bool.not_eq_false', Bool.not_eq_eq_eq_not, Bool.not_true, Bool.not_false, beq_iff_eq, bne_iff_ne, ne_eq, beq_eq_false_iff_ne, bne_eq_false_iff_eq, gt_iff_lt, ge_iff_le, Int.not_lt, Int.not_le] at hc34
      have h44 : pk (s.drop p2) ≠ 44 := by simpa using hc34
      have hb0 : bad0 = false := by cases bad0 with | false => rfl | true => cases c5 rfl
      refine c_seq (fun K10 hK10 => ?_)
      refine c_reg ?_ -- region 10 progm.go:96
      refine wl (ro_move rfl) ?_
      refine wl (ro_move rfl) ?_
      refine wl (ro_assign rfl) ?_
      refine wl (ro_assign rfl) ?_
      refine wl_nil (x_then (hK10 _ _ ?_))
      clear hK10 K10
      refine c_ret (x_thenR (x_blkR (x_thenR (x_blkR ?_))))
      refine bp_ret Tryz.results97 rfl ?_
      refine ⟨out ++ out2, n + 1, p2, vs2, false, rfl, h5, F6, by omega, by simp; omega, by omega, by omega, (fun hb => by rw [hb0] at hb; cases hb), fun hb => .inr ⟨rfl, ?_⟩⟩
      rcases c6 hb with ⟨hx, _⟩ | ⟨_, q, e1, e2, e3, e4, e5, e6⟩
      · cases hx
      · have hG := (b6 hb).2
        unfold GInv at hG
        rw [PG_eq (s.drop p1) vs1, e1] at hG
        simp only [Option.bind_some] at hG
        rw [← e4, if_neg h44] at hG
        exact ⟨_, hG, by simpa using e2, by simp [e3], by simp; omega, rfl, by simp [e5], e6⟩
    · try simp only [decide_eq_true_eq, decide_eq_false_iff_not, Bool.not_eq_true', Bool.not_eq_false', Bool.not_eq_eq_eq_not, Bool.not_true, Bool.not_false, beq_iff_eq, bne_iff_ne, ne_eq, beq_eq_false_iff_ne, bne_eq_false_iff_eq, gt_iff_lt, ge_iff_le, Int.not_lt, Int.not_le] at hc34
      have h44 : pk (s.drop p2) = 44 := by simpa using hc34
      have hb0 : bad0 = false := by cases bad0 with | false => rfl | true => cases c5 rfl
      have hpl := (pk_lt h44 (by decide)).1
      refine c_skip (x_then (hK8 _ _ ?_))
      clear hK8 K8
      refine c_reg ?_ -- region 11 progm.go:98
      refine wl (ro_move rfl) ?_
      refine wl (ro_nilCheck rfl) ?_
      refine wl (ro_fieldAddr (k := 1) rfl fo_167_1) ?_
      refine wl (ro_loadB rfl sc_3 (h5) (rfl)) ?_
      refine wl (ro_arith rfl rfl rfl (Go.IntWalk.i64_in _ (by omega))) ?_
      refine wl (ro_nilCheck rfl) ?_
      refine wl (ro_fieldAddr (k := 1) rfl fo_167_1) ?_
      refine wls (so_storeB rfl rfl rfl sz_3 (h5) (by simp)) ?_
      have h6 := Blk.set h5 [S s, i64c (p2 + 1), S vs2, .bool false]
      have F7 : Fram (fun b => b = rb) w _ := F6.thenSet (b := rb) (cs := [S s, i64c (p2 + 1), S vs2, .bool false].toArray) (.inl rfl)
      refine wl_nil (x_blk (x_then ?_))
      refine ⟨(s.drop (p2 + 1)).length, by simp; omega, n + 1, p2 + 1, out ++ out2, vs2, rfl, by rw [hb0]; exact h6, F7, by omega, by simp; omega, by omega, by omega, (fun hb => by rw [hb0] at hb; cases hb), ?_, kp _ ⟨rfl, rfl, rfl, trivial⟩⟩
      intro hb
      rcases c6 hb with ⟨hx, _⟩ | ⟨_, q, e1, e2, e3, e4, e5, e6⟩
      · cases hx
      · refine ⟨by rw [e5]; exact e2, ?_⟩
        have hG := (b6 hb).2
        unfold GInv at hG ⊢
        rw [PG_eq (s.drop p1) vs1, e1] at hG
        simp only [Option.bind_some] at hG
        rw [← e4, if_pos h44, drop1, ← e5, ← e3] at hG
        rw [hG]
        cases PG (s.drop (p2 + 1)) vs2 with
        | none => rfl
        | some z => simp; omega
  · skip
    unfold RdAt at h4
    refine c_reg ?_ -- region 9 progm.go:95
    refine wl (ro_move rfl) ?_
    refine wl (ro_nilCheck rfl) ?_
    refine wl (ro_fieldAddr (k := 3) rfl fo_167_3) ?_
    refine wl (ro_loadB rfl sc_4 (h4) (rfl)) ?_
    refine wl (ro_move rfl) ?_
    refine wlg_no rfl ?_
    refine wlg_no rfl ?_
    refine wlg_no rfl ?_
    refine wl (ro_pick rfl rfl rfl) ?_
    refine wl_nil (x_then (hK9 _ _ ?_))
    clear hK9 K9
    refine wc_condT rfl ?_
    refine c_seq (fun K11 hK11 => ?_)
    refine c_reg ?_ -- region 10 progm.go:96
    refine wl (ro_move rfl) ?_
    refine wl (ro_move rfl) ?_
    refine wl (ro_assign rfl) ?_
    refine wl (ro_assign rfl) ?_
    refine wl_nil (x_then (hK11 _ _ ?_))
    clear hK11 K11
    refine c_ret (x_thenR (x_blkR (x_thenR (x_blkR ?_))))
    refine bp_ret Tryz.results97 rfl ?_
    refine ⟨out ++ out2, n + 1, p2, vs2, true, rfl, h4, F4, by omega, by simp; omega, by omega, by omega, fun _ => rfl, fun hb => .inl ⟨rfl, ?_⟩⟩
    rcases c6 hb with ⟨_, hx⟩ | ⟨hx, _⟩
    · exact badG_of (b6 hb).2 hx
    · cases hx

end Go.Proofs.Qxb6500569aGreat
