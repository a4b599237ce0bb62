import Derived.Test.Qxb6500569aGreatNb
/- The model's reader: a call. -/
namespace Go.Proofs.Qxb6500569aGreat
set_option linter.unusedVariables false
set_option linter.unusedSimpArgs false

/-- Behind n arguments (n at least 1): what the reading of all of them comes to. -/
def ArgInv (T0 vs : List UInt8) (n : Nat) (out t1 vs1 : List UInt8) : Prop :=
  (n ≤ 3 ∧ Px 2 T0 vs = if pk t1 = 44 then (Px (n + 2) t1.tail vs1).map (fun q => ⟨out ++ q.code, q.n, q.rest, q.vs⟩) else some ⟨out, n, t1, vs1⟩) ∨ (3 < n ∧ Px 2 T0 vs = none)

theorem argInv_first {T0 vs : List UInt8} {q : PR4} (h : Px 0 T0 vs = some q) : ArgInv T0 vs 1 ([] ++ q.code) q.rest q.vs := by
  refine .inl ⟨by omega, ?_⟩
  rw [Px2 0, h]
  simp

theorem argInv_next {T0 vs out t1 vs1 : List UInt8} {n : Nat} {q : PR4} (h : ArgInv T0 vs n out t1 vs1) (h44 : pk t1 = 44) (hq : Px 0 t1.tail vs1 = some q) : ArgInv T0 vs (n + 1) (out ++ q.code) q.rest q.vs := by
  rcases h with ⟨hn, h⟩ | ⟨hn, h⟩
  · rw [if_pos h44, Px2 n, hq] at h
    simp only [Option.bind_some] at h
    by_cases h3 : 3 < n + 1
    · rw [if_pos h3] at h
      exact .inr ⟨h3, h⟩
    · rw [if_neg h3] at h
      refine .inl ⟨by omega, ?_⟩
      rw [h]
      split
      · cases Px (n + 3) q.rest.tail q.vs <;> simp
      · simp
  · exact .inr ⟨by omega, h⟩

theorem badS_next {T0 vs out t1 vs1 : List UInt8} {n : Nat} (h : ArgInv T0 vs n out t1 vs1) (h44 : pk t1 = 44) (hq : BadS 0 t1.tail vs1) : BadS 2 T0 vs := by
  intro r hr
  rcases h with ⟨hn, h⟩ | ⟨hn, h⟩
  · rw [if_pos h44, Px2 n] at h
    cases hx : Px 0 t1.tail vs1 with
    | none => rw [hx] at h; simp at h; rw [h] at hr; cases hr
    | some q =>
      have h6 := hq q hx
      rw [hx] at h
      simp only [Option.bind_some] at h
      split at h
      · simp at h; rw [h] at hr; cases hr
      · split at h
        · cases hz : Px (n + 3) q.rest.tail q.vs with
          | none => rw [hz] at h; simp at h; rw [h] at hr; cases hr
          | some z =>
            have := Px_vs hz
            rw [hz] at h
            simp at h
            rw [h] at hr
            cases hr
            simp only; omega
        · simp at h
          rw [h] at hr
          cases hr
          exact h6
  · rw [h] at hr; cases hr

theorem badS_first {T0 vs : List UInt8} (hq : BadS 0 T0 vs) : BadS 2 T0 vs := by
  intro r hr
  rw [Px2 0] at hr
  cases hx : Px 0 T0 vs with
  | none => rw [hx] at hr; cases hr
  | some q =>
    have h6 := hq q hx
    rw [hx] at hr
    simp only [Option.bind_some] at hr
    split at hr
    · cases hr
    · split at hr
      · cases hz : Px 3 q.rest.tail q.vs with
        | none => rw [hz] at hr; cases hr
        | some z =>
          have := Px_vs hz
          rw [hz] at hr
          cases hr
          simp only; omega
      · cases hr; exact h6

def mOf (top : Bool) : Nat := if top then 1 else 0

theorem Px_call {top : Bool} {t vs : List UInt8} (h : isUp (pk t) = true → top = true) : Px (mOf top) t vs = Px 1 t vs := by
  cases top with
  | true => rfl
  | false =>
    show Px 0 t vs = _
    rw [Px0, if_neg (fun hu => by cases h hu)]

theorem d0123 (k : Nat) (h : k ≤ 3) : ([48, 49, 50, 51] : List UInt8)[k]? = some (UInt8.ofNat (48 + k)) := by
  match k, h with | 0, _ | 1, _ | 2, _ | 3, _ => rfl

set_option maxHeartbeats 1600000 in
theorem term95c {f rb : Nat} {s : List UInt8} (hs : s.length ≤ 10000) (hf0 : f ≤ 10000) (IH : ∀ (p : Nat) (vs : List UInt8) (bad0 top : Bool) (w : World), RdAt w rb s p vs bad0 → p ≤ 50000 → vs.length ≤ 50000 → (bad0 = false → vs.length ≤ 6) → (s.drop p).length < f → Ret Tryz.prog 95 [ptr rb, .bool top] w (TermOK f rb s p vs bad0 (mOf top) w))
    {p : Nat} {vs : List UInt8} {bad0 top : Bool} {w : World} (h : RdAt w rb s p vs bad0) (hp : p ≤ 50000) (hvs : vs.length ≤ 50000) (hv6 : bad0 = false → vs.length ≤ 6) (hf : (s.drop p).length < f + 1) (hnu : isUp (pk (s.drop p)) = true → top = true) :
    Ret Tryz.prog 95 [ptr rb, .bool top] w (TermOK (f + 1) rb s p vs bad0 (mOf top) w) := by
  obtain ⟨c, hc⟩ : ∃ c, c = pk (s.drop p) := ⟨_, rfl⟩
  rw [← hc] at hnu
  have hsp : Px (mOf top) (s.drop p) vs = Px 1 (s.drop p) vs := Px_call (by rw [← hc]; exact hnu)
  have hsp1 := Px1 (s.drop p) vs
  rw [← hc, drop1, drop1] at hsp1
  have hc256 : c.toNat < 256 := c.toNat_lt
  refine ret_of Tryz.func95 rfl Tryz.ntmps95 rfl ?_
  refine c_seq (fun K1 hK1 => ?_)
  refine c_reg ?_ -- region 0 progm.go:36
  refine wl (ro_assign rfl) ?_
  refine wl_nil (x_then (hK1 _ _ ?_))
  clear hK1 K1
  refine forget [(0, _), (1, _)] ⟨rfl, rfl, trivial⟩ (fun e => ?_)
  refine c_seq (fun K2 hK2 => ?_)
  refine c_reg ?_ -- region 1 progm.go:37
  refine wl (ro_move rfl) ?_
  refine wl_call rfl en_96 (peek96 h (by omega) (by omega)) ?_
  rintro _ w1 ⟨rfl, F1⟩
  rw [← hc]
  have h1 : RdAt w1 rb s p vs bad0 := Blk.fram h F1 (fun h => h)
  refine wl (ro_assign rfl) ?_
  refine wl_nil (x_then (hK2 _ _ ?_))
  clear hK2 K2
  refine c_mid (fun a' w' => w' = w1 ∧ ∃ e, a' = Fr 172 (upds e [(0, ptr rb), (5, u8c c)]) []) ?_ ?_
  · skip
    refine c_seq (fun K3 hK3 => ?_)
    rcases (show isUp c = true ∨ (65 ≤ c.toNat ∧ 90 < c.toNat) ∨ c.toNat < 65 by { by_cases g1 : 65 ≤ c.toNat; by_cases g2 : c.toNat ≤ 90; exact .inl (by simp [isUp, g1, g2]); exact .inr (.inl (by omega)); exact .inr (.inr (by omega)) }) with hq | hq | hq
    · skip
      have htop := hnu hq
      subst htop
      have hcr : 65 ≤ c.toNat ∧ c.toNat ≤ 90 := by simpa [isUp] using hq
      refine c_reg ?_ -- region 2 progm.go:38
      refine wl (ro_move rfl) ?_
      refine wl (ro_cmp (r := true) rfl rfl (by simp; omega)) ?_
      refine wl (ro_move rfl) ?_
      refine wlg_yes rfl (ro_move rfl) ?_
      refine wlg_yes rfl (ro_cmp (r := true) rfl rfl (by simp; omega)) ?_
      refine wl (ro_pick rfl rfl rfl) ?_
      refine wl (ro_move rfl) ?_
      refine wlg_yes rfl (ro_move rfl) ?_
      refine wlg_yes rfl (ro_not rfl) ?_
      refine wl (ro_pick rfl rfl rfl) ?_
      refine wl_nil (x_then (hK3 _ _ ?_))
      clear hK3 K3
      refine wc_condF rfl ?_
      refine c_skip (x_then ?_)
      exact ⟨rfl, kp _ ⟨rfl, rfl, trivial⟩⟩
    · skip
      refine c_reg ?_ -- region 2 progm.go:38
      refine wl (ro_move rfl) ?_
      refine wl (ro_cmp (r := true) rfl rfl (by simp; omega)) ?_
      refine wl (ro_move rfl) ?_
      refine wlg_yes rfl (ro_move rfl) ?_
      refine wlg_yes rfl (ro_cmp (r := false) rfl rfl (by simp; omega)) ?_
      refine wl (ro_pick rfl rfl rfl) ?_
      refine wl (ro_move rfl) ?_
      refine wlg_no rfl ?_
      refine wlg_no rfl ?_
      refine wl (ro_pick rfl rfl rfl) ?_
      refine wl_nil (x_then (hK3 _ _ ?_))
      clear hK3 K3
      refine wc_condF rfl ?_
      refine c_skip (x_then ?_)
      exact ⟨rfl, kp _ ⟨rfl, rfl, trivial⟩⟩
    · skip
      refine c_reg ?_ -- region 2 progm.go:38
      refine wl (ro_move rfl) ?_
      refine wl (ro_cmp (r := false) rfl rfl (by simp; omega)) ?_
      refine wl (ro_move rfl) ?_
      refine wlg_no rfl ?_
      refine wlg_no rfl ?_
      refine wl (ro_pick rfl rfl rfl) ?_
      refine wl (ro_move rfl) ?_
      refine wlg_no rfl ?_
      refine wlg_no rfl ?_
      refine wl (ro_pick rfl rfl rfl) ?_
      refine wl_nil (x_then (hK3 _ _ ?_))
      clear hK3 K3
      refine wc_condF rfl ?_
      refine c_skip (x_then ?_)
      exact ⟨rfl, kp _ ⟨rfl, rfl, trivial⟩⟩
  rintro a' w1 ⟨rfl, e, rfl⟩
  refine c_seq (fun K4 hK4 => ?_)
  refine c_seq (fun K5 hK5 => ?_)
  rcases (show c.toNat < 97 ∨ 122 < c.toNat ∨ isLo c = true by { by_cases g1 : 97 ≤ c.toNat; by_cases g2 : c.toNat ≤ 122; exact .inr (.inr (by simp [isLo, g1, g2])); exact .inr (.inl (by omega)); exact .inl (by omega) }) with hq | hq | hq
  · skip
    have hnl : isLo c = false := by simp [isLo]; omega
    refine c_reg ?_ -- region 13 progm.go:53
    refine wl (ro_move rfl) ?_
    refine wl (ro_cmp (r := true) rfl rfl (by simp; omega)) ?_
    refine wl (ro_move rfl) ?_
    refine wlg_no rfl ?_
    refine wlg_no rfl ?_
    refine wl (ro_pick rfl rfl rfl) ?_
    refine wl_nil (x_then (hK5 _ _ ?_))
    clear hK5 K5
    refine wc_condT rfl ?_
    refine c_seq (fun K6 hK6 => ?_)
    refine c_reg ?_ -- region 14 progm.go:54
    refine wl (ro_move rfl) ?_
    refine wl (ro_nilCheck rfl) ?_
    refine wl (ro_fieldAddr (k := 3) rfl fo_167_3) ?_
    refine wls (so_storeB rfl rfl rfl sz_4 (h1) (by simp)) ?_
    refine wl_nil (x_then (hK6 _ _ ?_))
    clear hK6 K6
    refine forget [] trivial (fun e => ?_)
    refine c_seq (fun K7 hK7 => ?_)
    refine c_reg ?_ -- region 15 progm.go:55
    refine wl (ro_assign rfl) ?_
    refine wl_nil (x_then (hK7 _ _ ?_))
    clear hK7 K7
    refine c_ret (x_thenR ?_)
    refine bp_ret Tryz.results95 rfl ?_
    refine ⟨[], p, vs, true, rfl, Blk.set h1 [S s, i64c p, S vs, .bool true], (F1.mono (fun _ _ h => h.elim)).thenSet (.inl rfl), by omega, by omega, by simp, by omega, fun _ => rfl, fun hb => .inl ⟨rfl, ?_⟩⟩
    intro q hq
    rw [hsp, hsp1, if_neg (by rw [hnl]; simp)] at hq
    cases hq
  · skip
    have hnl : isLo c = false := by simp [isLo]; omega
    refine c_reg ?_ -- region 13 progm.go:53
    refine wl (ro_move rfl) ?_
    refine wl (ro_cmp (r := false) rfl rfl (by simp; omega)) ?_
    refine wl (ro_move rfl) ?_
    refine wlg_yes rfl (ro_move rfl) ?_
    refine wlg_yes rfl (ro_cmp (r := true) rfl rfl (by simp; omega)) ?_
    refine wl (ro_pick rfl rfl rfl) ?_
    refine wl_nil (x_then (hK5 _ _ ?_))
    clear hK5 K5
    refine wc_condT rfl ?_
    refine c_seq (fun K8 hK8 => ?_)
    refine c_reg ?_ -- region 14 progm.go:54
    refine wl (ro_move rfl) ?_
    refine wl (ro_nilCheck rfl) ?_
    refine wl (ro_fieldAddr (k := 3) rfl fo_167_3) ?_
    refine wls (so_storeB rfl rfl rfl sz_4 (h1) (by simp)) ?_
    refine wl_nil (x_then (hK8 _ _ ?_))
    clear hK8 K8
    refine forget [] trivial (fun e => ?_)
    refine c_seq (fun K9 hK9 => ?_)
    refine c_reg ?_ -- region 15 progm.go:55
    refine wl (ro_assign rfl) ?_
    refine wl_nil (x_then (hK9 _ _ ?_))
    clear hK9 K9
    refine c_ret (x_thenR ?_)
    refine bp_ret Tryz.results95 rfl ?_
    refine ⟨[], p, vs, true, rfl, Blk.set h1 [S s, i64c p, S vs, .bool true], (F1.mono (fun _ _ h => h.elim)).thenSet (.inl rfl), by omega, by omega, by simp, by omega, fun _ => rfl, fun hb => .inl ⟨rfl, ?_⟩⟩
    intro q hq
    rw [hsp, hsp1, if_neg (by rw [hnl]; simp)] at hq
    cases hq
  · skip
    have hcr : 97 ≤ c.toNat ∧ c.toNat ≤ 122 := by simpa [isLo] using hq
    obtain ⟨hpl, hcp⟩ := pk_lt hc.symm (isLo_ne hq)
    rw [if_pos hq] at hsp1
    refine c_reg ?_ -- region 13 progm.go:53
    refine wl (ro_move rfl) ?_
    refine wl (ro_cmp (r := false) rfl rfl (by simp; omega)) ?_
    refine wl (ro_move rfl) ?_
    refine wlg_yes rfl (ro_move rfl) ?_
    refine wlg_yes rfl (ro_cmp (r := false) rfl rfl (by simp; omega)) ?_
    refine wl (ro_pick rfl rfl rfl) ?_
    refine wl_nil (x_then (hK5 _ _ ?_))
    clear hK5 K5
    refine wc_condF rfl ?_
    refine c_skip (x_then (hK4 _ _ ?_))
    clear hK4 K4
    refine forget [(0, _)] ⟨rfl, trivial⟩ (fun e => ?_)
    refine c_seq (fun K10 hK10 => ?_)
    refine c_pi [(0, false), (1, false), (2, false), (3, false), (4, false), (5, false), (6, false), (7, false), (8, false), (9, false), (10, false), (11, false), (12, false), (13, false), (14, false)] (SameH _) mixed (by kernel_rfl) rfl (by kernel_rfl) (po_then (po_bp)) (sameH_now _ _) ?_ -- region 16 progm.go:57
    refine pi_ro rfl (fun w hS => ro_move rfl) ?_
    refine pi_ro rfl (fun w hS => ro_nilCheck rfl) ?_
    refine pi_ro rfl (fun w hS => ro_fieldAddr (k := 0) rfl fo_167_0) ?_
    refine pi_ro rfl (fun w hS => ro_loadB rfl sc_9 (Blk.of_heap h1 hS) (rfl)) ?_
    refine pi_ro rfl (fun w hS => ro_move rfl) ?_
    refine pi_ro rfl (fun w hS => ro_nilCheck rfl) ?_
    refine pi_ro rfl (fun w hS => ro_fieldAddr (k := 1) rfl fo_167_1) ?_
    refine pi_ro rfl (fun w hS => ro_loadB rfl sc_3 (Blk.of_heap h1 hS) (rfl)) ?_
    refine pi_ro rfl (fun w hS => ro_move rfl) ?_
    refine pi_ro rfl (fun w hS => ro_nilCheck rfl) ?_
    refine pi_ro rfl (fun w hS => ro_fieldAddr (k := 1) rfl fo_167_1) ?_
    refine pi_ro rfl (fun w hS => ro_loadB rfl sc_3 (Blk.of_heap h1 hS) (rfl)) ?_
    refine pi_ro rfl (fun w hS => ro_arith rfl rfl rfl (Go.IntWalk.i64_in _ (by omega))) ?_
    refine pi_ro rfl (fun w hS => (show RO _ _ _ _ _ (S [c]) from take1 hcp ▸ ro_sliceSLH (l := p) (h := p + 1) rfl rfl rfl st_9 rfl (by omega) (by omega) (by omega))) ?_
    refine pi_ro rfl (fun w hS => ro_assign rfl) ?_
    refine pi_nil (x_then (hK10 _ _ ?_))
    clear hK10 K10
    refine forget [(0, _), (7, _)] ⟨rfl, rfl, trivial⟩ (fun e => ?_)
    refine c_seq (fun K11 hK11 => ?_)
    refine gen2 (A := fun w2 => RdAt w2 rb s p vs bad0) (B := fun w2 => Fram none' w w2) (C := fun w2 => WC _ _ _ _ w2) (show RdAt _ rb s p vs bad0 from h1) (F1.thenDrew) ?_
    clear h1 F1
    intro w2 h2 F2
    unfold RdAt at h2
    refine c_reg ?_ -- region 17 progm.go:58
    refine wl (ro_move rfl) ?_
    refine wl (ro_nilCheck rfl) ?_
    refine wl (ro_fieldAddr (k := 1) rfl fo_167_1) ?_
    refine wl (ro_loadB rfl sc_3 (h2) (rfl)) ?_
    refine wl (ro_arith rfl rfl rfl (Go.IntWalk.i64_in _ (by omega))) ?_
    refine wl (ro_nilCheck rfl) ?_
    refine wl (ro_fieldAddr (k := 1) rfl fo_167_1) ?_
    refine wls (so_storeB rfl rfl rfl sz_3 (h2) (by simp)) ?_
    have h3 := Blk.set h2 [S s, i64c (p + 1), S vs, .bool bad0]
    have F3 : Fram (fun b => b = rb) w _ := (F2.mono (fun _ _ h => h.elim)).thenSet (b := rb) (cs := [S s, i64c (p + 1), S vs, .bool bad0].toArray) (.inl rfl)
    refine gen2 (A := fun w2 => RdAt w2 rb s (p + 1) vs bad0) (B := fun w2 => Fram (fun b => b = rb) w w2) (C := fun w2 => WL _ _ _ _ _ w2) h3 F3 ?_
    clear h3 F3 h2 F2
    intro w3 h3 F3
    refine wl_nil (x_then (hK11 _ _ ?_))
    clear hK11 K11
    refine forget [(0, _), (7, _)] ⟨rfl, rfl, trivial⟩ (fun e => ?_)
    refine c_seq (fun K12 hK12 => ?_)
    refine c_reg ?_ -- region 18 progm.go:59
    refine wl (ro_assign rfl) ?_
    refine wl_nil (x_then (hK12 _ _ ?_))
    clear hK12 K12
    refine forget [(0, _), (7, _), (8, _)] ⟨rfl, rfl, rfl, trivial⟩ (fun e => ?_)
    refine c_seq (fun K13 hK13 => ?_)
    refine c_reg ?_ -- region 19 progm.go:60
    refine wl (ro_assign rfl) ?_
    refine wl_nil (x_then (hK13 _ _ ?_))
    clear hK13 K13
    refine c_mid (fun a' w' => ∃ n p2 out vs2 bad2, RdAt w' rb s p2 vs2 bad2 ∧ Fram (fun b => b = rb) w w' ∧ p + 1 ≤ p2 ∧ p2 ≤ max p s.length + (f + 1) ∧ out.length ≤ 2 * (p2 - (p + 1)) ∧ vs2.length ≤ vs.length + (p2 - p) ∧ n ≤ 50000 ∧ (bad0 = true → bad2 = true) ∧ (bad0 = false → (bad2 = true ∧ BadS 1 (s.drop p) vs) ∨ (bad2 = false ∧ vs2.length ≤ 6 ∧ p2 ≤ s.length ∧ ((n ≤ 3 ∧ Px 1 (s.drop p) vs = some ⟨c :: UInt8.ofNat (48 + n) :: out, 0, s.drop p2, vs2⟩) ∨ (3 < n ∧ Px 1 (s.drop p) vs = none)))) ∧ ∃ e, a' = Fr 172 (upds e [(0, ptr rb), (7, S [c]), (8, S out), (9, i64c n)]) []) ?_ ?_
    · skip
      refine c_seq (fun K14 hK14 => ?_)
      refine c_reg ?_ -- region 20 progm.go:61
      refine wl (ro_move rfl) ?_
      refine wl_call rfl en_96 (peek96 h3 (by omega) (by omega)) ?_
      rintro _ w4 ⟨rfl, F4⟩
      have h4 : RdAt w4 rb s (p + 1) vs bad0 := Blk.fram h3 F4 (fun h => h)
      have F5 : Fram (fun b => b = rb) w w4 := F3.trans (F4.mono (fun _ _ h => h.elim))
      refine wl (ro_cmp (r := decide (pk (s.drop (p + 1)) = 40)) rfl rfl (congrArg some (beqb _ 40))) ?_
      refine wl_nil (x_then (hK14 _ _ ?_))
      clear hK14 K14
      refine wc_cond rfl (fun hc120 => ?_) (fun hc120 => ?_)
      · try simp only [decide_eq_true_eq, decide_eq_false_iff_not, Bool.not_eq_true', Bool.not_eq_false', Bool.not_eq_eq_eq_not, Bool.not_true, Bool.not_false, beq_iff_eq, bne_iff_ne, ne_eq, beq_eq_false_iff_ne, bne_eq_false_iff_eq, gt_iff_lt, ge_iff_le, Int.not_lt, Int.not_le] at hc120
        have h40 : pk (s.drop (p + 1)) = 40 := by simpa using hc120
        rw [if_pos h40] at hsp1
        have hpl1 := (pk_lt h40 (by decide)).1
        have hbadX : BadS 2 (s.drop (p + 1 + 1)) vs → BadS 1 (s.drop p) vs := by
          intro hB r hr
          rw [hsp1] at hr
          cases hx : Px 2 (s.drop (p + 1 + 1)) vs with
          | none => rw [hx] at hr; cases hr
          | some q =>
            rw [hx] at hr
            simp only [Option.bind_some] at hr
            split at hr
            · cases hr; exact hB q hx
            · cases hr
        generalize hT0 : s.drop (p + 1 + 1) = T0 at *
        clear h3 F3 F4
        refine c_seq (fun K15 hK15 => ?_)
        refine c_reg ?_ -- region 21 progm.go:62
        refine wl (ro_assign rfl) ?_
        refine wl_nil (x_then (hK15 _ _ ?_))
        clear hK15 K15
        refine forget [(0, _), (7, _), (8, _), (9, _), (10, _)] ⟨rfl, rfl, rfl, rfl, rfl, trivial⟩ (fun e => ?_)
        refine c_seq (fun K16 hK16 => ?_)
        refine c_block ?_
        -- loop@r22: live slots [0, 7, 8, 9, 10]
        refine c_loopG (fun m a' w' => ∃ n p1 out vs1 bad1, m = s.length + f + 10 - p1 ∧ RdAt w' rb s p1 vs1 bad1 ∧ Fram (fun b => b = rb) w w' ∧ p + 1 ≤ p1 ∧ p1 ≤ s.length + f ∧ out.length ≤ 2 * (p1 - (p + 1)) ∧ vs1.length ≤ vs.length + (p1 - (p + 1)) ∧ n ≤ p1 ∧ (bad0 = true → bad1 = true) ∧ (bad0 = false → (bad1 = true ∧ BadS 2 T0 vs) ∨ (bad1 = false ∧ vs1.length ≤ 6 ∧ p1 ≤ s.length ∧ ((n = 0 ∧ p1 = p + 1 ∧ out = [] ∧ vs1 = vs) ∨ (1 ≤ n ∧ ArgInv T0 vs n out (s.drop p1) vs1)))) ∧ ∃ e, a' = Fr 172 (upds e [(0, ptr rb), (7, S [c]), (8, S out), (9, i64c n), (10, u8c (if n = 0 then 40 else 44))]) []) (s.length + f + 10 - (p + 1)) ⟨0, p + 1, [], vs, bad0, rfl, h4, F5, by omega, by omega, by simp, by omega, by omega, fun h => h, fun hb => .inr ⟨hb, hv6 hb, by omega, .inl ⟨rfl, rfl, rfl, rfl⟩⟩, kp _ ⟨rfl, rfl, rfl, rfl, rfl, trivial⟩⟩ ?_
        clear h4 F5
        rintro m a' w5 ⟨n, p1, out, vs1, bad1, rfl, h5, F5, b1, b2, b3, b4, b5, b6, b7, e, rfl⟩
        obtain ⟨sp, hspe⟩ : ∃ sp : UInt8, sp = if n = 0 then 40 else 44 := ⟨_, rfl⟩
        have hsp0 : sp ≠ 0 := by rw [hspe]; split <;> decide
        rw [← hspe]
        unfold RdAt at h5
        refine c_seq (fun K17 hK17 => ?_)
        refine c_seq (fun K18 hK18 => ?_)
        cases bad1
        · skip
          refine c_reg ?_ -- region 22 progm.go:63
          refine wl (ro_move rfl) ?_
          refine wl (ro_nilCheck rfl) ?_
          refine wl (ro_fieldAddr (k := 3) rfl fo_167_3) ?_
          refine wl (ro_loadB rfl sc_4 (h5) (rfl)) ?_
          refine wl (ro_not rfl) ?_
          refine wl (ro_move rfl) ?_
          refine wlg_yes rfl (ro_move rfl) ?_
          refine wlg_call rfl rfl en_96 (peek96 h5 (by omega) (by omega)) ?_
          rintro _ w6 ⟨rfl, F6⟩
          have h6 : Blk w6.heap rb [S s, i64c p1, S vs1, .bool false] 167 := Blk.fram h5 F6 (fun h => h)
          have F7 : Fram (fun b => b = rb) w w6 := F5.trans (F6.mono (fun _ _ h => h.elim))
          refine wlg_yes rfl (ro_move rfl) ?_
          refine wlg_yes rfl (ro_cmp (r := decide (pk (s.drop p1) = sp)) rfl rfl (congrArg some (beqb _ sp))) ?_
          refine wl (ro_pick rfl rfl rfl) ?_
          refine wl_nil (x_then (hK18 _ _ ?_))
          clear hK18 K18
          refine wc_cond rfl (fun hc131 => ?_) (fun hc131 => ?_)
          · try simp only [decide_eq_true_eq, decide_eq_false_iff_not, Bool.not_eq_true', Bool.not_eq_false', Bool.not_eq_eq_eq_not, Bool.not_true, Bool.not_false, beq_iff_eq, bne_iff_ne, ne_eq, beq_eq_false_iff_ne, bne_eq_false_iff_eq, gt_iff_lt, ge_iff_le, Int.not_lt, Int.not_le] at hc131
            have hpk : pk (s.drop p1) = sp := by simpa using hc131
            obtain ⟨hp1l, _⟩ := pk_lt hpk hsp0
            have hb0 : bad0 = false := by cases bad0 with | false => rfl | true => cases b6 rfl
            have hb7 : vs1.length ≤ 6 ∧ p1 ≤ s.length ∧ ((n = 0 ∧ p1 = p + 1 ∧ out = [] ∧ vs1 = vs) ∨ (1 ≤ n ∧ ArgInv T0 vs n out (s.drop p1) vs1)) := by
              rcases b7 hb0 with ⟨h, _⟩ | ⟨_, h⟩
              · cases h
              · exact h
            have hv61 : (false : Bool) = false → vs1.length ≤ 6 := fun _ => hb7.1
            refine c_skip (x_then (hK17 _ _ ?_))
            clear hK17 K17
            refine c_block ?_
            refine forget [(0, _), (7, _), (8, _), (9, _), (127, _), (128, _), (129, _), (130, _)] ⟨rfl, rfl, rfl, rfl, rfl, rfl, rfl, rfl, trivial⟩ (fun e => ?_)
            refine c_seq (fun K19 hK19 => ?_)
            refine c_reg ?_ -- region 23 progm.go:64
            refine wl (ro_move rfl) ?_
            refine wl (ro_nilCheck rfl) ?_
            refine wl (ro_fieldAddr (k := 1) rfl fo_167_1) ?_
            refine wl (ro_loadB rfl sc_3 (h6) (rfl)) ?_
            refine wl (ro_arith rfl rfl rfl (Go.IntWalk.i64_in _ (by omega))) ?_
            refine wl (ro_nilCheck rfl) ?_
            refine wl (ro_fieldAddr (k := 1) rfl fo_167_1) ?_
            refine wls (so_storeB rfl rfl rfl sz_3 (h6) (by simp)) ?_
            have h7 := Blk.set h6 [S s, i64c (p1 + 1), S vs1, .bool false]
            have F8 : Fram (fun b => b = rb) w _ := F7.thenSet (b := rb) (cs := [S s, i64c (p1 + 1), S vs1, .bool false].toArray) (.inl rfl)
            refine gen2 (A := fun w2 => RdAt w2 rb s (p1 + 1) vs1 false) (B := fun w2 => Fram (fun b => b = rb) w w2) (C := fun w2 => WL _ _ _ _ _ w2) h7 F8 ?_
            clear h7 F8 F7 F6 h6 h5 F5
            intro w7 h7 F7
            refine wl_nil (x_then (hK19 _ _ ?_))
            clear hK19 K19
            refine forget [(0, _), (7, _), (8, _), (9, _), (127, _), (128, _), (129, _), (130, _)] ⟨rfl, rfl, rfl, rfl, rfl, rfl, rfl, rfl, trivial⟩ (fun e => ?_)
            refine c_seq (fun K20 hK20 => ?_)
            refine c_reg ?_ -- region 24 progm.go:65
            refine wl (ro_move rfl) ?_
            refine wl_call rfl en_95 (IH (p1 + 1) vs1 false false w7 h7 (by omega) (by omega) hv61 (by simp at hf ⊢; omega)) ?_
            rintro _ w8 ⟨out2, p3, vs3, bad3, rfl, h8, F8, d1, d2, d3, d4, d5, d6⟩
            have F9 := F7.trans F8
            have hmx : p3 ≤ s.length + f := by omega
            have d6 := d6 rfl
            refine wl (ro_assign rfl) ?_
            refine wl_nil (x_then (hK20 _ _ ?_))
            clear hK20 K20
            refine forget [(0, _), (7, _), (8, _), (9, _), (11, _), (127, _), (128, _), (129, _), (130, _)] ⟨rfl, rfl, rfl, rfl, rfl, rfl, rfl, rfl, rfl, trivial⟩ (fun e => ?_)
            refine c_seq (fun K21 hK21 => ?_)
            refine c_reg ?_ -- region 25 progm.go:66
            refine wl (ro_move rfl) ?_
            refine wl (ro_move rfl) ?_
            refine wl (ro_catS rfl rfl (by omega)) ?_
            refine wl (ro_assign rfl) ?_
            refine wl_nil (x_then (hK21 _ _ ?_))
            clear hK21 K21
            refine forget [(0, _), (7, _), (8, _), (9, _), (127, _), (128, _), (129, _), (130, _)] ⟨rfl, rfl, rfl, rfl, rfl, rfl, rfl, rfl, trivial⟩ (fun e => ?_)
            refine c_seq (fun K22 hK22 => ?_)
            refine c_reg ?_ -- region 26 progm.go:67
            refine wl (ro_move rfl) ?_
            refine wl (ro_arith rfl rfl rfl (Go.IntWalk.i64_in _ (by omega))) ?_
            refine wl (ro_assign rfl) ?_
            refine wl_nil (x_then (hK22 _ _ ?_))
            clear hK22 K22
            refine c_reg ?_ -- region 27 progm.go:68
            refine wl (ro_assign rfl) ?_
            refine wl_nil (x_blk (x_then ?_))
            refine ⟨s.length + f + 10 - p3, by omega, n + 1, p3, out ++ out2, vs3, bad3, rfl, h8, F9, by omega, hmx, by simp; omega, by omega, by omega, (fun h => by rw [hb0] at h; cases h), ?_, kp _ ⟨rfl, rfl, rfl, rfl, ?_, trivial⟩⟩
            · intro _
              obtain ⟨_, _, hcase⟩ := hb7
              rcases d6 with ⟨e1, e2⟩ | ⟨e1, q, e2, e3, e4, e5, e6, e7⟩
              · refine .inl ⟨e1, ?_⟩
                rcases hcase with ⟨rfl, rfl, rfl, rfl⟩ | ⟨hn1, hA⟩
                · rw [← hT0]; exact badS_first e2
                · refine badS_next hA ?_ (by rw [drop1]; exact e2)
                  rw [hpk, hspe, if_neg (by omega)]
              · refine .inr ⟨e1, by rw [e6]; exact e3, e7, .inr ⟨by omega, ?_⟩⟩
                rcases hcase with ⟨rfl, rfl, rfl, rfl⟩ | ⟨hn1, hA⟩
                · rw [e4, e5, e6, ← hT0]; exact argInv_first e2
                · rw [e4, e5, e6]
                  exact argInv_next hA (by rw [hpk, hspe, if_neg (by omega)]) (by rw [drop1]; exact e2)
            · rw [if_neg (by omega)]; rfl
          · try simp only [decide_eq_true_eq, decide_eq_false_iff_not, Bool.not_eq_true', Bool.not_eq_false', Bool.not_eq_eq_eq_not, Bool.not_true, Bool.not_false, beq_iff_eq, bne_iff_ne, ne_eq, beq_eq_false_iff_ne, bne_eq_false_iff_eq, gt_iff_lt, ge_iff_le, Int.not_lt, Int.not_le] at hc131
            have hpk : ¬ pk (s.drop p1) = sp := by simpa using hc131
            refine c_exit (x_thenX (x_thenX (x_blkX (x_then (hK16 _ _ ?_)))))
            clear hK17 K17 hK16 K16
            refine c_seq (fun K23 hK23 => ?_)
            refine c_seq (fun K24 hK24 => ?_)
            refine gen2 (A := fun w2 => RdAt w2 rb s p1 vs1 false) (B := fun w2 => Fram (fun b => b = rb) w w2) (C := fun w2 => WC _ _ _ _ w2) h6 F7 ?_
            have b8 : bad0 = false → vs1.length ≤ 6 ∧ p1 ≤ s.length ∧ 1 ≤ n ∧ ArgInv T0 vs n out (s.drop p1) vs1 ∧ ¬ pk (s.drop p1) = 44 := by
              intro hb
              rcases b7 hb with ⟨h, _⟩ | ⟨_, h1, h2, h3⟩
              · cases h
              · rcases h3 with ⟨rfl, rfl, _, _⟩ | ⟨hn1, hA⟩
                · exact absurd (by rw [h40, hspe]; rfl) hpk
                · exact ⟨h1, h2, hn1, hA, by rw [hspe, if_neg (by omega)] at hpk; exact hpk⟩
            clear F7 h6 h5 F5 F6 b7
            intro w7 h7 F7
            refine c_reg ?_ -- region 28 progm.go:70
            refine wl (ro_move rfl) ?_
            refine wl_call rfl en_96 (peek96 h7 (by omega) (by omega)) ?_
            rintro _ w8 ⟨rfl, F8⟩
            have h8 := Blk.fram h7 F8 (fun h => h)
            have F9 : Fram (fun b => b = rb) w w8 := F7.trans (F8.mono (fun _ _ h => h.elim))
            refine wl (ro_cmp (r := decide (pk (s.drop p1) ≠ 41)) rfl rfl (congrArg some (by have := beqb (pk (s.drop p1)) 41; simp [bne] at this ⊢; rw [this]))) ?_
            refine wl_nil (x_then (hK24 _ _ ?_))
            clear hK24 K24
            refine wc_cond rfl (fun hc148 => ?_) (fun hc148 => ?_)
            · try simp only [decide_eq_true_eq, decide_eq_false_iff_not, Bool.not_eq_true', Bool.not_eq_false', Bool.not_eq_eq_eq_not, Bool.not_true, Bool.not_false, beq_iff_eq, bne_iff_ne, ne_eq, beq_eq_false_iff_ne, bne_eq_false_iff_eq, gt_iff_lt, ge_iff_le, Int.not_lt, Int.not_le] at hc148
              have h41 : pk (s.drop p1) ≠ 41 := by simpa using hc148
              refine c_reg ?_ -- region 29 progm.go:71
              refine wl (ro_move rfl) ?_
              refine wl (ro_nilCheck rfl) ?_
              refine wl (ro_fieldAddr (k := 3) rfl fo_167_3) ?_
              refine wls (so_storeB rfl rfl rfl sz_4 (h8) (by simp)) ?_
              have h9 := Blk.set h8 [S s, i64c p1, S vs1, .bool true]
              have F10 : Fram (fun b => b = rb) w _ := F9.thenSet (b := rb) (cs := [S s, i64c p1, S vs1, .bool true].toArray) (.inl rfl)
              refine wl_nil (x_then (hK23 _ _ ?_))
              clear hK23 K23
              refine c_reg ?_ -- region 30 progm.go:73
              refine wl (ro_move rfl) ?_
              refine wl (ro_nilCheck rfl) ?_
              refine wl (ro_fieldAddr (k := 1) rfl fo_167_1) ?_
              refine wl (ro_loadB rfl sc_3 (h9) (rfl)) ?_
              refine wl (ro_arith rfl rfl rfl (Go.IntWalk.i64_in _ (by omega))) ?_
              refine wl (ro_nilCheck rfl) ?_
              refine wl (ro_fieldAddr (k := 1) rfl fo_167_1) ?_
              refine wls (so_storeB rfl rfl rfl sz_3 (h9) (by simp)) ?_
              have h10 := Blk.set h9 [S s, i64c (p1 + 1), S vs1, .bool true]
              have F11 : Fram (fun b => b = rb) w _ := F10.thenSet (b := rb) (cs := [S s, i64c (p1 + 1), S vs1, .bool true].toArray) (.inl rfl)
              refine wl_nil (x_then ?_)
              refine ⟨n, p1 + 1, out, vs1, true, h10, F11, by omega, by omega, by omega, by omega, by omega, fun _ => rfl, fun hb => .inl ⟨rfl, ?_⟩, kp _ ⟨rfl, rfl, rfl, rfl, trivial⟩⟩
              obtain ⟨_, _, _, hA, h44⟩ := b8 hb
              intro r hr
              rw [hsp1] at hr
              rcases hA with ⟨_, hA⟩ | ⟨_, hA⟩
              · rw [hA, if_neg h44] at hr
                simp only [Option.bind_some, h41, if_false] at hr
                cases hr
              · rw [hA] at hr; cases hr
            · try simp only [decide_eq_true_eq, decide_eq_false_iff_not, Bool.not_eq_true', Bool.not_eq_false', Bool.not_eq_eq_eq_not, Bool.not_true, Bool.not_false, beq_iff_eq, bne_iff_ne, ne_eq, beq_eq_false_iff_ne, bne_eq_false_iff_eq, gt_iff_lt, ge_iff_le, Int.not_lt, Int.not_le] at hc148
              have h41 : pk (s.drop p1) = 41 := by simpa using hc148
              have hp1l := (pk_lt h41 (by decide)).1
              refine c_skip (x_then (hK23 _ _ ?_))
              clear hK23 K23
              refine c_reg ?_ -- region 30 progm.go:73
              refine wl (ro_move rfl) ?_
              refine wl (ro_nilCheck rfl) ?_
              refine wl (ro_fieldAddr (k := 1) rfl fo_167_1) ?_
              refine wl (ro_loadB rfl sc_3 (h8) (rfl)) ?_
              refine wl (ro_arith rfl rfl rfl (Go.IntWalk.i64_in _ (by omega))) ?_
              refine wl (ro_nilCheck rfl) ?_
              refine wl (ro_fieldAddr (k := 1) rfl fo_167_1) ?_
              refine wls (so_storeB rfl rfl rfl sz_3 (h8) (by simp)) ?_
              have h10 := Blk.set h8 [S s, i64c (p1 + 1), S vs1, .bool false]
              have F11 : Fram (fun b => b = rb) w _ := F9.thenSet (b := rb) (cs := [S s, i64c (p1 + 1), S vs1, .bool false].toArray) (.inl rfl)
              refine wl_nil (x_then ?_)
              refine ⟨n, p1 + 1, out, vs1, false, h10, F11, by omega, by omega, by omega, by omega, by omega, (fun hb => by cases b6 hb), fun hb => .inr ⟨rfl, (b8 hb).1, by omega, ?_⟩, kp _ ⟨rfl, rfl, rfl, rfl, trivial⟩⟩
              obtain ⟨_, _, _, hA, h44⟩ := b8 hb
              rcases hA with ⟨hn3, hA⟩ | ⟨hn3, hA⟩
              · refine .inl ⟨hn3, ?_⟩
                rw [hsp1, hA, if_neg h44]
                simp only [Option.bind_some, h41, if_true, drop1]
              · exact .inr ⟨hn3, by rw [hsp1, hA]; rfl⟩
        · skip
          refine c_reg ?_ -- region 22 progm.go:63
          refine wl (ro_move rfl) ?_
          refine wl (ro_nilCheck rfl) ?_
          refine wl (ro_fieldAddr (k := 3) rfl fo_167_3) ?_
          refine wl (ro_loadB rfl sc_4 (h5) (rfl)) ?_
          refine wl (ro_not rfl) ?_
          refine wl (ro_move rfl) ?_
          refine wlg_no rfl ?_
          refine wlg_no rfl ?_
          refine wlg_no rfl ?_
          refine wlg_no rfl ?_
          refine wl (ro_pick rfl rfl rfl) ?_
          refine wl_nil (x_then (hK18 _ _ ?_))
          clear hK18 K18
          refine wc_condF rfl ?_
          refine c_exit (x_thenX (x_thenX (x_blkX (x_then (hK16 _ _ ?_)))))
          clear hK17 K17 hK16 K16
          refine c_seq (fun K25 hK25 => ?_)
          refine c_seq (fun K26 hK26 => ?_)
          refine gen2 (A := fun w2 => RdAt w2 rb s p1 vs1 true) (B := fun w2 => Fram (fun b => b = rb) w w2) (C := fun w2 => WC _ _ _ _ w2) h5 F5 ?_
          have b8 : bad0 = false → BadS 2 T0 vs := by
            intro hb
            rcases b7 hb with ⟨_, h⟩ | ⟨h, _⟩
            · exact h
            · cases h
          clear h5 F5 b7
          intro w7 h7 F7
          refine c_reg ?_ -- region 28 progm.go:70
          refine wl (ro_move rfl) ?_
          refine wl_call rfl en_96 (peek96 h7 (by omega) (by omega)) ?_
          rintro _ w8 ⟨rfl, F8⟩
          have h8 := Blk.fram h7 F8 (fun h => h)
          have F9 : Fram (fun b => b = rb) w w8 := F7.trans (F8.mono (fun _ _ h => h.elim))
          refine wl (ro_cmp (r := decide (pk (s.drop p1) ≠ 41)) rfl rfl (congrArg some (by have := beqb (pk (s.drop p1)) 41; simp [bne] at this ⊢; rw [this]))) ?_
          refine wl_nil (x_then (hK26 _ _ ?_))
          clear hK26 K26
          refine wc_cond rfl (fun hc148 => ?_) (fun hc148 => ?_)
          · try simp only [decide_eq_true_eq, decide_eq_false_iff_not, Bool.not_eq_true', Bool.not_eq_false', Bool.not_eq_eq_eq_not, Bool.not_true, Bool.not_false, beq_iff_eq, bne_iff_ne, ne_eq, beq_eq_false_iff_ne, bne_eq_false_iff_eq, gt_iff_lt, ge_iff_le, Int.not_lt, Int.not_le] at hc148
            have h41 : pk (s.drop p1) ≠ 41 := by simpa using hc148
            refine c_reg ?_ -- region 29 progm.go:71
            refine wl (ro_move rfl) ?_
            refine wl (ro_nilCheck rfl) ?_
            refine wl (ro_fieldAddr (k := 3) rfl fo_167_3) ?_
            refine wls (so_storeB rfl rfl rfl sz_4 (h8) (by simp)) ?_
            have h9 := Blk.set h8 [S s, i64c p1, S vs1, .bool true]
            have F10 : Fram (fun b => b = rb) w _ := F9.thenSet (b := rb) (cs := [S s, i64c p1, S vs1, .bool true].toArray) (.inl rfl)
            refine wl_nil (x_then (hK25 _ _ ?_))
            clear hK25 K25
            refine c_reg ?_ -- region 30 progm.go:73
            refine wl (ro_move rfl) ?_
            refine wl (ro_nilCheck rfl) ?_
            refine wl (ro_fieldAddr (k := 1) rfl fo_167_1) ?_
            refine wl (ro_loadB rfl sc_3 (h9) (rfl)) ?_
            refine wl (ro_arith rfl rfl rfl (Go.IntWalk.i64_in _ (by omega))) ?_
            refine wl (ro_nilCheck rfl) ?_
            refine wl (ro_fieldAddr (k := 1) rfl fo_167_1) ?_
            refine wls (so_storeB rfl rfl rfl sz_3 (h9) (by simp)) ?_
            have h10 := Blk.set h9 [S s, i64c (p1 + 1), S vs1, .bool true]
            have F11 : Fram (fun b => b = rb) w _ := F10.thenSet (b := rb) (cs := [S s, i64c (p1 + 1), S vs1, .bool true].toArray) (.inl rfl)
            refine wl_nil (x_then ?_)
            exact ⟨n, p1 + 1, out, vs1, true, h10, F11, by omega, by omega, by omega, by omega, by omega, fun _ => rfl, fun hb => .inl ⟨rfl, hbadX (b8 hb)⟩, kp _ ⟨rfl, rfl, rfl, rfl, trivial⟩⟩
          · try simp only [decide_eq_true_eq, decide_eq_false_iff_not, Bool.not_eq_true', Bool.not_eq_false', Bool.not_eq_eq_eq_not, Bool.not_true, Bool.not_false, beq_iff_eq, bne_iff_ne, ne_eq, beq_eq_false_iff_ne, bne_eq_false_iff_eq, gt_iff_lt, ge_iff_le, Int.not_lt, Int.not_le] at hc148
            have h41 : pk (s.drop p1) = 41 := by simpa using hc148
            have hp1l := (pk_lt h41 (by decide)).1
            refine c_skip (x_then (hK25 _ _ ?_))
            clear hK25 K25
            refine c_reg ?_ -- region 30 progm.go:73
            refine wl (ro_move rfl) ?_
            refine wl (ro_nilCheck rfl) ?_
            refine wl (ro_fieldAddr (k := 1) rfl fo_167_1) ?_
            refine wl (ro_loadB rfl sc_3 (h8) (rfl)) ?_
            refine wl (ro_arith rfl rfl rfl (Go.IntWalk.i64_in _ (by omega))) ?_
            refine wl (ro_nilCheck rfl) ?_
            refine wl (ro_fieldAddr (k := 1) rfl fo_167_1) ?_
            refine wls (so_storeB rfl rfl rfl sz_3 (h8) (by simp)) ?_
            have h10 := Blk.set h8 [S s, i64c (p1 + 1), S vs1, .bool true]
            have F11 : Fram (fun b => b = rb) w _ := F9.thenSet (b := rb) (cs := [S s, i64c (p1 + 1), S vs1, .bool true].toArray) (.inl rfl)
            refine wl_nil (x_then ?_)
            exact ⟨n, p1 + 1, out, vs1, true, h10, F11, by omega, by omega, by omega, by omega, by omega, fun _ => rfl, fun hb => .inl ⟨rfl, hbadX (b8 hb)⟩, kp _ ⟨rfl, rfl, rfl, rfl, trivial⟩⟩
      · try simp only [decide_eq_true_eq, decide_eq_false_iff_not, Bool.not_eq_true', Bool.not_eq_false', Bool.not_eq_eq_eq_not, Bool.not_true, Bool.not_false, beq_iff_eq, bne_iff_ne, ne_eq, beq_eq_false_iff_ne, bne_eq_false_iff_eq, gt_iff_lt, ge_iff_le, Int.not_lt, Int.not_le] at hc120
        have h40 : ¬ pk (s.drop (p + 1)) = 40 := by simpa using hc120
        rw [if_neg h40] at hsp1
        refine c_skip (x_then ?_)
        exact ⟨0, p + 1, [], vs, bad0, h4, F5, by omega, by omega, by simp, by omega, by omega, fun h => h, fun hb => .inr ⟨hb, hv6 hb, by omega, .inl ⟨by omega, hsp1⟩⟩, kp _ ⟨rfl, rfl, rfl, rfl, trivial⟩⟩
    clear h3 F3
    rintro a' w6 ⟨n, p2, out, vs2, bad2, h6, F6, b1, b2, b3, b4, b5, b6, b7, e, rfl⟩
    refine c_seq (fun K27 hK27 => ?_)
    refine c_seq (fun K28 hK28 => ?_)
    refine c_reg ?_ -- region 31 progm.go:75
    refine wl (ro_move rfl) ?_
    refine wl (ro_cmp rfl rfl rfl) ?_
    refine wl_nil (x_then (hK28 _ _ ?_))
    clear hK28 K28
    refine wc_cond rfl (fun hc160 => ?_) (fun hc160 => ?_)
    · try simp only [decide_eq_true_eq, decide_eq_false_iff_not, Bool.not_eq_true', Bool.not_eq_false', Bool.not_eq_eq_eq_not, Bool.not_true, Bool.not_false, beq_iff_eq, bne_iff_ne, ne_eq, beq_eq_false_iff_ne, bne_eq_false_iff_eq, gt_iff_lt, ge_iff_le, Int.not_lt, Int.not_le] at hc160
      have hn3 : 3 < n := by omega
      unfold RdAt at h6
      refine c_seq (fun K29 hK29 => ?_)
      refine c_reg ?_ -- region 32 progm.go:76
      refine wl (ro_move rfl) ?_
      refine wl (ro_nilCheck rfl) ?_
      refine wl (ro_fieldAddr (k := 3) rfl fo_167_3) ?_
      refine wls (so_storeB rfl rfl rfl sz_4 (h6) (by simp)) ?_
      refine wl_nil (x_then (hK29 _ _ ?_))
      clear hK29 K29
      refine forget [] trivial (fun e => ?_)
      refine c_seq (fun K30 hK30 => ?_)
      refine c_reg ?_ -- region 33 progm.go:77
      refine wl (ro_assign rfl) ?_
      refine wl_nil (x_then (hK30 _ _ ?_))
      clear hK30 K30
      refine c_ret (x_thenR ?_)
      refine bp_ret Tryz.results95 rfl ?_
      refine ⟨[], p2, vs2, true, rfl, Blk.set h6 [S s, i64c p2, S vs2, .bool true], F6.thenSet (.inl rfl), by omega, b2, by simp, b4, fun _ => rfl, fun hb => .inl ⟨rfl, ?_⟩⟩
      intro q hq
      rw [hsp] at hq
      rcases b7 hb with ⟨_, hB⟩ | ⟨_, _, _, ⟨h, _⟩ | ⟨_, h⟩⟩
      · exact hB q hq
      · omega
      · rw [h] at hq; cases hq
    · try simp only [decide_eq_true_eq, decide_eq_false_iff_not, Bool.not_eq_true', Bool.not_eq_false', Bool.not_eq_eq_eq_not, Bool.not_true, Bool.not_false, beq_iff_eq, bne_iff_ne, ne_eq, beq_eq_false_iff_ne, bne_eq_false_iff_eq, gt_iff_lt, ge_iff_le, Int.not_lt, Int.not_le] at hc160
      have hn3 : n ≤ 3 := by omega
      refine c_skip (x_then (hK27 _ _ ?_))
      clear hK27 K27
      refine forget [(7, _), (8, _), (9, _)] ⟨rfl, rfl, rfl, trivial⟩ (fun e => ?_)
      refine c_seq (fun K31 hK31 => ?_)
      refine c_reg ?_ -- region 34 progm.go:79
      refine wl (ro_move rfl) ?_
      refine wl (ro_move rfl) ?_
      refine wl (ro_move rfl) ?_
      refine wl (ro_arith rfl rfl rfl (Go.IntWalk.i64_in _ (by omega))) ?_
      refine wl ((show RO _ _ _ _ _ (S [UInt8.ofNat (48 + n)]) from take1 (d0123 n hn3) ▸ ro_sliceSLH (s := [48, 49, 50, 51]) (l := n) (h := n + 1) rfl rfl rfl st_9 rfl (by omega) (by omega) (by simp; omega))) ?_
      refine wl (ro_catS rfl rfl (by simp)) ?_
      refine wl (ro_move rfl) ?_
      refine wl (ro_catS rfl rfl (by simp; omega)) ?_
      refine wl (ro_assign rfl) ?_
      refine wl_nil (x_then (hK31 _ _ ?_))
      clear hK31 K31
      refine c_ret ?_
      refine bp_ret Tryz.results95 rfl ?_
      refine ⟨c :: UInt8.ofNat (48 + n) :: out, p2, vs2, bad2, rfl, h6, F6, by omega, b2, by simp; omega, b4, b6, fun hb => ?_⟩
      rcases b7 hb with ⟨h, hB⟩ | ⟨h, h6', h7', ⟨_, hP⟩ | ⟨h3, _⟩⟩
      · exact .inl ⟨h, fun q hq => hB q (by rw [← hsp]; exact hq)⟩
      · exact .inr ⟨h, _, hsp.trans hP, h6', rfl, rfl, rfl, h7'⟩
      · omega

end Go.Proofs.Qxb6500569aGreat
