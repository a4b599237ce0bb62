import Derived.Test.Qxb6500568aGreatDoorYr
/- The interpreter: apply. -/
namespace Go.Proofs.Qxb6500568aGreatDoor
open Ieee
set_option linter.unusedVariables false
set_option linter.unusedSimpArgs false
set_option linter.unusedSectionVars false

theorem ok_nil (c t h : Nat) : VV c t h vNil := ⟨rfl, by decide, fun h => absurd h (by decide), fun h => absurd h (by decide), fun h => absurd h (by decide), fun h => absurd h (by decide)⟩
theorem argL_abc {l : List PV} {x : Nat} (hx : x ≤ 3) (hl : x ≤ l.length) : ∃ a b c, argL l x 0 = [a, b, c] ∧ (l.take x).reverse.getD 0 vNil = a ∧ (l.take x).reverse.getD 1 vNil = b ∧ ∀ (i : Nat) z, (l.take x).reverse[i]? = some z → (i = 0 ∧ z = a) ∨ (i = 1 ∧ z = b) ∨ (i = 2 ∧ z = c) := by
  rw [argL_zero]
  have hlen : (l.take x).reverse.length = x := by simp; omega
  generalize (l.take x).reverse = zs at *
  have hc : x = 0 ∨ x = 1 ∨ x = 2 ∨ x = 3 := by omega
  rcases hc with rfl | rfl | rfl | rfl
  · have := List.eq_nil_of_length_eq_zero hlen
    subst this
    exact ⟨vNil, vNil, vNil, rfl, rfl, rfl, fun i z h => by simp at h⟩
  · obtain ⟨a, rfl⟩ := List.length_eq_one_iff.1 hlen
    exact ⟨a, vNil, vNil, rfl, rfl, rfl, fun i z h => by
      match i, h with
      | 0, h => exact .inl ⟨rfl, by simpa using h.symm⟩⟩
  · obtain ⟨a, b, rfl⟩ : ∃ a b, zs = [a, b] := by
      match zs, hlen with
      | [a, b], _ => exact ⟨a, b, rfl⟩
    exact ⟨a, b, vNil, rfl, rfl, rfl, fun i z h => by
      match i, h with
      | 0, h => exact .inl ⟨rfl, by simpa using h.symm⟩
      | 1, h => exact .inr (.inl ⟨rfl, by simpa using h.symm⟩)⟩
  · obtain ⟨a, b, c, rfl⟩ : ∃ a b c, zs = [a, b, c] := by
      match zs, hlen with
      | [a, b, c], _ => exact ⟨a, b, c, rfl⟩
    exact ⟨a, b, c, rfl, rfl, rfl, fun i z h => by
      match i, h with
      | 0, h => exact .inl ⟨rfl, by simpa using h.symm⟩
      | 1, h => exact .inr (.inl ⟨rfl, by simpa using h.symm⟩)
      | 2, h => exact .inr (.inr ⟨rfl, by simpa using h.symm⟩)⟩
theorem stk_set {c0 c1 c2 c3 c4 c5 a0 a1 a2 a3 a4 v : Value} {r : List Value} : ∀ {j : Nat}, j < 5 → ∃ b0 b1 b2 b3 b4, [a0, a1, a2, a3, a4].set j v = [b0, b1, b2, b3, b4] ∧ (c0 :: c1 :: c2 :: c3 :: c4 :: c5 :: a0 :: a1 :: a2 :: a3 :: a4 :: r).set (0 + 6 + j * 1) v = c0 :: c1 :: c2 :: c3 :: c4 :: c5 :: b0 :: b1 :: b2 :: b3 :: b4 :: r
  | 0, _ => ⟨_, _, _, _, _, rfl, rfl⟩
  | 1, _ => ⟨_, _, _, _, _, rfl, rfl⟩
  | 2, _ => ⟨_, _, _, _, _, rfl, rfl⟩
  | 3, _ => ⟨_, _, _, _, _, rfl, rfl⟩
  | 4, _ => ⟨_, _, _, _, _, rfl, rfl⟩
  | j + 5, h => absurd h (by omega)
theorem RM.frefl {G : Arena} {root : Nat} {np : Value} {tb rb : Nat} {nv : Value} {w : World} {ow : Nat → Nat} {β τ : List Nat} {m : Nat} {s : IS} (_ : RM G root np tb rb nv w ow β τ m s) : Fram (one rb) w w := Fram.refl _ _
theorem wf_sl {v : PV} (hv : wfV v = true) : v.S.length ≤ 40 := by
  unfold wfV at hv
  split at hv
  · simp at hv; exact hv.2
  · split at hv
    · rename_i h3; rw [h3.1]; simp
    · cases hv
theorem Parse103S {w : World} {p : Value} {s : List UInt8} {x : Nat} (hx : parN s = some x) (hs : s.length ≤ 40) : Ret Tryz.prog 103 [p, S s] w (fun v w' => v = .tuple #[u64c x, icv 0] ∧ w' = w) :=
  (Parse103 (by omega)).mono fun v w' ⟨h, hw⟩ => by
    rcases h with ⟨y, h1, h2⟩ | ⟨h1, _⟩
    · rw [hx] at h1; cases h1; exact ⟨h2, hw⟩
    · rw [hx] at h1; cases h1
theorem Parse103N {w : World} {p : Value} {s : List UInt8} (hx : parN s = none) (hs : s.length ≤ 40) : Ret Tryz.prog 103 [p, S s] w (fun v w' => (∃ e : Int, e ≠ 0 ∧ v = .tuple #[u64c 0, icv e]) ∧ w' = w) :=
  (Parse103 (by omega)).mono fun v w' ⟨h, hw⟩ => by
    rcases h with ⟨y, h1, h2⟩ | ⟨h1, h2⟩
    · rw [hx] at h1; cases h1
    · exact ⟨h2, hw⟩
theorem Xt.memC {w : World} {ow ow' : Nat → Nat} {b : Nat} (hX : Xt w ow ow') (h : tg ow' cmT b) : tg ow cmT b ∨ w.heap.size ≤ b := by
  rcases Nat.lt_or_ge b w.heap.size with hlt | hge
  · exact .inl (by show cmT (ow b); rw [← hX b hlt]; exact h)
  · exact .inr hge
theorem rws3 (a b c : PV) : rws pvc [a, b, c] = pvc a ++ (pvc b ++ pvc c) := by simp [rws]

set_option maxHeartbeats 16000000 in
theorem apply69 {G : Arena} {root : Nat} {np : Value} {tb rb : Nat} {nv : Value} {w : World} {ow : Nat → Nat} {β τ : List Nat} {m : Nat} {s : IS} (hR : RM G root np tb rb nv w ow β τ m s) (hG : 0 < G.length) {x : Nat} (hx : x ≤ 3) (hvl : x + 1 ≤ s.th.vals.length) (hA : ApP G root (idrop (x + 1) { s with fuel := s.fuel - 1 })) (hval : ∀ v ∈ s.th.vals, ok s v) (hm : m ≤ 19970) :
    Ret Tryz.prog 69 [ptr rb, i64c x] w (fun r w' => r = .tuple #[] ∧ ∃ bs τ', RP G root np tb rb nv w ow (β ++ bs) (τ ++ τ') (m + 4) (iapply G root x s) w') := by
  have hF : Fram (tg ow cmT) w w := Fram.refl _ _
  have hX : Xt w ow ow := Xt.refl _ _
  have hmr := hR.mem_r
  have hfin : ∀ {u : World} {ow' : Nat → Nat} {m' : Nat} {s' : IS}, Xt w ow ow' → Fram (tg ow cmT) w u → RM G root np tb rb nv u ow' β τ m' s' → m' ≤ m + 4 → ∃ bs τ', RP G root np tb rb nv w ow (β ++ bs) (τ ++ τ') (m + 4) s' u := fun h1 h2 h3 h4 => ⟨[], [], _, h1, h2, by rw [List.append_nil, List.append_nil]; exact h3.le h4⟩
  have hfin2 : ∀ {u : World} {ow' : Nat → Nat} {m' : Nat} {s' : IS} {bs : List Nat}, Xt w ow ow' → Fram (tg ow cmT) w u → RM G root np tb rb nv u ow' (β ++ bs) τ m' s' → m' ≤ m + 4 → ∃ bs τ', RP G root np tb rb nv w ow (β ++ bs) (τ ++ τ') (m + 4) s' u := fun {_ _ _ _ bs} h1 h2 h3 h4 => ⟨bs, [], _, h1, h2, by rw [List.append_nil]; exact h3.le h4⟩
  have hfin3 : ∀ {u : World} {ow' : Nat → Nat} {m' : Nat} {s' : IS} {ts : List Nat}, Xt w ow ow' → Fram (tg ow cmT) w u → RM G root np tb rb nv u ow' β (τ ++ ts) m' s' → m' ≤ m + 4 → ∃ bs τ', RP G root np tb rb nv w ow (β ++ bs) (τ ++ τ') (m + 4) s' u := fun {_ _ _ _ ts} h1 h2 h3 h4 => ⟨[], ts, _, h1, h2, by rw [List.append_nil]; exact h3.le h4⟩
  refine ret_of Tryz.func69 rfl Tryz.ntmps69 rfl ?_
  refine c_seq (fun K1 hK1 => ?_)
  refine c_seq (fun K2 hK2 => ?_)
  refine c_reg ?_ -- region 0 compm.go:678
  refine wl (ro_move rfl) ?_
  refine wl_call rfl en_63 (burn63 hR.dr) ?_
  rintro _ u1 ⟨rfl, ow1, x1, f1, r1⟩
  have hs1 := hF.size
  replace hF := cm_trans hX hF f1
  replace hX := hX.trans hs1 x1
  replace hR := r1
  refine wl (ro_not rfl) ?_
  refine wl_nil (x_then (hK2 _ _ ?_))
  clear hK2 K2
  refine wc_cond rfl (fun hc26 => ?_) (fun hc26 => ?_)
  · try simp only [decide_eq_true_eq, decide_eq_false_iff_not, Bool.not_eq_true', Bool.not_eq_false', Bool.not_eq_eq_eq_not, Bool.not_true, Bool.not_false, beq_iff_eq, bne_iff_ne, ne_eq, beq_eq_false_iff_ne, bne_eq_false_iff_eq, gt_iff_lt, ge_iff_le, Int.not_lt, Int.not_le] at hc26
    have hf0 : s.fuel = 0 := by simpa using hc26
    refine c_ret (x_thenR ?_)
    refine bp_ret Tryz.results69 rfl ?_
    refine ⟨rfl, ?_⟩
    unfold iapply
    rw [if_pos hf0]
    unfold iburn at hR
    rw [if_pos hf0] at hR
    exact hfin hX hF hR (by omega)
  · try simp only [decide_eq_true_eq, decide_eq_false_iff_not, Bool.not_eq_true', Bool.not_eq_false', Bool.not_eq_eq_eq_not, Bool.not_true, Bool.not_false, beq_iff_eq, bne_iff_ne, ne_eq, beq_eq_false_iff_ne, bne_eq_false_iff_eq, gt_iff_lt, ge_iff_le, Int.not_lt, Int.not_le] at hc26
    have hf0 : ¬ s.fuel = 0 := by simpa using hc26
    have hgoal : iapply G root x s = iapply1 G root (({ s with fuel := s.fuel - 1 } : IS).th.vals.take x).reverse (({ s with fuel := s.fuel - 1 } : IS).top x) (idrop (x + 1) { s with fuel := s.fuel - 1 }) := by
      unfold iapply
      rw [if_neg hf0]
      rfl
    unfold iburn at hR
    rw [if_neg hf0] at hR
    have hval1 : ∀ v ∈ ({ s with fuel := s.fuel - 1 } : IS).th.vals, ok { s with fuel := s.fuel - 1 } v := hval
    have hvl1 : x + 1 ≤ ({ s with fuel := s.fuel - 1 } : IS).th.vals.length := hvl
    clear hval hvl
    generalize ({ s with fuel := s.fuel - 1 } : IS) = s1 at *
    have hcl := hR.cl
    refine c_skip (x_then (hK1 _ _ ?_))
    clear hK1 K1
    refine forget [(0, _), (1, _)] ⟨rfl, rfl, trivial⟩ (fun e => ?_)
    refine c_seq (fun K3 hK3 => ?_)
    obtain ⟨cv, a0, a1, a2, a3, a4, gT, capT, lT, bT, tvT, vvT, hXr, hO, hlT, hcapT, hbT, hTh, hgT⟩ := hR.open
    have hB := hTh.k
    have hkb := hTh.t
    have hclT := hR.cl
    unfold rnc at hXr
    have hk70 := hR.t70
    refine c_pi [(0, false), (1, false), (2, false), (3, false), (4, false), (5, false), (6, false), (7, false), (8, false), (9, false), (10, false)] (SameH _) mixed (by kernel_rfl) rfl (by kernel_rfl) (po_then (po_bp)) (sameH_now _ _) ?_ -- region 1 compm.go:681
    refine pi_ro rfl (fun w hS => ro_move rfl) ?_
    refine pi_ro rfl (fun w hS => ro_nilCheck rfl) ?_
    refine pi_ro rfl (fun w hS => ro_fieldAddr (k := 5) rfl fo_112_5) ?_
    refine pi_ro rfl (fun w hS => ro_loadB rfl sc_109 (Blk.of_heap (by assumption) hS) rfl) ?_
    refine pi_ro rfl (fun w hS => ro_move rfl) ?_
    refine pi_ro rfl (fun w hS => ro_nilCheck rfl) ?_
    refine pi_ro rfl (fun w hS => ro_fieldAddr (k := 12) rfl fo_112_8) ?_
    refine pi_ro rfl (fun w hS => ro_loadB rfl sc_3 (Blk.of_heap (by assumption) hS) rfl) ?_
    refine pi_ro rfl (fun w hS => ro_indexAddr (et := 123) (k := 1) rfl rfl se_109 rfl (by omega)) ?_
    refine pi_ro rfl (fun w hS => ro_loadB rfl sc_123 (Blk.of_heap hO hS) (hlT)) ?_
    refine pi_ro rfl (fun w hS => ro_assign rfl) ?_
    refine pi_nil (x_then (hK3 _ _ ?_))
    clear hK3 K3
    refine forget [(0, _), (1, _), (4, _)] ⟨rfl, rfl, rfl, trivial⟩ (fun e => ?_)
    refine c_seq (fun K4 hK4 => ?_)
    obtain ⟨b0, hb0⟩ : ∃ b0, b0 = bT := ⟨_, rfl⟩
    subst hb0
    have hb0 := hbT
    clear hTh hkb hlT hbT hcapT hgT hclT hk70
    refine c_reg ?_ -- region 2 compm.go:682
    refine wl_new (ze_225) (fun b5 w2 hbb5 h5 F2 => ?_)
    have hbsb5 := Nat.le_trans hF.size hbb5
    have kh5 := hR.df b5 hbb5
    replace hF := hF.thenDrew.thenN F2
    replace hR := hR.thruN ((Fram.refl none' _).thenDrew.thenN F2)
    refine wl_nil (x_then (hK4 _ _ ?_))
    clear hK4 K4
    refine c_seq (fun K5 hK5 => ?_)
    refine c_seq (fun K6 hK6 => ?_)
    refine c_reg ?_ -- region 3 compm.go:683
    refine wl (ro_move rfl) ?_
    refine wl (ro_arith rfl rfl rfl (Go.IntWalk.i64_in _ (by omega))) ?_
    refine wl (ro_assign rfl) ?_
    refine wl_nil (x_then (hK6 _ _ ?_))
    clear hK6 K6
    refine c_block ?_
    -- loop@r4: live slots [0, 1, 4, 5, 6]
    refine c_loopG (fun mm a' w' => ∃ r ow', mm = r ∧ r ≤ x ∧ Xt w ow ow' ∧ Fram (tg ow cmT) w w' ∧ RM G root np tb rb nv w' ow' β τ m (idrop (x - r) s1) ∧ Blk w'.heap b5 (rws pvc (argL s1.th.vals x r)) 225 ∧ ow' b5 = 66 ∧ ∃ e, a' = Fr 403 (upds e [(0, ptr rb), (1, i64c x), (4, ptr b0), (5, ptr b5), (6, .int .i64 ((r : Int) - 1))]) []) x ⟨x, _, rfl, Nat.le_refl _, hX, hF.thenDrew, by rw [Nat.sub_self, drop_zero hcl]; exact hR.dr, by unfold argL; rw [Nat.sub_self, List.take_zero, List.reverse_nil, List.append_nil, List.replicate_append_replicate, show x + (3 - x) = 3 by omega]; exact h5, kh5, kp _ ⟨rfl, rfl, rfl, rfl, rfl, trivial⟩⟩ ?_
    clear hR hF hX h5 kh5 hXr hO hB
    rintro r a' u1 ⟨_, ow4, rfl, hrx, hX, hF, hR, h5, kh5, e, rfl⟩
    refine c_seq (fun K7 hK7 => ?_)
    refine c_seq (fun K8 hK8 => ?_)
    refine c_reg ?_ -- region 4 compm.go:683
    refine wl (ro_move rfl) ?_
    refine wl (ro_cmp rfl rfl rfl) ?_
    refine wl_nil (x_then (hK8 _ _ ?_))
    clear hK8 K8
    refine wc_cond rfl (fun hc40 => ?_) (fun hc40 => ?_)
    · try simp only [decide_eq_true_eq, decide_eq_false_iff_not, Bool.not_eq_true', Bool.not_eq_false', Bool.not_eq_eq_eq_not, Bool.not_true, Bool.not_false, beq_iff_eq, bne_iff_ne, ne_eq, beq_eq_false_iff_ne, bne_eq_false_iff_eq, gt_iff_lt, ge_iff_le, Int.not_lt, Int.not_le] at hc40
      obtain ⟨r', rfl⟩ : ∃ r', r = r' + 1 := ⟨r - 1, by omega⟩
      have hpv : (idrop (x - (r' + 1)) s1).top 0 = s1.th.vals.getD (x - (r' + 1)) vNil := by rw [top_drop hcl]; rfl
      refine c_skip (x_then (hK7 _ _ ?_))
      clear hK7 K7
      refine forget [(0, _), (1, _), (4, _), (5, _), (6, _)] ⟨rfl, rfl, rfl, rfl, rfl, trivial⟩ (fun e => ?_)
      refine c_seq (fun K9 hK9 => ?_)
      refine c_block ?_
      refine c_reg ?_ -- region 6 compm.go:684
      refine wl (ro_move rfl) ?_
      refine wl (ro_move rfl) ?_
      refine wl_call rfl en_59 (pop59 hR.dr (by rw [drop_vals hcl, List.length_drop]; omega) (by omega)) ?_
      rintro _ u3 ⟨rfl, ow3, x3, f3, r3⟩
      obtain ⟨h5, kh5⟩ := cm_loc x3 f3 h5 kh5
      have hs3 := hF.size
      replace hF := cm_trans hX hF f3
      replace hX := hX.trans hs3 x3
      replace hR := r3
      rw [drop_drop hcl, show x - (r' + 1) + 1 = x - r' by omega] at hR
      rw [hpv]
      refine wl (ro_indexAddrA (et := 119) (k := 3) rfl rfl ar_225 ((show (((r' + 1 : Nat) : Int) - 1) = ((r' : Nat) : Int) by omega)) ((by omega))) ?_
      refine wl_puta rfl rfl ((pvc_one _)) sz_119 (rfl) h5 ((by rw [rws_len pvc_len, argL_len (by omega) (by omega) (by omega)]; omega)) ((by rw [rw_puta pvc_len (i := r') (by rw [argL_len (by omega) (by omega) (by omega)]; omega) (by omega), argL_set (by omega) (by omega)])) (fun w4 h5 F4 => ?_)
      replace hF := hF.thenDrew.thenO F4 (by first | exact .inr (by omega) | exact .inl rfl | exact .inl (by assumption) | assumption)
      replace hR := hR.hbput ((Fram.refl (one b5) _).thenDrew.thenO F4 (.inl rfl))
      refine wl_nil (x_blk (x_then (hK9 _ _ ?_)))
      clear hK9 K9
      refine c_reg ?_ -- region 5 compm.go:683
      refine wl (ro_move rfl) ?_
      refine wl (ro_arith rfl rfl rfl (Go.IntWalk.i64_in _ (by omega))) ?_
      refine wl (ro_assign rfl) ?_
      refine wl_nil (x_then ?_)
      refine ⟨r', by omega, r', _, rfl, by omega, hX, hF, hR, h5, kh5, ?_⟩
      rw [show (((r' + 1 : Nat) : Int) - 1 - 1) = ((r' : Nat) : Int) - 1 by omega]
      exact kp _ ⟨rfl, rfl, rfl, rfl, rfl, trivial⟩
    · try simp only [decide_eq_true_eq, decide_eq_false_iff_not, Bool.not_eq_true', Bool.not_eq_false', Bool.not_eq_eq_eq_not, Bool.not_true, Bool.not_false, beq_iff_eq, bne_iff_ne, ne_eq, beq_eq_false_iff_ne, bne_eq_false_iff_eq, gt_iff_lt, ge_iff_le, Int.not_lt, Int.not_le] at hc40
      have hr0 : r = 0 := by omega
      subst hr0
      rw [Nat.sub_zero] at hR
      obtain ⟨a, b, c, hL, ha, hb, hzs⟩ := argL_abc (l := s1.th.vals) hx (by omega)
      have hzl : (s1.th.vals.take x).reverse.length = x := by simp; omega
      have hokz : ∀ v ∈ (s1.th.vals.take x).reverse, ok s1 v := fun v hv => hval1 v (List.mem_of_mem_take (List.mem_reverse.1 hv))
      have hok0 : ∀ i, ok s1 ((s1.th.vals.take x).reverse.getD i vNil) := fun i => by
        rw [List.getD_eq_getElem?_getD]
        cases hi : (s1.th.vals.take x).reverse[i]? with
        | none => exact ok_nil _ _ _
        | some v => exact hokz v (List.mem_of_getElem? hi)
      have hoka := hok0 0
      have hokb := hok0 1
      rw [ha] at hoka
      rw [hb] at hokb
      have hokf : ok s1 (s1.top x) := hval1 _ (by unfold IS.top; rw [List.getD_eq_getElem?_getD, List.getElem?_eq_getElem (by omega)]; exact List.getElem_mem _)
      rw [hL, rws3] at h5
      unfold iapply1 at hgoal
      rw [ha, hb] at hgoal
      simp only at hgoal
      generalize hzg : (s1.th.vals.take x).reverse = zs at *
      refine c_exit (x_thenX (x_thenX (x_blkX (x_then (hK5 _ _ ?_)))))
      clear hK7 K7 hK5 K5
      refine forget [(0, _), (1, _), (4, _), (5, _)] ⟨rfl, rfl, rfl, rfl, trivial⟩ (fun e => ?_)
      refine c_seq (fun K10 hK10 => ?_)
      refine c_reg ?_ -- region 7 compm.go:686
      refine wl (ro_move rfl) ?_
      refine wl_call rfl en_59 (pop59 hR.dr (by rw [drop_vals hcl, List.length_drop]; omega) (by omega)) ?_
      rintro _ u5 ⟨rfl, ow5, x5, f5, r5⟩
      obtain ⟨h5, kh5⟩ := cm_loc x5 f5 h5 kh5
      have hs5 := hF.size
      replace hF := cm_trans hX hF f5
      replace hX := hX.trans hs5 x5
      replace hR := r5
      rw [drop_drop hcl] at hR
      rw [top_drop hcl, Nat.add_zero]
      have hoka : ok (idrop (x + 1) s1) a := ⟨hoka.wf, hoka.w, hoka.f, by unfold idrop IS.setT; simp only [List.length_set]; exact hoka.co, hoka.tb, hoka.nan⟩
      have hokb : ok (idrop (x + 1) s1) b := ⟨hokb.wf, hokb.w, hokb.f, by unfold idrop IS.setT; simp only [List.length_set]; exact hokb.co, hokb.tb, hokb.nan⟩
      have hokf : ok (idrop (x + 1) s1) (s1.top x) := ⟨hokf.wf, hokf.w, hokf.f, by unfold idrop IS.setT; simp only [List.length_set]; exact hokf.co, hokf.tb, hokf.nan⟩
      have hb0 : τ[(idrop (x + 1) s1).cur]? = some b0 := hb0
      generalize hfn : s1.top x = fn at *
      generalize idrop (x + 1) s1 = s2 at *
      clear hL
      refine wl_new (ze_119) (fun b7 w6 hbb7 h7 F6 => ?_)
      have hbsb7 := Nat.le_trans hF.size hbb7
      have hneb5b7 : b5 < b7 := Nat.lt_of_lt_of_le h5.lt hbb7
      have kh7 := hR.df b7 hbb7
      replace hF := hF.thenDrew.thenN F6
      replace hR := hR.thruN ((Fram.refl none' _).thenDrew.thenN F6)
      replace h5 := F6.blkN h5
      refine wl_puta rfl rfl ((pvc_one _)) sz_119 (rfl) h7 ((by simp)) (rfl) (fun w7 h7 F7 => ?_)
      replace hF := hF.thenDrew.thenO F7 (by first | exact .inr (by omega) | exact .inl rfl | exact .inl (by assumption) | assumption)
      replace hR := hR.hbput ((Fram.refl (one b7) _).thenDrew.thenO F7 (.inl rfl))
      replace h5 := F7.blkO h5 (by first | omega | exact ow_ne (by assumption) (by assumption) (by omega))
      refine wl_nil (x_then (hK10 _ _ ?_))
      clear hK10 K10
      refine c_seq (fun K11 hK11 => ?_)
      refine c_seq (fun K12 hK12 => ?_)
      refine c_reg ?_ -- region 8 compm.go:687
      refine wl (ro_fieldAddr (k := 0) rfl fo_119_0) ?_
      refine wl (ro_loadB rfl sc_3 (by assumption) rfl) ?_
      refine wl (ro_cmp rfl rfl rfl) ?_
      refine wl_nil (x_then (hK12 _ _ ?_))
      clear hK12 K12
      refine wc_cond rfl (fun hc51 => ?_) (fun hc51 => ?_)
      · try simp only [decide_eq_true_eq, decide_eq_false_iff_not, Bool.not_eq_true', Bool.not_eq_false', Bool.not_eq_eq_eq_not, Bool.not_true, Bool.not_false, beq_iff_eq, bne_iff_ne, ne_eq, beq_eq_false_iff_ne, bne_eq_false_iff_eq, gt_iff_lt, ge_iff_le, Int.not_lt, Int.not_le] at hc51
        refine c_seq (fun K13 hK13 => ?_)
        refine c_seq (fun K14 hK14 => ?_)
        obtain ⟨cv, a0, a1, a2, a3, a4, gT, capT, lT, bT, tvT, vvT, hXr, hO, hlT, hcapT, hbT, hTh, hgT⟩ := hR.open
        have hB := hTh.k
        have hkb := hTh.t
        have hclT := hR.cl
        unfold rnc at hXr
        have hk70 := hR.t70
        have hbe : bT = b0 := Option.some.inj (hbT.symm.trans hb0)
        subst hbe
        refine c_reg ?_ -- region 9 compm.go:688
        refine wl (ro_move rfl) ?_
        refine wl (ro_nilCheck rfl) ?_
        refine wl (ro_fieldAddr (k := 2) rfl fo_126_2) ?_
        refine wl (ro_loadB rfl sc_3 (by assumption) rfl) ?_
        refine wl (ro_cmp rfl rfl rfl) ?_
        refine wl_nil (x_then (hK14 _ _ ?_))
        clear hK14 K14
        refine wc_cond rfl (fun hc56 => ?_) (fun hc56 => ?_)
        · try simp only [decide_eq_true_eq, decide_eq_false_iff_not, Bool.not_eq_true', Bool.not_eq_false', Bool.not_eq_eq_eq_not, Bool.not_true, Bool.not_false, beq_iff_eq, bne_iff_ne, ne_eq, beq_eq_false_iff_ne, bne_eq_false_iff_eq, gt_iff_lt, ge_iff_le, Int.not_lt, Int.not_le] at hc56
          refine c_seq (fun K15 hK15 => ?_)
          refine c_reg ?_ -- region 10 compm.go:689
          refine wl (ro_move rfl) ?_
          refine wl_call rfl en_64 (raise64 (z := mDepth) hR.dr (by decide) hA.rt (by omega)) ?_
          rintro _ u8 ⟨rfl, ow8, x8, f8, r8⟩
          obtain ⟨h5, kh5⟩ := cm_loc x8 f8 h5 kh5
          obtain ⟨h7, kh7⟩ := cm_loc x8 f8 h7 kh7
          have hs8 := hF.size
          replace hF := cm_trans hX hF f8
          replace hX := hX.trans hs8 x8
          replace hR := r8
          refine wl_nil (x_then (hK15 _ _ ?_))
          clear hK15 K15
          refine c_ret (x_thenR (x_thenR ?_))
          refine bp_ret Tryz.results69 rfl ?_
          refine ⟨rfl, ?_⟩
          rw [hgoal]
          try subst hvp hvq
          try dsimp only at *
          first
          | (exfalso; omega)
          | (repeat (first | rw [if_pos (by omega)] | rw [if_neg (by omega)])
             first
             | exact hfin hX hF hR (by omega)
             | exact hfin2 hX hF hR (by omega)
             | exact hfin3 hX hF hR (by omega))
        · try simp only [decide_eq_true_eq, decide_eq_false_iff_not, Bool.not_eq_true', Bool.not_eq_false', Bool.not_eq_eq_eq_not, Bool.not_true, Bool.not_false, beq_iff_eq, bne_iff_ne, ne_eq, beq_eq_false_iff_ne, bne_eq_false_iff_eq, gt_iff_lt, ge_iff_le, Int.not_lt, Int.not_le] at hc56
          refine c_skip (x_then (hK13 _ _ ?_))
          clear hK13 K13
          refine forget [(0, _), (1, _), (5, _), (7, _)] ⟨rfl, rfl, rfl, rfl, trivial⟩ (fun e => ?_)
          refine c_seq (fun K16 hK16 => ?_)
          have hfl := hokf.f (by omega)
          have hcc : s2.clos[fn.N]? = some (s2.clos.getD fn.N (0, 0)) := by rw [List.getD_eq_getElem?_getD, List.getElem?_eq_getElem hfl]; rfl
          obtain ⟨-, hci, ⟨ps, hnm, hp3⟩, -⟩ := hA.cl _ (List.mem_of_getElem? hcc)
          have hnc := hA.nc
          have hzz : ∀ (i : Nat) z, zs[i]? = some z → some (⟨b5, 0, none⟩ : Addr) = some ⟨b5, 0, none⟩ ∧ ((pvc a ++ (pvc b ++ pvc c)).drop (0 + i * 3)).take 3 = pvc z := fun i z hi => ⟨rfl, by
            rcases hzs i z hi with ⟨rfl, rfl⟩ | ⟨rfl, rfl⟩ | ⟨rfl, rfl⟩ <;> rfl⟩
          have hdp := hA.dp s2.th (List.mem_of_getElem? (th_at hR.cl))
          refine c_piL 6 [(0, false), (1, false), (2, false), (3, false), (4, false), (5, false)] (SameH _) mixed (by kernel_rfl) rfl (by kernel_rfl) (po_then (po_then (po_bp))) (sameH_now _ _) ?_ -- region 11 compm.go:692
          refine ql_ro rfl (fun w hS => ro_move rfl) ?_
          refine ql_ro rfl (fun w hS => ro_fieldAddr (k := 1) rfl fo_119_1) ?_
          refine ql_ro rfl (fun w hS => ro_loadB rfl sc_117 (Blk.of_heap (by assumption) hS) rfl) ?_
          refine ql_ro rfl (fun w hS => ro_conv rfl sc_117 in_3 (Go.IntWalk.i64_in _ (by omega))) ?_
          refine ql_ro rfl (fun w hS => ro_move rfl) ?_
          refine ql_ro rfl (fun w hS => ro_sliceAH (h := zs.length) rfl rfl ar_225 (by rw [hzl]) (by omega)) ?_
          refine ql_lastC rfl rfl en_32 (enter32 (c := fn.N) (prot := 0) hR.dr hG hfl hci hnm hp3 h5 kh5 hzz (by omega) (by omega)) ?_
          rintro _ u9 ⟨rfl, bs, ow9, x9, f9, r9⟩
          obtain ⟨h5, kh5⟩ := cm_loc x9 f9 h5 kh5
          obtain ⟨h7, kh7⟩ := cm_loc x9 f9 h7 kh7
          have hs9 := hF.size
          replace hF := cm_trans hX hF f9
          replace hX := hX.trans hs9 x9
          replace hR := r9
          refine x_then (hK16 _ _ ?_)
          clear hK16 K16
          refine c_ret (x_thenR ?_)
          refine bp_ret Tryz.results69 rfl ?_
          refine ⟨rfl, ?_⟩
          rw [hgoal]
          try subst hvp hvq
          try dsimp only at *
          first
          | (exfalso; omega)
          | (repeat (first | rw [if_pos (by omega)] | rw [if_neg (by omega)])
             first
             | exact hfin hX hF hR (by omega)
             | exact hfin2 hX hF hR (by omega)
             | exact hfin3 hX hF hR (by omega))
      · try simp only [decide_eq_true_eq, decide_eq_false_iff_not, Bool.not_eq_true', Bool.not_eq_false', Bool.not_eq_eq_eq_not, Bool.not_true, Bool.not_false, beq_iff_eq, bne_iff_ne, ne_eq, beq_eq_false_iff_ne, bne_eq_false_iff_eq, gt_iff_lt, ge_iff_le, Int.not_lt, Int.not_le] at hc51
        refine c_skip (x_then (hK11 _ _ ?_))
        clear hK11 K11
        refine c_seq (fun K17 hK17 => ?_)
        refine c_seq (fun K18 hK18 => ?_)
        refine c_reg ?_ -- region 12 compm.go:695
        refine wl (ro_fieldAddr (k := 0) rfl fo_119_0) ?_
        refine wl (ro_loadB rfl sc_3 (by assumption) rfl) ?_
        refine wl (ro_cmp rfl rfl rfl) ?_
        refine wl_nil (x_then (hK18 _ _ ?_))
        clear hK18 K18
        refine wc_cond rfl (fun hc68 => ?_) (fun hc68 => ?_)
        · try simp only [decide_eq_true_eq, decide_eq_false_iff_not, Bool.not_eq_true', Bool.not_eq_false', Bool.not_eq_eq_eq_not, Bool.not_true, Bool.not_false, beq_iff_eq, bne_iff_ne, ne_eq, beq_eq_false_iff_ne, bne_eq_false_iff_eq, gt_iff_lt, ge_iff_le, Int.not_lt, Int.not_le] at hc68
          refine c_seq (fun K19 hK19 => ?_)
          refine c_reg ?_ -- region 13 compm.go:696
          refine wl (ro_move rfl) ?_
          refine wl_call rfl en_64 (raise64 (z := mCall) hR.dr (by decide) hA.rt (by omega)) ?_
          rintro _ u10 ⟨rfl, ow10, x10, f10, r10⟩
          obtain ⟨h5, kh5⟩ := cm_loc x10 f10 h5 kh5
          obtain ⟨h7, kh7⟩ := cm_loc x10 f10 h7 kh7
          have hs10 := hF.size
          replace hF := cm_trans hX hF f10
          replace hX := hX.trans hs10 x10
          replace hR := r10
          refine wl_nil (x_then (hK19 _ _ ?_))
          clear hK19 K19
          refine c_ret (x_thenR ?_)
          refine bp_ret Tryz.results69 rfl ?_
          refine ⟨rfl, ?_⟩
          rw [hgoal]
          try subst hvp hvq
          try dsimp only at *
          first
          | (exfalso; omega)
          | (repeat (first | rw [if_pos (by omega)] | rw [if_neg (by omega)])
             first
             | exact hfin hX hF hR (by omega)
             | exact hfin2 hX hF hR (by omega)
             | exact hfin3 hX hF hR (by omega))
        · try simp only [decide_eq_true_eq, decide_eq_false_iff_not, Bool.not_eq_true', Bool.not_eq_false', Bool.not_eq_eq_eq_not, Bool.not_true, Bool.not_false, beq_iff_eq, bne_iff_ne, ne_eq, beq_eq_false_iff_ne, bne_eq_false_iff_eq, gt_iff_lt, ge_iff_le, Int.not_lt, Int.not_le] at hc68
          refine c_skip (x_then (hK17 _ _ ?_))
          clear hK17 K17
          refine forget [(0, _), (4, _), (5, _), (7, _)] ⟨rfl, rfl, rfl, rfl, trivial⟩ (fun e => ?_)
          refine c_seq (fun K20 hK20 => ?_)
          have h6 : fn.T = 6 := by omega
          have hN6 := wf6 hokf.wf h6
          refine c_reg ?_ -- region 14 compm.go:699
          refine wl (ro_indexAddrA (et := 119) (k := 3) rfl rfl ar_225 ((show (0 : Int) = ((0 : Nat) : Int) from rfl)) ((by omega))) ?_
          refine wl (ro_loadAggB rfl ag_119 (h5) (rfl) (rfl)) ?_
          refine wl_new (ze_119) (fun b8 w11 hbb8 h8 F11 => ?_)
          have hbsb8 := Nat.le_trans hF.size hbb8
          have hneb5b8 : b5 < b8 := Nat.lt_of_lt_of_le h5.lt hbb8
          have hneb7b8 : b7 < b8 := Nat.lt_of_lt_of_le h7.lt hbb8
          have kh8 := hR.df b8 hbb8
          replace hF := hF.thenDrew.thenN F11
          replace hR := hR.thruN ((Fram.refl none' _).thenDrew.thenN F11)
          replace h5 := F11.blkN h5
          replace h7 := F11.blkN h7
          refine wl_puta rfl rfl ((pvc_one _)) sz_119 (rfl) h8 ((by simp)) ((show _ = pvc a from rfl)) (fun w12 h8 F12 => ?_)
          replace hF := hF.thenDrew.thenO F12 (by first | exact .inr (by omega) | exact .inl rfl | exact .inl (by assumption) | assumption)
          replace hR := hR.hbput ((Fram.refl (one b8) _).thenDrew.thenO F12 (.inl rfl))
          replace h5 := F12.blkO h5 (by first | omega | exact ow_ne (by assumption) (by assumption) (by omega))
          replace h7 := F12.blkO h7 (by first | omega | exact ow_ne (by assumption) (by assumption) (by omega))
          refine wl_nil (x_then (hK20 _ _ ?_))
          clear hK20 K20
          refine forget [(0, _), (4, _), (5, _), (7, _), (8, _)] ⟨rfl, rfl, rfl, rfl, rfl, trivial⟩ (fun e => ?_)
          refine c_seq (fun K21 hK21 => ?_)
          refine c_reg ?_ -- region 15 compm.go:700
          refine wl (ro_indexAddrA (et := 119) (k := 3) rfl rfl ar_225 ((show (1 : Int) = ((1 : Nat) : Int) from rfl)) ((by omega))) ?_
          refine wl (ro_loadAggB rfl ag_119 (h5) (rfl) (rfl)) ?_
          refine wl_new (ze_119) (fun b9 w13 hbb9 h9 F13 => ?_)
          have hbsb9 := Nat.le_trans hF.size hbb9
          have hneb5b9 : b5 < b9 := Nat.lt_of_lt_of_le h5.lt hbb9
          have hneb7b9 : b7 < b9 := Nat.lt_of_lt_of_le h7.lt hbb9
          have hneb8b9 : b8 < b9 := Nat.lt_of_lt_of_le h8.lt hbb9
          have kh9 := hR.df b9 hbb9
          replace hF := hF.thenDrew.thenN F13
          replace hR := hR.thruN ((Fram.refl none' _).thenDrew.thenN F13)
          replace h5 := F13.blkN h5
          replace h7 := F13.blkN h7
          replace h8 := F13.blkN h8
          refine wl_puta rfl rfl ((pvc_one _)) sz_119 (rfl) h9 ((by simp)) ((show _ = pvc b from rfl)) (fun w14 h9 F14 => ?_)
          replace hF := hF.thenDrew.thenO F14 (by first | exact .inr (by omega) | exact .inl rfl | exact .inl (by assumption) | assumption)
          replace hR := hR.hbput ((Fram.refl (one b9) _).thenDrew.thenO F14 (.inl rfl))
          replace h5 := F14.blkO h5 (by first | omega | exact ow_ne (by assumption) (by assumption) (by omega))
          replace h7 := F14.blkO h7 (by first | omega | exact ow_ne (by assumption) (by assumption) (by omega))
          replace h8 := F14.blkO h8 (by first | omega | exact ow_ne (by assumption) (by assumption) (by omega))
          refine wl_nil (x_then (hK21 _ _ ?_))
          clear hK21 K21
          refine forget [(0, _), (4, _), (5, _), (7, _), (8, _), (9, _)] ⟨rfl, rfl, rfl, rfl, rfl, rfl, trivial⟩ (fun e => ?_)
          refine c_seq (fun K22 hK22 => ?_)
          refine c_reg ?_ -- region 16 compm.go:701
          refine wl_new (ze_119) (fun b10 w15 hbb10 h10 F15 => ?_)
          have hbsb10 := Nat.le_trans hF.size hbb10
          have hneb5b10 : b5 < b10 := Nat.lt_of_lt_of_le h5.lt hbb10
          have hneb7b10 : b7 < b10 := Nat.lt_of_lt_of_le h7.lt hbb10
          have hneb8b10 : b8 < b10 := Nat.lt_of_lt_of_le h8.lt hbb10
          have hneb9b10 : b9 < b10 := Nat.lt_of_lt_of_le h9.lt hbb10
          have kh10 := hR.df b10 hbb10
          replace hF := hF.thenDrew.thenN F15
          replace hR := hR.thruN ((Fram.refl none' _).thenDrew.thenN F15)
          replace h5 := F15.blkN h5
          replace h7 := F15.blkN h7
          replace h8 := F15.blkN h8
          replace h9 := F15.blkN h9
          refine wl_new (ze_119) (fun b11 w16 hbb11 h11 F16 => ?_)
          have hbsb11 := Nat.le_trans hF.size hbb11
          have hneb5b11 : b5 < b11 := Nat.lt_of_lt_of_le h5.lt hbb11
          have hneb7b11 : b7 < b11 := Nat.lt_of_lt_of_le h7.lt hbb11
          have hneb8b11 : b8 < b11 := Nat.lt_of_lt_of_le h8.lt hbb11
          have hneb9b11 : b9 < b11 := Nat.lt_of_lt_of_le h9.lt hbb11
          have hneb10b11 : b10 < b11 := Nat.lt_of_lt_of_le h10.lt hbb11
          have kh11 := hR.df b11 hbb11
          replace hF := hF.thenDrew.thenN F16
          replace hR := hR.thruN ((Fram.refl none' _).thenDrew.thenN F16)
          replace h5 := F16.blkN h5
          replace h7 := F16.blkN h7
          replace h8 := F16.blkN h8
          replace h9 := F16.blkN h9
          replace h10 := F16.blkN h10
          refine wl_nil (x_then (hK22 _ _ ?_))
          clear hK22 K22
          refine c_seq (fun K23 hK23 => ?_)
          refine c_seq (fun K24 hK24 => ?_)
          have h10 : Blk _ b10 (pvc vNil) 119 := h10
          have h11 : Blk _ b11 (pvc vNil) 119 := h11
          have hpa := wf_f hoka.wf hoka.w
          have hta := txV_len hoka
          have hout := hA.out
          refine c_reg ?_ -- region 17 compm.go:702
          refine wl (ro_fieldAddr (k := 1) rfl fo_119_1) ?_
          refine wl (ro_loadB rfl sc_117 (by assumption) rfl) ?_
          refine wl (ro_conv rfl sc_117 in_3 (Go.IntWalk.i64_in _ (by omega))) ?_
          refine wl_nil (x_then (hK24 _ _ ?_))
          clear hK24 K24
          refine c_block ?_
          refine forget [(0, _), (4, _), (5, _), (8, _), (9, _), (10, _), (11, _), (77, _)] ⟨rfl, rfl, rfl, rfl, rfl, rfl, rfl, rfl, trivial⟩ (fun e => ?_)
          refine c_seq (fun K25 hK25 => ?_)
          refine c_reg ?_ -- region 18 compm.go:703
          refine wl (ro_cmp rfl rfl rfl) ?_
          refine wl (ro_assign rfl) ?_
          refine wl_nil (x_then (hK25 _ _ ?_))
          clear hK25 K25
          refine wc_cond rfl (fun hc78 => ?_) (fun hc78 => ?_)
          · try simp only [decide_eq_true_eq, decide_eq_false_iff_not, Bool.not_eq_true', Bool.not_eq_false', Bool.not_eq_eq_eq_not, Bool.not_true, Bool.not_false, beq_iff_eq, bne_iff_ne, ne_eq, beq_eq_false_iff_ne, bne_eq_false_iff_eq, gt_iff_lt, ge_iff_le, Int.not_lt, Int.not_le] at hc78
            refine c_seq (fun K26 hK26 => ?_)
            refine c_pi [(0, false), (1, false), (2, false), (3, false), (4, false), (5, true), (6, false)] (La b5 _ _ (La b7 _ _ (La b8 _ _ (La b9 _ _ (La b10 _ _ (La b11 _ _ (Lz rb _ _ _))))))) mixed (by kernel_rfl) rfl (by kernel_rfl) (po_then (po_blk (po_then (po_bp)))) (⟨h5, h7, h8, h9, h10, h11, hR.rz⟩) ?_ -- region 19 compm.go:704
            refine pi_ro rfl (fun w hS => ro_move rfl) ?_
            refine pi_ro rfl (fun w hS => ro_nilCheck rfl) ?_
            refine pi_ro rfl (fun w hS => ro_fieldAddr (k := 0) rfl fo_112_0) ?_
            refine pi_ro rfl (fun w hS => let ⟨_, hc⟩ := hS.2.2.2.2.2.2; ro_loadB rfl sc_46 hc rfl) ?_
            refine pi_ro rfl (fun w hS => ro_loadAggB rfl ag_119 (hS.2.2.1) rfl rfl) ?_
            refine pi_call rfl rfl en_119 (Text119 hpa (fun q ↦ wf6 hoka.wf q)) ?_
            rintro _ w17 ⟨rfl, F17⟩
            replace hF := hF.thenDrew.thenN F17
            replace hR := hR.thruN ((Fram.refl none' _).thenDrew.thenN F17)
            replace h5 := F17.blkN h5
            replace h7 := F17.blkN h7
            replace h8 := F17.blkN h8
            replace h9 := F17.blkN h9
            replace h10 := F17.blkN h10
            replace h11 := F17.blkN h11
            refine ⟨⟨h5, h7, h8, h9, h10, h11, hR.rz⟩, ?_⟩
            refine pi_ro rfl (fun w hS => ro_assign rfl) ?_
            refine pi_nil (x_then (hK26 _ _ ?_))
            clear hK26 K26
            refine c_seq (fun K27 hK27 => ?_)
            refine c_seq (fun K28 hK28 => ?_)
            obtain ⟨cv, hv_, a0, a1, a2, a3, a4, hXr, hq2, hq3, hq4⟩ := hR.r
            unfold rnc at hXr
            have hk70 := hR.t70
            refine c_reg ?_ -- region 20 compm.go:705
            refine wl (ro_move rfl) ?_
            refine wl (ro_nilCheck rfl) ?_
            refine wl (ro_fieldAddr (k := 15) rfl fo_112_11) ?_
            refine wl (ro_loadB rfl sc_9 (by assumption) rfl) ?_
            refine wl (ro_lenS rfl st_9) ?_
            refine wl (ro_move rfl) ?_
            refine wl (ro_lenS rfl st_9) ?_
            refine wl (ro_arith rfl rfl rfl (Go.IntWalk.i64_in _ (by omega))) ?_
            refine wl (ro_arith rfl rfl rfl (Go.IntWalk.i64_in _ (by omega))) ?_
            refine wl (ro_cmp rfl rfl rfl) ?_
            refine wl_nil (x_then (hK28 _ _ ?_))
            clear hK28 K28
            refine wc_cond rfl (fun hc95 => ?_) (fun hc95 => ?_)
            · try simp only [decide_eq_true_eq, decide_eq_false_iff_not, Bool.not_eq_true', Bool.not_eq_false', Bool.not_eq_eq_eq_not, Bool.not_true, Bool.not_false, beq_iff_eq, bne_iff_ne, ne_eq, beq_eq_false_iff_ne, bne_eq_false_iff_eq, gt_iff_lt, ge_iff_le, Int.not_lt, Int.not_le] at hc95
              refine c_seq (fun K29 hK29 => ?_)
              refine c_reg ?_ -- region 21 compm.go:706
              refine wl (ro_move rfl) ?_
              refine wl_call rfl en_109 (finish109 hR.dr) ?_
              rintro _ u18 ⟨rfl, ow18, x18, f18, r18⟩
              obtain ⟨h5, kh5⟩ := cm_loc x18 f18 h5 kh5
              obtain ⟨h7, kh7⟩ := cm_loc x18 f18 h7 kh7
              obtain ⟨h8, kh8⟩ := cm_loc x18 f18 h8 kh8
              obtain ⟨h9, kh9⟩ := cm_loc x18 f18 h9 kh9
              obtain ⟨h10, kh10⟩ := cm_loc x18 f18 h10 kh10
              obtain ⟨h11, kh11⟩ := cm_loc x18 f18 h11 kh11
              have hs18 := hF.size
              replace hF := cm_trans hX hF f18
              replace hX := hX.trans hs18 x18
              replace hR := r18
              refine wl_nil (x_then (hK29 _ _ ?_))
              clear hK29 K29
              refine c_ret (x_thenR (x_blkR (x_thenR ?_)))
              refine bp_ret Tryz.results69 rfl ?_
              refine ⟨rfl, ?_⟩
              rw [hgoal]
              try subst hvp hvq
              try dsimp only at *
              first
              | (exfalso; omega)
              | (repeat (first | rw [if_pos (by omega)] | rw [if_neg (by omega)])
                 first
                 | exact hfin hX hF hR (by omega)
                 | exact hfin2 hX hF hR (by omega)
                 | exact hfin3 hX hF hR (by omega))
            · try simp only [decide_eq_true_eq, decide_eq_false_iff_not, Bool.not_eq_true', Bool.not_eq_false', Bool.not_eq_eq_eq_not, Bool.not_true, Bool.not_false, beq_iff_eq, bne_iff_ne, ne_eq, beq_eq_false_iff_ne, bne_eq_false_iff_eq, gt_iff_lt, ge_iff_le, Int.not_lt, Int.not_le] at hc95
              refine c_skip (x_then (hK27 _ _ ?_))
              clear hK27 K27
              obtain ⟨cv, hv_, a0, a1, a2, a3, a4, hXr, hq2, hq3, hq4⟩ := hR.r
              unfold rnc at hXr
              have hk70 := hR.t70
              have hXr0 := hXr
              refine c_reg ?_ -- region 22 compm.go:709
              refine wl (ro_move rfl) ?_
              refine wl (ro_move rfl) ?_
              refine wl (ro_nilCheck rfl) ?_
              refine wl (ro_fieldAddr (k := 15) rfl fo_112_11) ?_
              refine wl (ro_loadB rfl sc_9 (by assumption) rfl) ?_
              refine wl (ro_move rfl) ?_
              refine wl (ro_catS rfl rfl (by omega)) ?_
              refine wl (ro_catS rfl rfl (by simp only [List.length_append, List.length_cons, List.length_nil]; omega)) ?_
              refine wl (ro_nilCheck rfl) ?_
              refine wl (ro_fieldAddr (k := 15) rfl fo_112_11) ?_
              refine wl_put rfl rfl rfl sz_9 hXr ((by simp)) (rfl) (fun w19 hXr F19 => ?_)
              replace hF := hF.thenDrew.thenO F19 (by first | exact .inr (by omega) | exact .inl rfl | exact .inl (by assumption) | assumption)
              replace h5 := F19.blkO h5 (by first | omega | exact ow_ne (by assumption) (by assumption) (by omega))
              replace h7 := F19.blkO h7 (by first | omega | exact ow_ne (by assumption) (by assumption) (by omega))
              replace h8 := F19.blkO h8 (by first | omega | exact ow_ne (by assumption) (by assumption) (by omega))
              replace h9 := F19.blkO h9 (by first | omega | exact ow_ne (by assumption) (by assumption) (by omega))
              replace h10 := F19.blkO h10 (by first | omega | exact ow_ne (by assumption) (by assumption) (by omega))
              replace h11 := F19.blkO h11 (by first | omega | exact ow_ne (by assumption) (by assumption) (by omega))
              have hR2 := hR.turnR ((Fram.refl (one rb) _).thenDrew.thenO F19 (.inl rfl)) (s' := { s2 with out := s2.out ++ txV a ++ [10] }) rfl rfl rfl rfl (c' := hv_) (v' := hv_) hXr0 hXr hq4 hR.cl hR.sk hR.fu
              replace hR := hR2
              refine wl_nil (x_blk (x_then (hK23 _ _ ?_)))
              clear hK23 K23
              refine forget [(0, _), (10, _), (11, _)] ⟨rfl, rfl, rfl, trivial⟩ (fun e => ?_)
              refine c_seq (fun K30 hK30 => ?_)
              obtain ⟨vp, hvp, h10⟩ : ∃ vp, vp = _ ∧ Blk _ b10 (pvc vp) 119 := ⟨_, rfl, h10⟩
              obtain ⟨vq', hvq, h11⟩ : ∃ vp, vp = _ ∧ Blk _ b11 (pvc vp) 119 := ⟨_, rfl, h11⟩
              refine c_reg ?_ -- region 94 compm.go:808
              refine wl (ro_move rfl) ?_
              refine wl (ro_loadAggB rfl ag_119 (h10) (rfl) (rfl)) ?_
              refine wl_call rfl en_67 (push67 (v := vp) hR.dr (by omega)) ?_
              rintro _ u20 ⟨rfl, ow20, x20, f20, r20⟩
              obtain ⟨h5, kh5⟩ := cm_loc x20 f20 h5 kh5
              obtain ⟨h7, kh7⟩ := cm_loc x20 f20 h7 kh7
              obtain ⟨h8, kh8⟩ := cm_loc x20 f20 h8 kh8
              obtain ⟨h9, kh9⟩ := cm_loc x20 f20 h9 kh9
              obtain ⟨h10, kh10⟩ := cm_loc x20 f20 h10 kh10
              obtain ⟨h11, kh11⟩ := cm_loc x20 f20 h11 kh11
              have hs20 := hF.size
              replace hF := cm_trans hX hF f20
              replace hX := hX.trans hs20 x20
              replace hR := r20
              refine wl_nil (x_then (hK30 _ _ ?_))
              clear hK30 K30
              refine c_reg ?_ -- region 95 compm.go:809
              refine wl (ro_move rfl) ?_
              refine wl (ro_loadAggB rfl ag_119 (h11) (rfl) (rfl)) ?_
              refine wl_call rfl en_67 (push67 (v := vq') hR.dr (by omega)) ?_
              rintro _ u21 ⟨rfl, ow21, x21, f21, r21⟩
              obtain ⟨h5, kh5⟩ := cm_loc x21 f21 h5 kh5
              obtain ⟨h7, kh7⟩ := cm_loc x21 f21 h7 kh7
              obtain ⟨h8, kh8⟩ := cm_loc x21 f21 h8 kh8
              obtain ⟨h9, kh9⟩ := cm_loc x21 f21 h9 kh9
              obtain ⟨h10, kh10⟩ := cm_loc x21 f21 h10 kh10
              obtain ⟨h11, kh11⟩ := cm_loc x21 f21 h11 kh11
              have hs21 := hF.size
              replace hF := cm_trans hX hF f21
              replace hX := hX.trans hs21 x21
              replace hR := r21
              refine wl_nil ?_
              refine bp_end Tryz.results69 rfl ?_
              refine ⟨rfl, ?_⟩
              rw [hgoal]
              try subst hvp hvq
              try dsimp only at *
              first
              | (exfalso; omega)
              | (repeat (first | rw [if_pos (by omega)] | rw [if_neg (by omega)])
                 first
                 | exact hfin hX hF hR (by omega)
                 | exact hfin2 hX hF hR (by omega)
                 | exact hfin3 hX hF hR (by omega))
          · try simp only [decide_eq_true_eq, decide_eq_false_iff_not, Bool.not_eq_true', Bool.not_eq_false', Bool.not_eq_eq_eq_not, Bool.not_true, Bool.not_false, beq_iff_eq, bne_iff_ne, ne_eq, beq_eq_false_iff_ne, bne_eq_false_iff_eq, gt_iff_lt, ge_iff_le, Int.not_lt, Int.not_le] at hc78
            refine c_seq (fun K31 hK31 => ?_)
            refine c_reg ?_ -- region 23 compm.go:710
            refine wl (ro_cmp rfl rfl rfl) ?_
            refine wl (ro_assign rfl) ?_
            refine wl_nil (x_then (hK31 _ _ ?_))
            clear hK31 K31
            refine wc_cond rfl (fun hc108 => ?_) (fun hc108 => ?_)
            · try simp only [decide_eq_true_eq, decide_eq_false_iff_not, Bool.not_eq_true', Bool.not_eq_false', Bool.not_eq_eq_eq_not, Bool.not_true, Bool.not_false, beq_iff_eq, bne_iff_ne, ne_eq, beq_eq_false_iff_ne, bne_eq_false_iff_eq, gt_iff_lt, ge_iff_le, Int.not_lt, Int.not_le] at hc108
              refine c_seq (fun K32 hK32 => ?_)
              refine c_pi [(0, false), (1, false), (2, false), (3, false), (4, false), (5, true), (6, false)] (La b5 _ _ (La b7 _ _ (La b8 _ _ (La b9 _ _ (La b10 _ _ (La b11 _ _ (Lz rb _ _ _))))))) mixed (by kernel_rfl) rfl (by kernel_rfl) (po_then (po_blk (po_then (po_bp)))) (⟨h5, h7, h8, h9, h10, h11, hR.rz⟩) ?_ -- region 24 compm.go:711
              refine pi_ro rfl (fun w hS => ro_move rfl) ?_
              refine pi_ro rfl (fun w hS => ro_nilCheck rfl) ?_
              refine pi_ro rfl (fun w hS => ro_fieldAddr (k := 0) rfl fo_112_0) ?_
              refine pi_ro rfl (fun w hS => let ⟨_, hc⟩ := hS.2.2.2.2.2.2; ro_loadB rfl sc_46 hc rfl) ?_
              refine pi_ro rfl (fun w hS => ro_loadAggB rfl ag_119 (hS.2.2.1) rfl rfl) ?_
              refine pi_call rfl rfl en_119 (Text119 hpa (fun q ↦ wf6 hoka.wf q)) ?_
              rintro _ w22 ⟨rfl, F22⟩
              replace hF := hF.thenDrew.thenN F22
              replace hR := hR.thruN ((Fram.refl none' _).thenDrew.thenN F22)
              replace h5 := F22.blkN h5
              replace h7 := F22.blkN h7
              replace h8 := F22.blkN h8
              replace h9 := F22.blkN h9
              replace h10 := F22.blkN h10
              replace h11 := F22.blkN h11
              refine ⟨⟨h5, h7, h8, h9, h10, h11, hR.rz⟩, ?_⟩
              refine pi_ro rfl (fun w hS => ro_assign rfl) ?_
              refine pi_nil (x_then (hK32 _ _ ?_))
              clear hK32 K32
              refine c_reg ?_ -- region 25 compm.go:712
              refine wl (ro_move rfl) ?_
              refine wl (ro_build rfl bld_119_0_2) ?_
              refine wl_puta rfl rfl ((pvc_one (vStr (txV a)))) sz_119 (rfl) h10 ((by simp)) ((show _ = pvc (vStr (txV a)) from rfl)) (fun w23 h10 F23 => ?_)
              replace hF := hF.thenDrew.thenO F23 (by first | exact .inr (by omega) | exact .inl rfl | exact .inl (by assumption) | assumption)
              replace hR := hR.hbput ((Fram.refl (one b10) _).thenDrew.thenO F23 (.inl rfl))
              replace h5 := F23.blkO h5 (by first | omega | exact ow_ne (by assumption) (by assumption) (by omega))
              replace h7 := F23.blkO h7 (by first | omega | exact ow_ne (by assumption) (by assumption) (by omega))
              replace h8 := F23.blkO h8 (by first | omega | exact ow_ne (by assumption) (by assumption) (by omega))
              replace h9 := F23.blkO h9 (by first | omega | exact ow_ne (by assumption) (by assumption) (by omega))
              replace h11 := F23.blkO h11 (by first | omega | exact ow_ne (by assumption) (by assumption) (by omega))
              refine wl_nil (x_blk (x_then (hK23 _ _ ?_)))
              clear hK23 K23
              refine forget [(0, _), (10, _), (11, _)] ⟨rfl, rfl, rfl, trivial⟩ (fun e => ?_)
              refine c_seq (fun K33 hK33 => ?_)
              obtain ⟨vp, hvp, h10⟩ : ∃ vp, vp = _ ∧ Blk _ b10 (pvc vp) 119 := ⟨_, rfl, h10⟩
              obtain ⟨vq', hvq, h11⟩ : ∃ vp, vp = _ ∧ Blk _ b11 (pvc vp) 119 := ⟨_, rfl, h11⟩
              refine c_reg ?_ -- region 94 compm.go:808
              refine wl (ro_move rfl) ?_
              refine wl (ro_loadAggB rfl ag_119 (h10) (rfl) (rfl)) ?_
              refine wl_call rfl en_67 (push67 (v := vp) hR.dr (by omega)) ?_
              rintro _ u24 ⟨rfl, ow24, x24, f24, r24⟩
              obtain ⟨h5, kh5⟩ := cm_loc x24 f24 h5 kh5
              obtain ⟨h7, kh7⟩ := cm_loc x24 f24 h7 kh7
              obtain ⟨h8, kh8⟩ := cm_loc x24 f24 h8 kh8
              obtain ⟨h9, kh9⟩ := cm_loc x24 f24 h9 kh9
              obtain ⟨h10, kh10⟩ := cm_loc x24 f24 h10 kh10
              obtain ⟨h11, kh11⟩ := cm_loc x24 f24 h11 kh11
              have hs24 := hF.size
              replace hF := cm_trans hX hF f24
              replace hX := hX.trans hs24 x24
              replace hR := r24
              refine wl_nil (x_then (hK33 _ _ ?_))
              clear hK33 K33
              refine c_reg ?_ -- region 95 compm.go:809
              refine wl (ro_move rfl) ?_
              refine wl (ro_loadAggB rfl ag_119 (h11) (rfl) (rfl)) ?_
              refine wl_call rfl en_67 (push67 (v := vq') hR.dr (by omega)) ?_
              rintro _ u25 ⟨rfl, ow25, x25, f25, r25⟩
              obtain ⟨h5, kh5⟩ := cm_loc x25 f25 h5 kh5
              obtain ⟨h7, kh7⟩ := cm_loc x25 f25 h7 kh7
              obtain ⟨h8, kh8⟩ := cm_loc x25 f25 h8 kh8
              obtain ⟨h9, kh9⟩ := cm_loc x25 f25 h9 kh9
              obtain ⟨h10, kh10⟩ := cm_loc x25 f25 h10 kh10
              obtain ⟨h11, kh11⟩ := cm_loc x25 f25 h11 kh11
              have hs25 := hF.size
              replace hF := cm_trans hX hF f25
              replace hX := hX.trans hs25 x25
              replace hR := r25
              refine wl_nil ?_
              refine bp_end Tryz.results69 rfl ?_
              refine ⟨rfl, ?_⟩
              rw [hgoal]
              try subst hvp hvq
              try dsimp only at *
              first
              | (exfalso; omega)
              | (repeat (first | rw [if_pos (by omega)] | rw [if_neg (by omega)])
                 first
                 | exact hfin hX hF hR (by omega)
                 | exact hfin2 hX hF hR (by omega)
                 | exact hfin3 hX hF hR (by omega))
            · try simp only [decide_eq_true_eq, decide_eq_false_iff_not, Bool.not_eq_true', Bool.not_eq_false', Bool.not_eq_eq_eq_not, Bool.not_true, Bool.not_false, beq_iff_eq, bne_iff_ne, ne_eq, beq_eq_false_iff_ne, bne_eq_false_iff_eq, gt_iff_lt, ge_iff_le, Int.not_lt, Int.not_le] at hc108
              refine c_seq (fun K34 hK34 => ?_)
              refine c_reg ?_ -- region 26 compm.go:713
              refine wl (ro_cmp rfl rfl rfl) ?_
              refine wl (ro_assign rfl) ?_
              refine wl_nil (x_then (hK34 _ _ ?_))
              clear hK34 K34
              refine wc_cond rfl (fun hc118 => ?_) (fun hc118 => ?_)
              · try simp only [decide_eq_true_eq, decide_eq_false_iff_not, Bool.not_eq_true', Bool.not_eq_false', Bool.not_eq_eq_eq_not, Bool.not_true, Bool.not_false, beq_iff_eq, bne_iff_ne, ne_eq, beq_eq_false_iff_ne, bne_eq_false_iff_eq, gt_iff_lt, ge_iff_le, Int.not_lt, Int.not_le] at hc118
                refine c_seq (fun K35 hK35 => ?_)
                refine c_reg ?_ -- region 27 compm.go:714
                refine wl (ro_fieldAddr (k := 0) rfl fo_119_0) ?_
                refine wl (ro_loadB rfl sc_3 (by assumption) rfl) ?_
                refine wl (ro_cmp rfl rfl rfl) ?_
                refine wl_nil (x_then (hK35 _ _ ?_))
                clear hK35 K35
                refine wc_cond rfl (fun hc122 => ?_) (fun hc122 => ?_)
                · try simp only [decide_eq_true_eq, decide_eq_false_iff_not, Bool.not_eq_true', Bool.not_eq_false', Bool.not_eq_eq_eq_not, Bool.not_true, Bool.not_false, beq_iff_eq, bne_iff_ne, ne_eq, beq_eq_false_iff_ne, bne_eq_false_iff_eq, gt_iff_lt, ge_iff_le, Int.not_lt, Int.not_le] at hc122
                  refine c_reg ?_ -- region 28 compm.go:715
                  refine wl (ro_loadAggB rfl ag_119 (by assumption) rfl rfl) ?_
                  refine wl_puta rfl rfl ((pvc_one _)) sz_119 (rfl) h10 ((by simp)) ((show _ = pvc a from rfl)) (fun w26 h10 F26 => ?_)
                  replace hF := hF.thenDrew.thenO F26 (by first | exact .inr (by omega) | exact .inl rfl | exact .inl (by assumption) | assumption)
                  replace hR := hR.hbput ((Fram.refl (one b10) _).thenDrew.thenO F26 (.inl rfl))
                  replace h5 := F26.blkO h5 (by first | omega | exact ow_ne (by assumption) (by assumption) (by omega))
                  replace h7 := F26.blkO h7 (by first | omega | exact ow_ne (by assumption) (by assumption) (by omega))
                  replace h8 := F26.blkO h8 (by first | omega | exact ow_ne (by assumption) (by assumption) (by omega))
                  replace h9 := F26.blkO h9 (by first | omega | exact ow_ne (by assumption) (by assumption) (by omega))
                  replace h11 := F26.blkO h11 (by first | omega | exact ow_ne (by assumption) (by assumption) (by omega))
                  refine wl_nil (x_blk (x_then (hK23 _ _ ?_)))
                  clear hK23 K23
                  refine forget [(0, _), (10, _), (11, _)] ⟨rfl, rfl, rfl, trivial⟩ (fun e => ?_)
                  refine c_seq (fun K36 hK36 => ?_)
                  obtain ⟨vp, hvp, h10⟩ : ∃ vp, vp = _ ∧ Blk _ b10 (pvc vp) 119 := ⟨_, rfl, h10⟩
                  obtain ⟨vq', hvq, h11⟩ : ∃ vp, vp = _ ∧ Blk _ b11 (pvc vp) 119 := ⟨_, rfl, h11⟩
                  refine c_reg ?_ -- region 94 compm.go:808
                  refine wl (ro_move rfl) ?_
                  refine wl (ro_loadAggB rfl ag_119 (h10) (rfl) (rfl)) ?_
                  refine wl_call rfl en_67 (push67 (v := vp) hR.dr (by omega)) ?_
                  rintro _ u27 ⟨rfl, ow27, x27, f27, r27⟩
                  obtain ⟨h5, kh5⟩ := cm_loc x27 f27 h5 kh5
                  obtain ⟨h7, kh7⟩ := cm_loc x27 f27 h7 kh7
                  obtain ⟨h8, kh8⟩ := cm_loc x27 f27 h8 kh8
                  obtain ⟨h9, kh9⟩ := cm_loc x27 f27 h9 kh9
                  obtain ⟨h10, kh10⟩ := cm_loc x27 f27 h10 kh10
                  obtain ⟨h11, kh11⟩ := cm_loc x27 f27 h11 kh11
                  have hs27 := hF.size
                  replace hF := cm_trans hX hF f27
                  replace hX := hX.trans hs27 x27
                  replace hR := r27
                  refine wl_nil (x_then (hK36 _ _ ?_))
                  clear hK36 K36
                  refine c_reg ?_ -- region 95 compm.go:809
                  refine wl (ro_move rfl) ?_
                  refine wl (ro_loadAggB rfl ag_119 (h11) (rfl) (rfl)) ?_
                  refine wl_call rfl en_67 (push67 (v := vq') hR.dr (by omega)) ?_
                  rintro _ u28 ⟨rfl, ow28, x28, f28, r28⟩
                  obtain ⟨h5, kh5⟩ := cm_loc x28 f28 h5 kh5
                  obtain ⟨h7, kh7⟩ := cm_loc x28 f28 h7 kh7
                  obtain ⟨h8, kh8⟩ := cm_loc x28 f28 h8 kh8
                  obtain ⟨h9, kh9⟩ := cm_loc x28 f28 h9 kh9
                  obtain ⟨h10, kh10⟩ := cm_loc x28 f28 h10 kh10
                  obtain ⟨h11, kh11⟩ := cm_loc x28 f28 h11 kh11
                  have hs28 := hF.size
                  replace hF := cm_trans hX hF f28
                  replace hX := hX.trans hs28 x28
                  replace hR := r28
                  refine wl_nil ?_
                  refine bp_end Tryz.results69 rfl ?_
                  refine ⟨rfl, ?_⟩
                  rw [hgoal]
                  try subst hvp hvq
                  try dsimp only at *
                  first
                  | (exfalso; omega)
                  | (repeat (first | rw [if_pos (by omega)] | rw [if_neg (by omega)])
                     first
                     | exact hfin hX hF hR (by omega)
                     | exact hfin2 hX hF hR (by omega)
                     | exact hfin3 hX hF hR (by omega))
                · try simp only [decide_eq_true_eq, decide_eq_false_iff_not, Bool.not_eq_true', Bool.not_eq_false', Bool.not_eq_eq_eq_not, Bool.not_true, Bool.not_false, beq_iff_eq, bne_iff_ne, ne_eq, beq_eq_false_iff_ne, bne_eq_false_iff_eq, gt_iff_lt, ge_iff_le, Int.not_lt, Int.not_le] at hc122
                  refine c_seq (fun K37 hK37 => ?_)
                  refine c_reg ?_ -- region 29 compm.go:716
                  refine wl (ro_fieldAddr (k := 0) rfl fo_119_0) ?_
                  refine wl (ro_loadB rfl sc_3 (by assumption) rfl) ?_
                  refine wl (ro_cmp rfl rfl rfl) ?_
                  refine wl_nil (x_then (hK37 _ _ ?_))
                  clear hK37 K37
                  refine wc_cond rfl (fun hc126 => ?_) (fun hc126 => ?_)
                  · try simp only [decide_eq_true_eq, decide_eq_false_iff_not, Bool.not_eq_true', Bool.not_eq_false', Bool.not_eq_eq_eq_not, Bool.not_true, Bool.not_false, beq_iff_eq, bne_iff_ne, ne_eq, beq_eq_false_iff_ne, bne_eq_false_iff_eq, gt_iff_lt, ge_iff_le, Int.not_lt, Int.not_le] at hc126
                    refine c_seq (fun K38 hK38 => ?_)
                    rcases hpq : parN a.S with _ | xq
                    · skip
                      rw [hpq] at hgoal
                      refine c_pi [(0, false), (1, false), (2, false), (3, false), (4, false), (5, false), (6, true), (7, false), (8, false), (9, false), (10, false), (11, false)] (La b5 _ _ (La b7 _ _ (La b8 _ _ (La b9 _ _ (La b10 _ _ (La b11 _ _ (Lz rb _ _ _))))))) mixed (by kernel_rfl) rfl (by kernel_rfl) (po_then (po_blk (po_then (po_bp)))) (⟨h5, h7, h8, h9, h10, h11, hR.rz⟩) ?_ -- region 30 compm.go:717
                      refine pi_ro rfl (fun w hS => ro_move rfl) ?_
                      refine pi_ro rfl (fun w hS => ro_nilCheck rfl) ?_
                      refine pi_ro rfl (fun w hS => ro_fieldAddr (k := 0) rfl fo_112_0) ?_
                      refine pi_ro rfl (fun w hS => let ⟨_, hc⟩ := hS.2.2.2.2.2.2; ro_loadB rfl sc_46 hc rfl) ?_
                      refine pi_ro rfl (fun w hS => ro_fieldAddr (k := 2) rfl fo_119_2) ?_
                      refine pi_ro rfl (fun w hS => ro_loadB rfl sc_9 (hS.2.2.1) rfl) ?_
                      refine pi_call rfl rfl en_103 (Parse103N hpq (wf_sl hoka.wf)) ?_
                      rintro _ _ ⟨⟨e9, he9, rfl⟩, rfl⟩
                      refine ⟨⟨h5, h7, h8, h9, h10, h11, hR.dr.rz⟩, ?_⟩
                      refine pi_ro rfl (fun w hS => ro_move rfl) ?_
                      refine pi_ro rfl (fun w hS => ro_extract rfl rfl) ?_
                      refine pi_ro rfl (fun w hS => ro_extract rfl rfl) ?_
                      refine pi_ro rfl (fun w hS => ro_assign rfl) ?_
                      refine pi_ro rfl (fun w hS => ro_assign rfl) ?_
                      refine pi_nil (x_then (hK38 _ _ ?_))
                      clear hK38 K38
                      refine forget [(0, _), (10, _), (11, _), (14, _), (15, _)] ⟨rfl, rfl, rfl, rfl, rfl, trivial⟩ (fun e => ?_)
                      refine c_seq (fun K39 hK39 => ?_)
                      refine c_reg ?_ -- region 31 compm.go:718
                      refine wl (ro_move rfl) ?_
                      refine wl (ro_cmp (r := false) rfl rfl (by show some (e9 == 0) = some false; simp [he9])) ?_
                      refine wl_nil (x_then (hK39 _ _ ?_))
                      clear hK39 K39
                      refine wc_condF rfl ?_
                      refine c_skip (x_blk (x_then (hK23 _ _ ?_)))
                      clear hK23 K23
                      refine forget [(0, _), (10, _), (11, _)] ⟨rfl, rfl, rfl, trivial⟩ (fun e => ?_)
                      refine c_seq (fun K40 hK40 => ?_)
                      obtain ⟨vp, hvp, h10⟩ : ∃ vp, vp = _ ∧ Blk _ b10 (pvc vp) 119 := ⟨_, rfl, h10⟩
                      obtain ⟨vq', hvq, h11⟩ : ∃ vp, vp = _ ∧ Blk _ b11 (pvc vp) 119 := ⟨_, rfl, h11⟩
                      refine c_reg ?_ -- region 94 compm.go:808
                      refine wl (ro_move rfl) ?_
                      refine wl (ro_loadAggB rfl ag_119 (h10) (rfl) (rfl)) ?_
                      refine wl_call rfl en_67 (push67 (v := vp) hR.dr (by omega)) ?_
                      rintro _ u29 ⟨rfl, ow29, x29, f29, r29⟩
                      obtain ⟨h5, kh5⟩ := cm_loc x29 f29 h5 kh5
                      obtain ⟨h7, kh7⟩ := cm_loc x29 f29 h7 kh7
                      obtain ⟨h8, kh8⟩ := cm_loc x29 f29 h8 kh8
                      obtain ⟨h9, kh9⟩ := cm_loc x29 f29 h9 kh9
                      obtain ⟨h10, kh10⟩ := cm_loc x29 f29 h10 kh10
                      obtain ⟨h11, kh11⟩ := cm_loc x29 f29 h11 kh11
                      have hs29 := hF.size
                      replace hF := cm_trans hX hF f29
                      replace hX := hX.trans hs29 x29
                      replace hR := r29
                      refine wl_nil (x_then (hK40 _ _ ?_))
                      clear hK40 K40
                      refine c_reg ?_ -- region 95 compm.go:809
                      refine wl (ro_move rfl) ?_
                      refine wl (ro_loadAggB rfl ag_119 (h11) (rfl) (rfl)) ?_
                      refine wl_call rfl en_67 (push67 (v := vq') hR.dr (by omega)) ?_
                      rintro _ u30 ⟨rfl, ow30, x30, f30, r30⟩
                      obtain ⟨h5, kh5⟩ := cm_loc x30 f30 h5 kh5
                      obtain ⟨h7, kh7⟩ := cm_loc x30 f30 h7 kh7
                      obtain ⟨h8, kh8⟩ := cm_loc x30 f30 h8 kh8
                      obtain ⟨h9, kh9⟩ := cm_loc x30 f30 h9 kh9
                      obtain ⟨h10, kh10⟩ := cm_loc x30 f30 h10 kh10
                      obtain ⟨h11, kh11⟩ := cm_loc x30 f30 h11 kh11
                      have hs30 := hF.size
                      replace hF := cm_trans hX hF f30
                      replace hX := hX.trans hs30 x30
                      replace hR := r30
                      refine wl_nil ?_
                      refine bp_end Tryz.results69 rfl ?_
                      refine ⟨rfl, ?_⟩
                      rw [hgoal]
                      try subst hvp hvq
                      try dsimp only at *
                      first
                      | (exfalso; omega)
                      | (repeat (first | rw [if_pos (by omega)] | rw [if_neg (by omega)])
                         first
                         | exact hfin hX hF hR (by omega)
                         | exact hfin2 hX hF hR (by omega)
                         | exact hfin3 hX hF hR (by omega))
                    · skip
                      rw [hpq] at hgoal
                      refine c_pi [(0, false), (1, false), (2, false), (3, false), (4, false), (5, false), (6, true), (7, false), (8, false), (9, false), (10, false), (11, false)] (La b5 _ _ (La b7 _ _ (La b8 _ _ (La b9 _ _ (La b10 _ _ (La b11 _ _ (Lz rb _ _ _))))))) mixed (by kernel_rfl) rfl (by kernel_rfl) (po_then (po_blk (po_then (po_bp)))) (⟨h5, h7, h8, h9, h10, h11, hR.rz⟩) ?_ -- region 30 compm.go:717
                      refine pi_ro rfl (fun w hS => ro_move rfl) ?_
                      refine pi_ro rfl (fun w hS => ro_nilCheck rfl) ?_
                      refine pi_ro rfl (fun w hS => ro_fieldAddr (k := 0) rfl fo_112_0) ?_
                      refine pi_ro rfl (fun w hS => let ⟨_, hc⟩ := hS.2.2.2.2.2.2; ro_loadB rfl sc_46 hc rfl) ?_
                      refine pi_ro rfl (fun w hS => ro_fieldAddr (k := 2) rfl fo_119_2) ?_
                      refine pi_ro rfl (fun w hS => ro_loadB rfl sc_9 (hS.2.2.1) rfl) ?_
                      refine pi_call rfl rfl en_103 (Parse103S hpq (wf_sl hoka.wf)) ?_
                      rintro _ _ ⟨rfl, rfl⟩
                      refine ⟨⟨h5, h7, h8, h9, h10, h11, hR.rz⟩, ?_⟩
                      refine pi_ro rfl (fun w hS => ro_move rfl) ?_
                      refine pi_ro rfl (fun w hS => ro_extract rfl rfl) ?_
                      refine pi_ro rfl (fun w hS => ro_extract rfl rfl) ?_
                      refine pi_ro rfl (fun w hS => ro_assign rfl) ?_
                      refine pi_ro rfl (fun w hS => ro_assign rfl) ?_
                      refine pi_nil (x_then (hK38 _ _ ?_))
                      clear hK38 K38
                      refine forget [(0, _), (10, _), (11, _), (14, _), (15, _)] ⟨rfl, rfl, rfl, rfl, rfl, trivial⟩ (fun e => ?_)
                      refine c_seq (fun K41 hK41 => ?_)
                      refine c_reg ?_ -- region 31 compm.go:718
                      refine wl (ro_move rfl) ?_
                      refine wl (ro_cmp rfl rfl rfl) ?_
                      refine wl_nil (x_then (hK41 _ _ ?_))
                      clear hK41 K41
                      refine wc_condT rfl ?_
                      refine c_reg ?_ -- region 32 compm.go:719
                      refine wl (ro_move rfl) ?_
                      refine wl (ro_build rfl bld_119_0_1) ?_
                      refine wl_puta rfl rfl ((pvc_one (vNum xq))) sz_119 (rfl) h10 ((by simp)) ((show _ = pvc (vNum xq) from rfl)) (fun w31 h10 F31 => ?_)
                      replace hF := hF.thenDrew.thenO F31 (by first | exact .inr (by omega) | exact .inl rfl | exact .inl (by assumption) | assumption)
                      replace hR := hR.hbput ((Fram.refl (one b10) _).thenDrew.thenO F31 (.inl rfl))
                      replace h5 := F31.blkO h5 (by first | omega | exact ow_ne (by assumption) (by assumption) (by omega))
                      replace h7 := F31.blkO h7 (by first | omega | exact ow_ne (by assumption) (by assumption) (by omega))
                      replace h8 := F31.blkO h8 (by first | omega | exact ow_ne (by assumption) (by assumption) (by omega))
                      replace h9 := F31.blkO h9 (by first | omega | exact ow_ne (by assumption) (by assumption) (by omega))
                      replace h11 := F31.blkO h11 (by first | omega | exact ow_ne (by assumption) (by assumption) (by omega))
                      refine wl_nil (x_blk (x_then (hK23 _ _ ?_)))
                      clear hK23 K23
                      refine forget [(0, _), (10, _), (11, _)] ⟨rfl, rfl, rfl, trivial⟩ (fun e => ?_)
                      refine c_seq (fun K42 hK42 => ?_)
                      obtain ⟨vp, hvp, h10⟩ : ∃ vp, vp = _ ∧ Blk _ b10 (pvc vp) 119 := ⟨_, rfl, h10⟩
                      obtain ⟨vq', hvq, h11⟩ : ∃ vp, vp = _ ∧ Blk _ b11 (pvc vp) 119 := ⟨_, rfl, h11⟩
                      refine c_reg ?_ -- region 94 compm.go:808
                      refine wl (ro_move rfl) ?_
                      refine wl (ro_loadAggB rfl ag_119 (h10) (rfl) (rfl)) ?_
                      refine wl_call rfl en_67 (push67 (v := vp) hR.dr (by omega)) ?_
                      rintro _ u32 ⟨rfl, ow32, x32, f32, r32⟩
                      obtain ⟨h5, kh5⟩ := cm_loc x32 f32 h5 kh5
                      obtain ⟨h7, kh7⟩ := cm_loc x32 f32 h7 kh7
                      obtain ⟨h8, kh8⟩ := cm_loc x32 f32 h8 kh8
                      obtain ⟨h9, kh9⟩ := cm_loc x32 f32 h9 kh9
                      obtain ⟨h10, kh10⟩ := cm_loc x32 f32 h10 kh10
                      obtain ⟨h11, kh11⟩ := cm_loc x32 f32 h11 kh11
                      have hs32 := hF.size
                      replace hF := cm_trans hX hF f32
                      replace hX := hX.trans hs32 x32
                      replace hR := r32
                      refine wl_nil (x_then (hK42 _ _ ?_))
                      clear hK42 K42
                      refine c_reg ?_ -- region 95 compm.go:809
                      refine wl (ro_move rfl) ?_
                      refine wl (ro_loadAggB rfl ag_119 (h11) (rfl) (rfl)) ?_
                      refine wl_call rfl en_67 (push67 (v := vq') hR.dr (by omega)) ?_
                      rintro _ u33 ⟨rfl, ow33, x33, f33, r33⟩
                      obtain ⟨h5, kh5⟩ := cm_loc x33 f33 h5 kh5
                      obtain ⟨h7, kh7⟩ := cm_loc x33 f33 h7 kh7
                      obtain ⟨h8, kh8⟩ := cm_loc x33 f33 h8 kh8
                      obtain ⟨h9, kh9⟩ := cm_loc x33 f33 h9 kh9
                      obtain ⟨h10, kh10⟩ := cm_loc x33 f33 h10 kh10
                      obtain ⟨h11, kh11⟩ := cm_loc x33 f33 h11 kh11
                      have hs33 := hF.size
                      replace hF := cm_trans hX hF f33
                      replace hX := hX.trans hs33 x33
                      replace hR := r33
                      refine wl_nil ?_
                      refine bp_end Tryz.results69 rfl ?_
                      refine ⟨rfl, ?_⟩
                      rw [hgoal]
                      try subst hvp hvq
                      try dsimp only at *
                      first
                      | (exfalso; omega)
                      | (repeat (first | rw [if_pos (by omega)] | rw [if_neg (by omega)])
                         first
                         | exact hfin hX hF hR (by omega)
                         | exact hfin2 hX hF hR (by omega)
                         | exact hfin3 hX hF hR (by omega))
                  · try simp only [decide_eq_true_eq, decide_eq_false_iff_not, Bool.not_eq_true', Bool.not_eq_false', Bool.not_eq_eq_eq_not, Bool.not_true, Bool.not_false, beq_iff_eq, bne_iff_ne, ne_eq, beq_eq_false_iff_ne, bne_eq_false_iff_eq, gt_iff_lt, ge_iff_le, Int.not_lt, Int.not_le] at hc126
                    refine c_skip (x_blk (x_then (hK23 _ _ ?_)))
                    clear hK23 K23
                    refine forget [(0, _), (10, _), (11, _)] ⟨rfl, rfl, rfl, trivial⟩ (fun e => ?_)
                    refine c_seq (fun K43 hK43 => ?_)
                    obtain ⟨vp, hvp, h10⟩ : ∃ vp, vp = _ ∧ Blk _ b10 (pvc vp) 119 := ⟨_, rfl, h10⟩
                    obtain ⟨vq', hvq, h11⟩ : ∃ vp, vp = _ ∧ Blk _ b11 (pvc vp) 119 := ⟨_, rfl, h11⟩
                    refine c_reg ?_ -- region 94 compm.go:808
                    refine wl (ro_move rfl) ?_
                    refine wl (ro_loadAggB rfl ag_119 (h10) (rfl) (rfl)) ?_
                    refine wl_call rfl en_67 (push67 (v := vp) hR.dr (by omega)) ?_
                    rintro _ u34 ⟨rfl, ow34, x34, f34, r34⟩
                    obtain ⟨h5, kh5⟩ := cm_loc x34 f34 h5 kh5
                    obtain ⟨h7, kh7⟩ := cm_loc x34 f34 h7 kh7
                    obtain ⟨h8, kh8⟩ := cm_loc x34 f34 h8 kh8
                    obtain ⟨h9, kh9⟩ := cm_loc x34 f34 h9 kh9
                    obtain ⟨h10, kh10⟩ := cm_loc x34 f34 h10 kh10
                    obtain ⟨h11, kh11⟩ := cm_loc x34 f34 h11 kh11
                    have hs34 := hF.size
                    replace hF := cm_trans hX hF f34
                    replace hX := hX.trans hs34 x34
                    replace hR := r34
                    refine wl_nil (x_then (hK43 _ _ ?_))
                    clear hK43 K43
                    refine c_reg ?_ -- region 95 compm.go:809
                    refine wl (ro_move rfl) ?_
                    refine wl (ro_loadAggB rfl ag_119 (h11) (rfl) (rfl)) ?_
                    refine wl_call rfl en_67 (push67 (v := vq') hR.dr (by omega)) ?_
                    rintro _ u35 ⟨rfl, ow35, x35, f35, r35⟩
                    obtain ⟨h5, kh5⟩ := cm_loc x35 f35 h5 kh5
                    obtain ⟨h7, kh7⟩ := cm_loc x35 f35 h7 kh7
                    obtain ⟨h8, kh8⟩ := cm_loc x35 f35 h8 kh8
                    obtain ⟨h9, kh9⟩ := cm_loc x35 f35 h9 kh9
                    obtain ⟨h10, kh10⟩ := cm_loc x35 f35 h10 kh10
                    obtain ⟨h11, kh11⟩ := cm_loc x35 f35 h11 kh11
                    have hs35 := hF.size
                    replace hF := cm_trans hX hF f35
                    replace hX := hX.trans hs35 x35
                    replace hR := r35
                    refine wl_nil ?_
                    refine bp_end Tryz.results69 rfl ?_
                    refine ⟨rfl, ?_⟩
                    rw [hgoal]
                    try subst hvp hvq
                    try dsimp only at *
                    first
                    | (exfalso; omega)
                    | (repeat (first | rw [if_pos (by omega)] | rw [if_neg (by omega)])
                       first
                       | exact hfin hX hF hR (by omega)
                       | exact hfin2 hX hF hR (by omega)
                       | exact hfin3 hX hF hR (by omega))
              · try simp only [decide_eq_true_eq, decide_eq_false_iff_not, Bool.not_eq_true', Bool.not_eq_false', Bool.not_eq_eq_eq_not, Bool.not_true, Bool.not_false, beq_iff_eq, bne_iff_ne, ne_eq, beq_eq_false_iff_ne, bne_eq_false_iff_eq, gt_iff_lt, ge_iff_le, Int.not_lt, Int.not_le] at hc118
                refine c_seq (fun K44 hK44 => ?_)
                refine c_reg ?_ -- region 33 compm.go:722
                refine wl (ro_cmp rfl rfl rfl) ?_
                refine wl (ro_assign rfl) ?_
                refine wl_nil (x_then (hK44 _ _ ?_))
                clear hK44 K44
                refine wc_cond rfl (fun hc141 => ?_) (fun hc141 => ?_)
                · try simp only [decide_eq_true_eq, decide_eq_false_iff_not, Bool.not_eq_true', Bool.not_eq_false', Bool.not_eq_eq_eq_not, Bool.not_true, Bool.not_false, beq_iff_eq, bne_iff_ne, ne_eq, beq_eq_false_iff_ne, bne_eq_false_iff_eq, gt_iff_lt, ge_iff_le, Int.not_lt, Int.not_le] at hc141
                  refine c_seq (fun K45 hK45 => ?_)
                  refine c_reg ?_ -- region 34 compm.go:723
                  refine wl (ro_loadAggB rfl ag_119 (by assumption) rfl rfl) ?_
                  refine wl_call rfl en_120 (TypeName120) ?_
                  rintro _ w36 ⟨rfl, F36⟩
                  replace hF := hF.thenDrew.thenN F36
                  replace hR := hR.thruN ((Fram.refl none' _).thenDrew.thenN F36)
                  replace h5 := F36.blkN h5
                  replace h7 := F36.blkN h7
                  replace h8 := F36.blkN h8
                  replace h9 := F36.blkN h9
                  replace h10 := F36.blkN h10
                  replace h11 := F36.blkN h11
                  refine wl (ro_assign rfl) ?_
                  refine wl_nil (x_then (hK45 _ _ ?_))
                  clear hK45 K45
                  refine c_reg ?_ -- region 35 compm.go:724
                  refine wl (ro_move rfl) ?_
                  refine wl (ro_build rfl bld_119_0_2) ?_
                  refine wl_puta rfl rfl ((pvc_one (vStr (tyName a)))) sz_119 (rfl) h10 ((by simp)) ((show _ = pvc (vStr (tyName a)) from rfl)) (fun w37 h10 F37 => ?_)
                  replace hF := hF.thenDrew.thenO F37 (by first | exact .inr (by omega) | exact .inl rfl | exact .inl (by assumption) | assumption)
                  replace hR := hR.hbput ((Fram.refl (one b10) _).thenDrew.thenO F37 (.inl rfl))
                  replace h5 := F37.blkO h5 (by first | omega | exact ow_ne (by assumption) (by assumption) (by omega))
                  replace h7 := F37.blkO h7 (by first | omega | exact ow_ne (by assumption) (by assumption) (by omega))
                  replace h8 := F37.blkO h8 (by first | omega | exact ow_ne (by assumption) (by assumption) (by omega))
                  replace h9 := F37.blkO h9 (by first | omega | exact ow_ne (by assumption) (by assumption) (by omega))
                  replace h11 := F37.blkO h11 (by first | omega | exact ow_ne (by assumption) (by assumption) (by omega))
                  refine wl_nil (x_blk (x_then (hK23 _ _ ?_)))
                  clear hK23 K23
                  refine forget [(0, _), (10, _), (11, _)] ⟨rfl, rfl, rfl, trivial⟩ (fun e => ?_)
                  refine c_seq (fun K46 hK46 => ?_)
                  obtain ⟨vp, hvp, h10⟩ : ∃ vp, vp = _ ∧ Blk _ b10 (pvc vp) 119 := ⟨_, rfl, h10⟩
                  obtain ⟨vq', hvq, h11⟩ : ∃ vp, vp = _ ∧ Blk _ b11 (pvc vp) 119 := ⟨_, rfl, h11⟩
                  refine c_reg ?_ -- region 94 compm.go:808
                  refine wl (ro_move rfl) ?_
                  refine wl (ro_loadAggB rfl ag_119 (h10) (rfl) (rfl)) ?_
                  refine wl_call rfl en_67 (push67 (v := vp) hR.dr (by omega)) ?_
                  rintro _ u38 ⟨rfl, ow38, x38, f38, r38⟩
                  obtain ⟨h5, kh5⟩ := cm_loc x38 f38 h5 kh5
                  obtain ⟨h7, kh7⟩ := cm_loc x38 f38 h7 kh7
                  obtain ⟨h8, kh8⟩ := cm_loc x38 f38 h8 kh8
                  obtain ⟨h9, kh9⟩ := cm_loc x38 f38 h9 kh9
                  obtain ⟨h10, kh10⟩ := cm_loc x38 f38 h10 kh10
                  obtain ⟨h11, kh11⟩ := cm_loc x38 f38 h11 kh11
                  have hs38 := hF.size
                  replace hF := cm_trans hX hF f38
                  replace hX := hX.trans hs38 x38
                  replace hR := r38
                  refine wl_nil (x_then (hK46 _ _ ?_))
                  clear hK46 K46
                  refine c_reg ?_ -- region 95 compm.go:809
                  refine wl (ro_move rfl) ?_
                  refine wl (ro_loadAggB rfl ag_119 (h11) (rfl) (rfl)) ?_
                  refine wl_call rfl en_67 (push67 (v := vq') hR.dr (by omega)) ?_
                  rintro _ u39 ⟨rfl, ow39, x39, f39, r39⟩
                  obtain ⟨h5, kh5⟩ := cm_loc x39 f39 h5 kh5
                  obtain ⟨h7, kh7⟩ := cm_loc x39 f39 h7 kh7
                  obtain ⟨h8, kh8⟩ := cm_loc x39 f39 h8 kh8
                  obtain ⟨h9, kh9⟩ := cm_loc x39 f39 h9 kh9
                  obtain ⟨h10, kh10⟩ := cm_loc x39 f39 h10 kh10
                  obtain ⟨h11, kh11⟩ := cm_loc x39 f39 h11 kh11
                  have hs39 := hF.size
                  replace hF := cm_trans hX hF f39
                  replace hX := hX.trans hs39 x39
                  replace hR := r39
                  refine wl_nil ?_
                  refine bp_end Tryz.results69 rfl ?_
                  refine ⟨rfl, ?_⟩
                  rw [hgoal]
                  try subst hvp hvq
                  try dsimp only at *
                  first
                  | (exfalso; omega)
                  | (repeat (first | rw [if_pos (by omega)] | rw [if_neg (by omega)])
                     first
                     | exact hfin hX hF hR (by omega)
                     | exact hfin2 hX hF hR (by omega)
                     | exact hfin3 hX hF hR (by omega))
                · try simp only [decide_eq_true_eq, decide_eq_false_iff_not, Bool.not_eq_true', Bool.not_eq_false', Bool.not_eq_eq_eq_not, Bool.not_true, Bool.not_false, beq_iff_eq, bne_iff_ne, ne_eq, beq_eq_false_iff_ne, bne_eq_false_iff_eq, gt_iff_lt, ge_iff_le, Int.not_lt, Int.not_le] at hc141
                  refine c_seq (fun K47 hK47 => ?_)
                  refine c_reg ?_ -- region 36 compm.go:725
                  refine wl (ro_cmp rfl rfl rfl) ?_
                  refine wl (ro_assign rfl) ?_
                  refine wl_nil (x_then (hK47 _ _ ?_))
                  clear hK47 K47
                  refine wc_cond rfl (fun hc147 => ?_) (fun hc147 => ?_)
                  · try simp only [decide_eq_true_eq, decide_eq_false_iff_not, Bool.not_eq_true', Bool.not_eq_false', Bool.not_eq_eq_eq_not, Bool.not_true, Bool.not_false, beq_iff_eq, bne_iff_ne, ne_eq, beq_eq_false_iff_ne, bne_eq_false_iff_eq, gt_iff_lt, ge_iff_le, Int.not_lt, Int.not_le] at hc147
                    refine c_seq (fun K48 hK48 => ?_)
                    refine c_reg ?_ -- region 37 compm.go:726
                    refine wl (ro_move rfl) ?_
                    refine wl (ro_loadAggB rfl ag_119 (by assumption) rfl rfl) ?_
                    refine wl_call rfl en_111 (throw111 hR.dr hoka.wf hoka.w hA.rt (by omega)) ?_
                    rintro _ u40 ⟨rfl, ow40, x40, f40, r40⟩
                    obtain ⟨h5, kh5⟩ := cm_loc x40 f40 h5 kh5
                    obtain ⟨h7, kh7⟩ := cm_loc x40 f40 h7 kh7
                    obtain ⟨h8, kh8⟩ := cm_loc x40 f40 h8 kh8
                    obtain ⟨h9, kh9⟩ := cm_loc x40 f40 h9 kh9
                    obtain ⟨h10, kh10⟩ := cm_loc x40 f40 h10 kh10
                    obtain ⟨h11, kh11⟩ := cm_loc x40 f40 h11 kh11
                    have hs40 := hF.size
                    replace hF := cm_trans hX hF f40
                    replace hX := hX.trans hs40 x40
                    replace hR := r40
                    refine wl_nil (x_then (hK48 _ _ ?_))
                    clear hK48 K48
                    refine c_ret (x_blkR (x_thenR ?_))
                    refine bp_ret Tryz.results69 rfl ?_
                    refine ⟨rfl, ?_⟩
                    rw [hgoal]
                    try subst hvp hvq
                    try dsimp only at *
                    first
                    | (exfalso; omega)
                    | (repeat (first | rw [if_pos (by omega)] | rw [if_neg (by omega)])
                       first
                       | exact hfin hX hF hR (by omega)
                       | exact hfin2 hX hF hR (by omega)
                       | exact hfin3 hX hF hR (by omega))
                  · try simp only [decide_eq_true_eq, decide_eq_false_iff_not, Bool.not_eq_true', Bool.not_eq_false', Bool.not_eq_eq_eq_not, Bool.not_true, Bool.not_false, beq_iff_eq, bne_iff_ne, ne_eq, beq_eq_false_iff_ne, bne_eq_false_iff_eq, gt_iff_lt, ge_iff_le, Int.not_lt, Int.not_le] at hc147
                    refine c_seq (fun K49 hK49 => ?_)
                    refine c_reg ?_ -- region 38 compm.go:728
                    refine wl (ro_cmp rfl rfl rfl) ?_
                    refine wl (ro_assign rfl) ?_
                    refine wl_nil (x_then (hK49 _ _ ?_))
                    clear hK49 K49
                    refine wc_cond rfl (fun hc152 => ?_) (fun hc152 => ?_)
                    · try simp only [decide_eq_true_eq, decide_eq_false_iff_not, Bool.not_eq_true', Bool.not_eq_false', Bool.not_eq_eq_eq_not, Bool.not_true, Bool.not_false, beq_iff_eq, bne_iff_ne, ne_eq, beq_eq_false_iff_ne, bne_eq_false_iff_eq, gt_iff_lt, ge_iff_le, Int.not_lt, Int.not_le] at hc152
                      refine c_seq (fun K50 hK50 => ?_)
                      refine c_reg ?_ -- region 39 compm.go:729
                      refine wl (ro_fieldAddr (k := 0) rfl fo_119_0) ?_
                      refine wl (ro_loadB rfl sc_3 (by assumption) rfl) ?_
                      refine wl (ro_cmp rfl rfl rfl) ?_
                      refine wl_nil (x_then (hK50 _ _ ?_))
                      clear hK50 K50
                      refine wc_cond rfl (fun hc156 => ?_) (fun hc156 => ?_)
                      · try simp only [decide_eq_true_eq, decide_eq_false_iff_not, Bool.not_eq_true', Bool.not_eq_false', Bool.not_eq_eq_eq_not, Bool.not_true, Bool.not_false, beq_iff_eq, bne_iff_ne, ne_eq, beq_eq_false_iff_ne, bne_eq_false_iff_eq, gt_iff_lt, ge_iff_le, Int.not_lt, Int.not_le] at hc156
                        refine c_seq (fun K51 hK51 => ?_)
                        refine c_reg ?_ -- region 40 compm.go:730
                        refine wl (ro_build rfl bld_119_0) ?_
                        refine wl_puta rfl rfl ((pvc_one (vBool false))) sz_119 (rfl) h10 ((by simp)) ((show _ = pvc (vBool false) from rfl)) (fun w41 h10 F41 => ?_)
                        replace hF := hF.thenDrew.thenO F41 (by first | exact .inr (by omega) | exact .inl rfl | exact .inl (by assumption) | assumption)
                        replace hR := hR.hbput ((Fram.refl (one b10) _).thenDrew.thenO F41 (.inl rfl))
                        replace h5 := F41.blkO h5 (by first | omega | exact ow_ne (by assumption) (by assumption) (by omega))
                        replace h7 := F41.blkO h7 (by first | omega | exact ow_ne (by assumption) (by assumption) (by omega))
                        replace h8 := F41.blkO h8 (by first | omega | exact ow_ne (by assumption) (by assumption) (by omega))
                        replace h9 := F41.blkO h9 (by first | omega | exact ow_ne (by assumption) (by assumption) (by omega))
                        replace h11 := F41.blkO h11 (by first | omega | exact ow_ne (by assumption) (by assumption) (by omega))
                        refine wl_nil (x_then (hK51 _ _ ?_))
                        clear hK51 K51
                        refine c_reg ?_ -- region 41 compm.go:731
                        refine wl (ro_build rfl bld_119_0_2) ?_
                        refine wl_puta rfl rfl ((pvc_one (vStr mCall))) sz_119 (rfl) h11 ((by simp)) ((show _ = pvc (vStr mCall) from rfl)) (fun w42 h11 F42 => ?_)
                        replace hF := hF.thenDrew.thenO F42 (by first | exact .inr (by omega) | exact .inl rfl | exact .inl (by assumption) | assumption)
                        replace hR := hR.hbput ((Fram.refl (one b11) _).thenDrew.thenO F42 (.inl rfl))
                        replace h5 := F42.blkO h5 (by first | omega | exact ow_ne (by assumption) (by assumption) (by omega))
                        replace h7 := F42.blkO h7 (by first | omega | exact ow_ne (by assumption) (by assumption) (by omega))
                        replace h8 := F42.blkO h8 (by first | omega | exact ow_ne (by assumption) (by assumption) (by omega))
                        replace h9 := F42.blkO h9 (by first | omega | exact ow_ne (by assumption) (by assumption) (by omega))
                        replace h10 := F42.blkO h10 (by first | omega | exact ow_ne (by assumption) (by assumption) (by omega))
                        refine wl_nil (x_blk (x_then (hK23 _ _ ?_)))
                        clear hK23 K23
                        refine forget [(0, _), (10, _), (11, _)] ⟨rfl, rfl, rfl, trivial⟩ (fun e => ?_)
                        refine c_seq (fun K52 hK52 => ?_)
                        obtain ⟨vp, hvp, h10⟩ : ∃ vp, vp = _ ∧ Blk _ b10 (pvc vp) 119 := ⟨_, rfl, h10⟩
                        obtain ⟨vq', hvq, h11⟩ : ∃ vp, vp = _ ∧ Blk _ b11 (pvc vp) 119 := ⟨_, rfl, h11⟩
                        refine c_reg ?_ -- region 94 compm.go:808
                        refine wl (ro_move rfl) ?_
                        refine wl (ro_loadAggB rfl ag_119 (h10) (rfl) (rfl)) ?_
                        refine wl_call rfl en_67 (push67 (v := vp) hR.dr (by omega)) ?_
                        rintro _ u43 ⟨rfl, ow43, x43, f43, r43⟩
                        obtain ⟨h5, kh5⟩ := cm_loc x43 f43 h5 kh5
                        obtain ⟨h7, kh7⟩ := cm_loc x43 f43 h7 kh7
                        obtain ⟨h8, kh8⟩ := cm_loc x43 f43 h8 kh8
                        obtain ⟨h9, kh9⟩ := cm_loc x43 f43 h9 kh9
                        obtain ⟨h10, kh10⟩ := cm_loc x43 f43 h10 kh10
                        obtain ⟨h11, kh11⟩ := cm_loc x43 f43 h11 kh11
                        have hs43 := hF.size
                        replace hF := cm_trans hX hF f43
                        replace hX := hX.trans hs43 x43
                        replace hR := r43
                        refine wl_nil (x_then (hK52 _ _ ?_))
                        clear hK52 K52
                        refine c_reg ?_ -- region 95 compm.go:809
                        refine wl (ro_move rfl) ?_
                        refine wl (ro_loadAggB rfl ag_119 (h11) (rfl) (rfl)) ?_
                        refine wl_call rfl en_67 (push67 (v := vq') hR.dr (by omega)) ?_
                        rintro _ u44 ⟨rfl, ow44, x44, f44, r44⟩
                        obtain ⟨h5, kh5⟩ := cm_loc x44 f44 h5 kh5
                        obtain ⟨h7, kh7⟩ := cm_loc x44 f44 h7 kh7
                        obtain ⟨h8, kh8⟩ := cm_loc x44 f44 h8 kh8
                        obtain ⟨h9, kh9⟩ := cm_loc x44 f44 h9 kh9
                        obtain ⟨h10, kh10⟩ := cm_loc x44 f44 h10 kh10
                        obtain ⟨h11, kh11⟩ := cm_loc x44 f44 h11 kh11
                        have hs44 := hF.size
                        replace hF := cm_trans hX hF f44
                        replace hX := hX.trans hs44 x44
                        replace hR := r44
                        refine wl_nil ?_
                        refine bp_end Tryz.results69 rfl ?_
                        refine ⟨rfl, ?_⟩
                        rw [hgoal]
                        try subst hvp hvq
                        try dsimp only at *
                        first
                        | (exfalso; omega)
                        | (repeat (first | rw [if_pos (by omega)] | rw [if_neg (by omega)])
                           first
                           | exact hfin hX hF hR (by omega)
                           | exact hfin2 hX hF hR (by omega)
                           | exact hfin3 hX hF hR (by omega))
                      · try simp only [decide_eq_true_eq, decide_eq_false_iff_not, Bool.not_eq_true', Bool.not_eq_false', Bool.not_eq_eq_eq_not, Bool.not_true, Bool.not_false, beq_iff_eq, bne_iff_ne, ne_eq, beq_eq_false_iff_ne, bne_eq_false_iff_eq, gt_iff_lt, ge_iff_le, Int.not_lt, Int.not_le] at hc156
                        refine c_seq (fun K53 hK53 => ?_)
                        obtain ⟨cv, a0, a1, a2, a3, a4, gT, capT, lT, bT, tvT, vvT, hXr, hO, hlT, hcapT, hbT, hTh, hgT⟩ := hR.open
                        have hB := hTh.k
                        have hkb := hTh.t
                        have hclT := hR.cl
                        unfold rnc at hXr
                        have hk70 := hR.t70
                        have hbe : bT = b0 := Option.some.inj (hbT.symm.trans hb0)
                        subst hbe
                        refine c_reg ?_ -- region 42 compm.go:732
                        refine wl (ro_move rfl) ?_
                        refine wl (ro_nilCheck rfl) ?_
                        refine wl (ro_fieldAddr (k := 2) rfl fo_126_2) ?_
                        refine wl (ro_loadB rfl sc_3 (by assumption) rfl) ?_
                        refine wl (ro_cmp rfl rfl rfl) ?_
                        refine wl_nil (x_then (hK53 _ _ ?_))
                        clear hK53 K53
                        refine wc_cond rfl (fun hc163 => ?_) (fun hc163 => ?_)
                        · try simp only [decide_eq_true_eq, decide_eq_false_iff_not, Bool.not_eq_true', Bool.not_eq_false', Bool.not_eq_eq_eq_not, Bool.not_true, Bool.not_false, beq_iff_eq, bne_iff_ne, ne_eq, beq_eq_false_iff_ne, bne_eq_false_iff_eq, gt_iff_lt, ge_iff_le, Int.not_lt, Int.not_le] at hc163
                          refine c_seq (fun K54 hK54 => ?_)
                          refine c_reg ?_ -- region 43 compm.go:733
                          refine wl (ro_build rfl bld_119_0) ?_
                          refine wl_puta rfl rfl ((pvc_one (vBool false))) sz_119 (rfl) h10 ((by simp)) ((show _ = pvc (vBool false) from rfl)) (fun w45 h10 F45 => ?_)
                          replace hF := hF.thenDrew.thenO F45 (by first | exact .inr (by omega) | exact .inl rfl | exact .inl (by assumption) | assumption)
                          replace hR := hR.hbput ((Fram.refl (one b10) _).thenDrew.thenO F45 (.inl rfl))
                          replace h5 := F45.blkO h5 (by first | omega | exact ow_ne (by assumption) (by assumption) (by omega))
                          replace h7 := F45.blkO h7 (by first | omega | exact ow_ne (by assumption) (by assumption) (by omega))
                          replace h8 := F45.blkO h8 (by first | omega | exact ow_ne (by assumption) (by assumption) (by omega))
                          replace h9 := F45.blkO h9 (by first | omega | exact ow_ne (by assumption) (by assumption) (by omega))
                          replace h11 := F45.blkO h11 (by first | omega | exact ow_ne (by assumption) (by assumption) (by omega))
                          replace hO := F45.blkO hO (by first | omega | exact ow_ne (by assumption) (by assumption) (by omega))
                          replace hB := F45.blkO hB (by first | omega | exact ow_ne (by assumption) (by assumption) (by omega))
                          replace hXr := F45.blkO hXr (by first | omega | exact ow_ne (by assumption) (by assumption) (by omega))
                          refine wl_nil (x_then (hK54 _ _ ?_))
                          clear hK54 K54
                          refine c_reg ?_ -- region 44 compm.go:734
                          refine wl (ro_build rfl bld_119_0_2) ?_
                          refine wl_puta rfl rfl ((pvc_one (vStr mDepth))) sz_119 (rfl) h11 ((by simp)) ((show _ = pvc (vStr mDepth) from rfl)) (fun w46 h11 F46 => ?_)
                          replace hF := hF.thenDrew.thenO F46 (by first | exact .inr (by omega) | exact .inl rfl | exact .inl (by assumption) | assumption)
                          replace hR := hR.hbput ((Fram.refl (one b11) _).thenDrew.thenO F46 (.inl rfl))
                          replace h5 := F46.blkO h5 (by first | omega | exact ow_ne (by assumption) (by assumption) (by omega))
                          replace h7 := F46.blkO h7 (by first | omega | exact ow_ne (by assumption) (by assumption) (by omega))
                          replace h8 := F46.blkO h8 (by first | omega | exact ow_ne (by assumption) (by assumption) (by omega))
                          replace h9 := F46.blkO h9 (by first | omega | exact ow_ne (by assumption) (by assumption) (by omega))
                          replace h10 := F46.blkO h10 (by first | omega | exact ow_ne (by assumption) (by assumption) (by omega))
                          replace hO := F46.blkO hO (by first | omega | exact ow_ne (by assumption) (by assumption) (by omega))
                          replace hB := F46.blkO hB (by first | omega | exact ow_ne (by assumption) (by assumption) (by omega))
                          replace hXr := F46.blkO hXr (by first | omega | exact ow_ne (by assumption) (by assumption) (by omega))
                          refine wl_nil (x_blk (x_then (hK23 _ _ ?_)))
                          clear hK23 K23
                          refine forget [(0, _), (10, _), (11, _)] ⟨rfl, rfl, rfl, trivial⟩ (fun e => ?_)
                          refine c_seq (fun K55 hK55 => ?_)
                          obtain ⟨vp, hvp, h10⟩ : ∃ vp, vp = _ ∧ Blk _ b10 (pvc vp) 119 := ⟨_, rfl, h10⟩
                          obtain ⟨vq', hvq, h11⟩ : ∃ vp, vp = _ ∧ Blk _ b11 (pvc vp) 119 := ⟨_, rfl, h11⟩
                          refine c_reg ?_ -- region 94 compm.go:808
                          refine wl (ro_move rfl) ?_
                          refine wl (ro_loadAggB rfl ag_119 (h10) (rfl) (rfl)) ?_
                          refine wl_call rfl en_67 (push67 (v := vp) hR.dr (by omega)) ?_
                          rintro _ u47 ⟨rfl, ow47, x47, f47, r47⟩
                          obtain ⟨h5, kh5⟩ := cm_loc x47 f47 h5 kh5
                          obtain ⟨h7, kh7⟩ := cm_loc x47 f47 h7 kh7
                          obtain ⟨h8, kh8⟩ := cm_loc x47 f47 h8 kh8
                          obtain ⟨h9, kh9⟩ := cm_loc x47 f47 h9 kh9
                          obtain ⟨h10, kh10⟩ := cm_loc x47 f47 h10 kh10
                          obtain ⟨h11, kh11⟩ := cm_loc x47 f47 h11 kh11
                          have hs47 := hF.size
                          replace hF := cm_trans hX hF f47
                          replace hX := hX.trans hs47 x47
                          replace hR := r47
                          refine wl_nil (x_then (hK55 _ _ ?_))
                          clear hK55 K55
                          refine c_reg ?_ -- region 95 compm.go:809
                          refine wl (ro_move rfl) ?_
                          refine wl (ro_loadAggB rfl ag_119 (h11) (rfl) (rfl)) ?_
                          refine wl_call rfl en_67 (push67 (v := vq') hR.dr (by omega)) ?_
                          rintro _ u48 ⟨rfl, ow48, x48, f48, r48⟩
                          obtain ⟨h5, kh5⟩ := cm_loc x48 f48 h5 kh5
                          obtain ⟨h7, kh7⟩ := cm_loc x48 f48 h7 kh7
                          obtain ⟨h8, kh8⟩ := cm_loc x48 f48 h8 kh8
                          obtain ⟨h9, kh9⟩ := cm_loc x48 f48 h9 kh9
                          obtain ⟨h10, kh10⟩ := cm_loc x48 f48 h10 kh10
                          obtain ⟨h11, kh11⟩ := cm_loc x48 f48 h11 kh11
                          have hs48 := hF.size
                          replace hF := cm_trans hX hF f48
                          replace hX := hX.trans hs48 x48
                          replace hR := r48
                          refine wl_nil ?_
                          refine bp_end Tryz.results69 rfl ?_
                          refine ⟨rfl, ?_⟩
                          rw [hgoal]
                          try subst hvp hvq
                          try dsimp only at *
                          first
                          | (exfalso; omega)
                          | (repeat (first | rw [if_pos (by omega)] | rw [if_neg (by omega)])
                             first
                             | exact hfin hX hF hR (by omega)
                             | exact hfin2 hX hF hR (by omega)
                             | exact hfin3 hX hF hR (by omega))
                        · try simp only [decide_eq_true_eq, decide_eq_false_iff_not, Bool.not_eq_true', Bool.not_eq_false', Bool.not_eq_eq_eq_not, Bool.not_true, Bool.not_false, beq_iff_eq, bne_iff_ne, ne_eq, beq_eq_false_iff_ne, bne_eq_false_iff_eq, gt_iff_lt, ge_iff_le, Int.not_lt, Int.not_le] at hc163
                          refine c_seq (fun K56 hK56 => ?_)
                          have hfl := hoka.f (by omega)
                          have hcc : s2.clos[a.N]? = some (s2.clos.getD a.N (0, 0)) := by rw [List.getD_eq_getElem?_getD, List.getElem?_eq_getElem hfl]; rfl
                          obtain ⟨-, hci, ⟨ps, hnm, hp3⟩, -⟩ := hA.cl _ (List.mem_of_getElem? hcc)
                          have hnc := hA.nc
                          have hzz : ∀ (i : Nat) z, [b][i]? = some z → some (⟨b5, 0 + 1 * 3, none⟩ : Addr) = some ⟨b5, 3, none⟩ ∧ ((pvc a ++ (pvc b ++ pvc c)).drop (3 + i * 3)).take 3 = pvc z := fun i z hi => ⟨rfl, by
                            match i, hi with
                            | 0, hi => cases hi; rfl⟩
                          have hdp := hA.dp s2.th (List.mem_of_getElem? (th_at hR.cl))
                          refine c_piL 5 [(0, false), (1, false), (2, false), (3, false), (4, false)] (SameH _) mixed (by kernel_rfl) rfl (by kernel_rfl) (po_then (po_blk (po_then (po_bp)))) (sameH_now _ _) ?_ -- region 45 compm.go:736
                          refine ql_ro rfl (fun w hS => ro_move rfl) ?_
                          refine ql_ro rfl (fun w hS => ro_fieldAddr (k := 1) rfl fo_119_1) ?_
                          refine ql_ro rfl (fun w hS => ro_loadB rfl sc_117 (Blk.of_heap (by assumption) hS) rfl) ?_
                          refine ql_ro rfl (fun w hS => ro_conv rfl sc_117 in_3 (Go.IntWalk.i64_in _ (by omega))) ?_
                          refine ql_ro rfl (fun w hS => ro_sliceALH (l := 1) (h := 2) rfl rfl rfl ar_225 rfl rfl (by omega) (by omega) (by omega)) ?_
                          refine ql_lastC rfl rfl en_32 (enter32 (c := a.N) (prot := 1) (zs := [b]) hR.dr hG hfl hci hnm hp3 h5 kh5 hzz (by omega) (by omega)) ?_
                          rintro _ u49 ⟨rfl, bs, ow49, x49, f49, r49⟩
                          obtain ⟨h5, kh5⟩ := cm_loc x49 f49 h5 kh5
                          obtain ⟨h7, kh7⟩ := cm_loc x49 f49 h7 kh7
                          obtain ⟨h8, kh8⟩ := cm_loc x49 f49 h8 kh8
                          obtain ⟨h9, kh9⟩ := cm_loc x49 f49 h9 kh9
                          obtain ⟨h10, kh10⟩ := cm_loc x49 f49 h10 kh10
                          obtain ⟨h11, kh11⟩ := cm_loc x49 f49 h11 kh11
                          have hs49 := hF.size
                          replace hF := cm_trans hX hF f49
                          replace hX := hX.trans hs49 x49
                          replace hR := r49
                          refine x_then (hK56 _ _ ?_)
                          clear hK56 K56
                          refine c_ret (x_blkR (x_thenR ?_))
                          refine bp_ret Tryz.results69 rfl ?_
                          refine ⟨rfl, ?_⟩
                          rw [hgoal]
                          try subst hvp hvq
                          try dsimp only at *
                          first
                          | (exfalso; omega)
                          | (repeat (first | rw [if_pos (by omega)] | rw [if_neg (by omega)])
                             first
                             | exact hfin hX hF hR (by omega)
                             | exact hfin2 hX hF hR (by omega)
                             | exact hfin3 hX hF hR (by omega))
                    · try simp only [decide_eq_true_eq, decide_eq_false_iff_not, Bool.not_eq_true', Bool.not_eq_false', Bool.not_eq_eq_eq_not, Bool.not_true, Bool.not_false, beq_iff_eq, bne_iff_ne, ne_eq, beq_eq_false_iff_ne, bne_eq_false_iff_eq, gt_iff_lt, ge_iff_le, Int.not_lt, Int.not_le] at hc152
                      refine c_seq (fun K57 hK57 => ?_)
                      refine c_reg ?_ -- region 46 compm.go:739
                      refine wl (ro_cmp rfl rfl rfl) ?_
                      refine wl (ro_assign rfl) ?_
                      refine wl_nil (x_then (hK57 _ _ ?_))
                      clear hK57 K57
                      refine wc_cond rfl (fun hc172 => ?_) (fun hc172 => ?_)
                      · try simp only [decide_eq_true_eq, decide_eq_false_iff_not, Bool.not_eq_true', Bool.not_eq_false', Bool.not_eq_eq_eq_not, Bool.not_true, Bool.not_false, beq_iff_eq, bne_iff_ne, ne_eq, beq_eq_false_iff_ne, bne_eq_false_iff_eq, gt_iff_lt, ge_iff_le, Int.not_lt, Int.not_le] at hc172
                        refine c_seq (fun K58 hK58 => ?_)
                        refine c_seq (fun K59 hK59 => ?_)
                        refine c_reg ?_ -- region 47 compm.go:740
                        refine wl (ro_fieldAddr (k := 0) rfl fo_119_0) ?_
                        refine wl (ro_loadB rfl sc_3 (by assumption) rfl) ?_
                        refine wl (ro_cmp rfl rfl rfl) ?_
                        refine wl_nil (x_then (hK59 _ _ ?_))
                        clear hK59 K59
                        refine wc_cond rfl (fun hc176 => ?_) (fun hc176 => ?_)
                        · try simp only [decide_eq_true_eq, decide_eq_false_iff_not, Bool.not_eq_true', Bool.not_eq_false', Bool.not_eq_eq_eq_not, Bool.not_true, Bool.not_false, beq_iff_eq, bne_iff_ne, ne_eq, beq_eq_false_iff_ne, bne_eq_false_iff_eq, gt_iff_lt, ge_iff_le, Int.not_lt, Int.not_le] at hc176
                          refine c_seq (fun K60 hK60 => ?_)
                          refine c_reg ?_ -- region 48 compm.go:741
                          refine wl (ro_move rfl) ?_
                          refine wl_call rfl en_64 (raise64 (z := mNext) hR.dr (by decide) hA.rt (by omega)) ?_
                          rintro _ u50 ⟨rfl, ow50, x50, f50, r50⟩
                          obtain ⟨h5, kh5⟩ := cm_loc x50 f50 h5 kh5
                          obtain ⟨h7, kh7⟩ := cm_loc x50 f50 h7 kh7
                          obtain ⟨h8, kh8⟩ := cm_loc x50 f50 h8 kh8
                          obtain ⟨h9, kh9⟩ := cm_loc x50 f50 h9 kh9
                          obtain ⟨h10, kh10⟩ := cm_loc x50 f50 h10 kh10
                          obtain ⟨h11, kh11⟩ := cm_loc x50 f50 h11 kh11
                          have hs50 := hF.size
                          replace hF := cm_trans hX hF f50
                          replace hX := hX.trans hs50 x50
                          replace hR := r50
                          refine wl_nil (x_then (hK60 _ _ ?_))
                          clear hK60 K60
                          refine c_ret (x_thenR (x_blkR (x_thenR ?_)))
                          refine bp_ret Tryz.results69 rfl ?_
                          refine ⟨rfl, ?_⟩
                          rw [hgoal]
                          try subst hvp hvq
                          try dsimp only at *
                          first
                          | (exfalso; omega)
                          | (repeat (first | rw [if_pos (by omega)] | rw [if_neg (by omega)])
                             first
                             | exact hfin hX hF hR (by omega)
                             | exact hfin2 hX hF hR (by omega)
                             | exact hfin3 hX hF hR (by omega))
                        · try simp only [decide_eq_true_eq, decide_eq_false_iff_not, Bool.not_eq_true', Bool.not_eq_false', Bool.not_eq_eq_eq_not, Bool.not_true, Bool.not_false, beq_iff_eq, bne_iff_ne, ne_eq, beq_eq_false_iff_ne, bne_eq_false_iff_eq, gt_iff_lt, ge_iff_le, Int.not_lt, Int.not_le] at hc176
                          refine c_skip (x_then (hK58 _ _ ?_))
                          clear hK58 K58
                          refine forget [(0, _), (8, _), (9, _), (10, _), (11, _)] ⟨rfl, rfl, rfl, rfl, rfl, trivial⟩ (fun e => ?_)
                          refine c_seq (fun K61 hK61 => ?_)
                          have htb := hoka.tb (by omega)
                          have hnh := hA.nh
                          refine c_piH 17 8 13 14 [0, 1, 2, 3, 4, 5, 6, 7] [9, 10, 11, 12] [(15, true), (16, true)] (La b5 _ _ (La b7 _ _ (La b8 _ _ (La b9 _ _ (La b10 _ _ (La b11 _ _ (Lz rb _ _ _))))))) mixed (by kernel_rfl) rfl (by kernel_rfl) (po_then (po_blk (po_then (po_bp)))) (⟨h5, h7, h8, h9, h10, h11, hR.rz⟩) ?_ -- region 49 compm.go:744
                          refine wh_ro rfl (fun w hS => ro_move rfl) ?_
                          refine wh_ro rfl (fun w hS => ro_nilCheck rfl) ?_
                          refine wh_ro rfl (fun w hS => ro_fieldAddr (k := 1) rfl fo_112_1) ?_
                          refine wh_ro rfl (fun w hS => let ⟨_, hc⟩ := hS.2.2.2.2.2.2; ro_loadB rfl sc_48 hc rfl) ?_
                          refine wh_ro rfl (fun w hS => ro_fieldAddr (k := 1) rfl fo_119_1) ?_
                          refine wh_ro rfl (fun w hS => ro_loadB rfl sc_117 (hS.2.2.1) rfl) ?_
                          refine wh_ro rfl (fun w hS => ro_conv rfl sc_117 in_3 (Go.IntWalk.i64_in _ (by omega))) ?_
                          refine wh_ro rfl (fun w hS => ro_loadAggB rfl ag_119 (hS.2.2.2.1) rfl rfl) ?_
                          refine wh_nx (.tuple #[pv ((tNext (s2.tabs.getD a.N []) b).getD (vNil, vNil)).1, pv ((tNext (s2.tabs.getD a.N []) b).getD (vNil, vNil)).2, (icv (if (tNext (s2.tabs.getD a.N []) b).isSome then 0 else 7))]) (pvc ((tNext (s2.tabs.getD a.N []) b).getD (vNil, vNil)).1) (pvc ((tNext (s2.tabs.getD a.N []) b).getD (vNil, vNil)).2) ((icv (if (tNext (s2.tabs.getD a.N []) b).isSome then 0 else 7))) rfl rfl rfl rfl rfl rfl rfl rfl rfl rfl rfl (by decide) (by decide) rfl (fun _ => rfl) (fun _ => rfl) (fun _ _ => rfl) (fun _ _ => rfl) en_68 ze_119 sz_119 rfl rfl rfl (pvc_one _) (pvc_one _) (fun w1 F => (hR.dr.thruN F).next68' (n := a.N) (k := b) htb hokb.wf hokb.w) (fun u F => ⟨F.blkN h5, F.blkN h7, F.blkN h8, F.blkN h9, F.blkN h10, F.blkN h11, (hR.dr.thruN F).rz⟩) ?_
                          intro b17 b18 w51 hbb17 hbb18 hneb17b18 h17 h18 F51
                          have hbsb17 := Nat.le_trans hF.size hbb17
                          have hneb5b17 : b5 < b17 := Nat.lt_of_lt_of_le h5.lt hbb17
                          have hneb7b17 : b7 < b17 := Nat.lt_of_lt_of_le h7.lt hbb17
                          have hneb8b17 : b8 < b17 := Nat.lt_of_lt_of_le h8.lt hbb17
                          have hneb9b17 : b9 < b17 := Nat.lt_of_lt_of_le h9.lt hbb17
                          have hneb10b17 : b10 < b17 := Nat.lt_of_lt_of_le h10.lt hbb17
                          have hneb11b17 : b11 < b17 := Nat.lt_of_lt_of_le h11.lt hbb17
                          have hbsb18 := Nat.le_trans hF.size hbb18
                          have hneb5b18 : b5 < b18 := Nat.lt_of_lt_of_le h5.lt hbb18
                          have hneb7b18 : b7 < b18 := Nat.lt_of_lt_of_le h7.lt hbb18
                          have hneb8b18 : b8 < b18 := Nat.lt_of_lt_of_le h8.lt hbb18
                          have hneb9b18 : b9 < b18 := Nat.lt_of_lt_of_le h9.lt hbb18
                          have hneb10b18 : b10 < b18 := Nat.lt_of_lt_of_le h10.lt hbb18
                          have hneb11b18 : b11 < b18 := Nat.lt_of_lt_of_le h11.lt hbb18
                          have kh17 := hR.df b17 hbb17
                          have kh18 := hR.df b18 hbb18
                          replace hF := hF.thenDrew.thenN F51
                          replace hR := hR.thruN ((Fram.refl none' _).thenDrew.thenN F51)
                          replace h5 := F51.blkN h5
                          replace h7 := F51.blkN h7
                          replace h8 := F51.blkN h8
                          replace h9 := F51.blkN h9
                          replace h10 := F51.blkN h10
                          replace h11 := F51.blkN h11
                          refine x_then (hK61 _ _ ?_)
                          clear hK61 K61
                          refine c_seq (fun K62 hK62 => ?_)
                          refine c_seq (fun K63 hK63 => ?_)
                          refine c_reg ?_ -- region 50 compm.go:745
                          refine wl (ro_move rfl) ?_
                          refine wl (ro_cmp rfl rfl rfl) ?_
                          refine wl_nil (x_then (hK63 _ _ ?_))
                          clear hK63 K63
                          refine wc_cond rfl (fun hc193 => ?_) (fun hc193 => ?_)
                          · try simp only [decide_eq_true_eq, decide_eq_false_iff_not, Bool.not_eq_true', Bool.not_eq_false', Bool.not_eq_eq_eq_not, Bool.not_true, Bool.not_false, beq_iff_eq, bne_iff_ne, ne_eq, beq_eq_false_iff_ne, bne_eq_false_iff_eq, gt_iff_lt, ge_iff_le, Int.not_lt, Int.not_le] at hc193
                            have hnn : tNext (s2.tabs.getD a.N []) b = none := by
                              cases h : tNext (s2.tabs.getD a.N []) b with
                              | none => rfl
                              | some p => rw [h] at hc193; simp at hc193
                            rw [hnn] at hgoal
                            refine c_seq (fun K64 hK64 => ?_)
                            refine c_reg ?_ -- region 51 compm.go:746
                            refine wl (ro_move rfl) ?_
                            refine wl_call rfl en_64 (raise64 (z := mNext) hR.dr (by decide) hA.rt (by omega)) ?_
                            rintro _ u52 ⟨rfl, ow52, x52, f52, r52⟩
                            obtain ⟨h5, kh5⟩ := cm_loc x52 f52 h5 kh5
                            obtain ⟨h7, kh7⟩ := cm_loc x52 f52 h7 kh7
                            obtain ⟨h8, kh8⟩ := cm_loc x52 f52 h8 kh8
                            obtain ⟨h9, kh9⟩ := cm_loc x52 f52 h9 kh9
                            obtain ⟨h10, kh10⟩ := cm_loc x52 f52 h10 kh10
                            obtain ⟨h11, kh11⟩ := cm_loc x52 f52 h11 kh11
                            obtain ⟨h17, kh17⟩ := cm_loc x52 f52 h17 kh17
                            obtain ⟨h18, kh18⟩ := cm_loc x52 f52 h18 kh18
                            have hs52 := hF.size
                            replace hF := cm_trans hX hF f52
                            replace hX := hX.trans hs52 x52
                            replace hR := r52
                            refine wl_nil (x_then (hK64 _ _ ?_))
                            clear hK64 K64
                            refine c_ret (x_thenR (x_blkR (x_thenR ?_)))
                            refine bp_ret Tryz.results69 rfl ?_
                            refine ⟨rfl, ?_⟩
                            rw [hgoal]
                            try subst hvp hvq
                            try dsimp only at *
                            first
                            | (exfalso; omega)
                            | (repeat (first | rw [if_pos (by omega)] | rw [if_neg (by omega)])
                               first
                               | exact hfin hX hF hR (by omega)
                               | exact hfin2 hX hF hR (by omega)
                               | exact hfin3 hX hF hR (by omega))
                          · try simp only [decide_eq_true_eq, decide_eq_false_iff_not, Bool.not_eq_true', Bool.not_eq_false', Bool.not_eq_eq_eq_not, Bool.not_true, Bool.not_false, beq_iff_eq, bne_iff_ne, ne_eq, beq_eq_false_iff_ne, bne_eq_false_iff_eq, gt_iff_lt, ge_iff_le, Int.not_lt, Int.not_le] at hc193
                            obtain ⟨⟨kq, vq⟩, hnn⟩ : ∃ p, tNext (s2.tabs.getD a.N []) b = some p := by
                              cases h : tNext (s2.tabs.getD a.N []) b with
                              | none => rw [h] at hc193; simp at hc193
                              | some p => exact ⟨p, rfl⟩
                            rw [hnn] at hgoal h17 h18
                            refine c_skip (x_then (hK62 _ _ ?_))
                            clear hK62 K62
                            refine forget [(0, _), (10, _), (11, _), (17, _), (18, _)] ⟨rfl, rfl, rfl, rfl, rfl, trivial⟩ (fun e => ?_)
                            refine c_seq (fun K65 hK65 => ?_)
                            refine c_reg ?_ -- region 52 compm.go:749
                            refine wl (ro_loadAggB rfl ag_119 (by assumption) rfl rfl) ?_
                            refine wl_puta rfl rfl ((pvc_one _)) sz_119 (rfl) h10 ((by simp)) ((show _ = pvc kq from rfl)) (fun w53 h10 F53 => ?_)
                            replace hF := hF.thenDrew.thenO F53 (by first | exact .inr (by omega) | exact .inl rfl | exact .inl (by assumption) | assumption)
                            replace hR := hR.hbput ((Fram.refl (one b10) _).thenDrew.thenO F53 (.inl rfl))
                            replace h5 := F53.blkO h5 (by first | omega | exact ow_ne (by assumption) (by assumption) (by omega))
                            replace h7 := F53.blkO h7 (by first | omega | exact ow_ne (by assumption) (by assumption) (by omega))
                            replace h8 := F53.blkO h8 (by first | omega | exact ow_ne (by assumption) (by assumption) (by omega))
                            replace h9 := F53.blkO h9 (by first | omega | exact ow_ne (by assumption) (by assumption) (by omega))
                            replace h11 := F53.blkO h11 (by first | omega | exact ow_ne (by assumption) (by assumption) (by omega))
                            replace h17 := F53.blkO h17 (by first | omega | exact ow_ne (by assumption) (by assumption) (by omega))
                            replace h18 := F53.blkO h18 (by first | omega | exact ow_ne (by assumption) (by assumption) (by omega))
                            refine wl_nil (x_then (hK65 _ _ ?_))
                            clear hK65 K65
                            refine c_reg ?_ -- region 53 compm.go:750
                            refine wl (ro_loadAggB rfl ag_119 (by assumption) rfl rfl) ?_
                            refine wl_puta rfl rfl ((pvc_one _)) sz_119 (rfl) h11 ((by simp)) ((show _ = pvc vq from rfl)) (fun w54 h11 F54 => ?_)
                            replace hF := hF.thenDrew.thenO F54 (by first | exact .inr (by omega) | exact .inl rfl | exact .inl (by assumption) | assumption)
                            replace hR := hR.hbput ((Fram.refl (one b11) _).thenDrew.thenO F54 (.inl rfl))
                            replace h5 := F54.blkO h5 (by first | omega | exact ow_ne (by assumption) (by assumption) (by omega))
                            replace h7 := F54.blkO h7 (by first | omega | exact ow_ne (by assumption) (by assumption) (by omega))
                            replace h8 := F54.blkO h8 (by first | omega | exact ow_ne (by assumption) (by assumption) (by omega))
                            replace h9 := F54.blkO h9 (by first | omega | exact ow_ne (by assumption) (by assumption) (by omega))
                            replace h10 := F54.blkO h10 (by first | omega | exact ow_ne (by assumption) (by assumption) (by omega))
                            replace h17 := F54.blkO h17 (by first | omega | exact ow_ne (by assumption) (by assumption) (by omega))
                            replace h18 := F54.blkO h18 (by first | omega | exact ow_ne (by assumption) (by assumption) (by omega))
                            refine wl_nil (x_blk (x_then (hK23 _ _ ?_)))
                            clear hK23 K23
                            refine forget [(0, _), (10, _), (11, _)] ⟨rfl, rfl, rfl, trivial⟩ (fun e => ?_)
                            refine c_seq (fun K66 hK66 => ?_)
                            obtain ⟨vp, hvp, h10⟩ : ∃ vp, vp = _ ∧ Blk _ b10 (pvc vp) 119 := ⟨_, rfl, h10⟩
                            obtain ⟨vq', hvq, h11⟩ : ∃ vp, vp = _ ∧ Blk _ b11 (pvc vp) 119 := ⟨_, rfl, h11⟩
                            refine c_reg ?_ -- region 94 compm.go:808
                            refine wl (ro_move rfl) ?_
                            refine wl (ro_loadAggB rfl ag_119 (h10) (rfl) (rfl)) ?_
                            refine wl_call rfl en_67 (push67 (v := vp) hR.dr (by omega)) ?_
                            rintro _ u55 ⟨rfl, ow55, x55, f55, r55⟩
                            obtain ⟨h5, kh5⟩ := cm_loc x55 f55 h5 kh5
                            obtain ⟨h7, kh7⟩ := cm_loc x55 f55 h7 kh7
                            obtain ⟨h8, kh8⟩ := cm_loc x55 f55 h8 kh8
                            obtain ⟨h9, kh9⟩ := cm_loc x55 f55 h9 kh9
                            obtain ⟨h10, kh10⟩ := cm_loc x55 f55 h10 kh10
                            obtain ⟨h11, kh11⟩ := cm_loc x55 f55 h11 kh11
                            obtain ⟨h17, kh17⟩ := cm_loc x55 f55 h17 kh17
                            obtain ⟨h18, kh18⟩ := cm_loc x55 f55 h18 kh18
                            have hs55 := hF.size
                            replace hF := cm_trans hX hF f55
                            replace hX := hX.trans hs55 x55
                            replace hR := r55
                            refine wl_nil (x_then (hK66 _ _ ?_))
                            clear hK66 K66
                            refine c_reg ?_ -- region 95 compm.go:809
                            refine wl (ro_move rfl) ?_
                            refine wl (ro_loadAggB rfl ag_119 (h11) (rfl) (rfl)) ?_
                            refine wl_call rfl en_67 (push67 (v := vq') hR.dr (by omega)) ?_
                            rintro _ u56 ⟨rfl, ow56, x56, f56, r56⟩
                            obtain ⟨h5, kh5⟩ := cm_loc x56 f56 h5 kh5
                            obtain ⟨h7, kh7⟩ := cm_loc x56 f56 h7 kh7
                            obtain ⟨h8, kh8⟩ := cm_loc x56 f56 h8 kh8
                            obtain ⟨h9, kh9⟩ := cm_loc x56 f56 h9 kh9
                            obtain ⟨h10, kh10⟩ := cm_loc x56 f56 h10 kh10
                            obtain ⟨h11, kh11⟩ := cm_loc x56 f56 h11 kh11
                            obtain ⟨h17, kh17⟩ := cm_loc x56 f56 h17 kh17
                            obtain ⟨h18, kh18⟩ := cm_loc x56 f56 h18 kh18
                            have hs56 := hF.size
                            replace hF := cm_trans hX hF f56
                            replace hX := hX.trans hs56 x56
                            replace hR := r56
                            refine wl_nil ?_
                            refine bp_end Tryz.results69 rfl ?_
                            refine ⟨rfl, ?_⟩
                            rw [hgoal]
                            try subst hvp hvq
                            try dsimp only at *
                            first
                            | (exfalso; omega)
                            | (repeat (first | rw [if_pos (by omega)] | rw [if_neg (by omega)])
                               first
                               | exact hfin hX hF hR (by omega)
                               | exact hfin2 hX hF hR (by omega)
                               | exact hfin3 hX hF hR (by omega))
                      · try simp only [decide_eq_true_eq, decide_eq_false_iff_not, Bool.not_eq_true', Bool.not_eq_false', Bool.not_eq_eq_eq_not, Bool.not_true, Bool.not_false, beq_iff_eq, bne_iff_ne, ne_eq, beq_eq_false_iff_ne, bne_eq_false_iff_eq, gt_iff_lt, ge_iff_le, Int.not_lt, Int.not_le] at hc172
                        refine c_seq (fun K67 hK67 => ?_)
                        refine c_reg ?_ -- region 54 compm.go:751
                        refine wl (ro_cmp rfl rfl rfl) ?_
                        refine wl (ro_assign rfl) ?_
                        refine wl_nil (x_then (hK67 _ _ ?_))
                        clear hK67 K67
                        refine wc_cond rfl (fun hc198 => ?_) (fun hc198 => ?_)
                        · try simp only [decide_eq_true_eq, decide_eq_false_iff_not, Bool.not_eq_true', Bool.not_eq_false', Bool.not_eq_eq_eq_not, Bool.not_true, Bool.not_false, beq_iff_eq, bne_iff_ne, ne_eq, beq_eq_false_iff_ne, bne_eq_false_iff_eq, gt_iff_lt, ge_iff_le, Int.not_lt, Int.not_le] at hc198
                          refine c_seq (fun K68 hK68 => ?_)
                          refine c_seq (fun K69 hK69 => ?_)
                          refine c_reg ?_ -- region 55 compm.go:752
                          refine wl (ro_fieldAddr (k := 0) rfl fo_119_0) ?_
                          refine wl (ro_loadB rfl sc_3 (by assumption) rfl) ?_
                          refine wl (ro_cmp rfl rfl rfl) ?_
                          refine wl_nil (x_then (hK69 _ _ ?_))
                          clear hK69 K69
                          refine wc_cond rfl (fun hc202 => ?_) (fun hc202 => ?_)
                          · try simp only [decide_eq_true_eq, decide_eq_false_iff_not, Bool.not_eq_true', Bool.not_eq_false', Bool.not_eq_eq_eq_not, Bool.not_true, Bool.not_false, beq_iff_eq, bne_iff_ne, ne_eq, beq_eq_false_iff_ne, bne_eq_false_iff_eq, gt_iff_lt, ge_iff_le, Int.not_lt, Int.not_le] at hc202
                            refine c_seq (fun K70 hK70 => ?_)
                            refine c_reg ?_ -- region 56 compm.go:753
                            refine wl (ro_move rfl) ?_
                            refine wl_call rfl en_64 (raise64 (z := mCall) hR.dr (by decide) hA.rt (by omega)) ?_
                            rintro _ u57 ⟨rfl, ow57, x57, f57, r57⟩
                            obtain ⟨h5, kh5⟩ := cm_loc x57 f57 h5 kh5
                            obtain ⟨h7, kh7⟩ := cm_loc x57 f57 h7 kh7
                            obtain ⟨h8, kh8⟩ := cm_loc x57 f57 h8 kh8
                            obtain ⟨h9, kh9⟩ := cm_loc x57 f57 h9 kh9
                            obtain ⟨h10, kh10⟩ := cm_loc x57 f57 h10 kh10
                            obtain ⟨h11, kh11⟩ := cm_loc x57 f57 h11 kh11
                            have hs57 := hF.size
                            replace hF := cm_trans hX hF f57
                            replace hX := hX.trans hs57 x57
                            replace hR := r57
                            refine wl_nil (x_then (hK70 _ _ ?_))
                            clear hK70 K70
                            refine c_ret (x_thenR (x_blkR (x_thenR ?_)))
                            refine bp_ret Tryz.results69 rfl ?_
                            refine ⟨rfl, ?_⟩
                            rw [hgoal]
                            try subst hvp hvq
                            try dsimp only at *
                            first
                            | (exfalso; omega)
                            | (repeat (first | rw [if_pos (by omega)] | rw [if_neg (by omega)])
                               first
                               | exact hfin hX hF hR (by omega)
                               | exact hfin2 hX hF hR (by omega)
                               | exact hfin3 hX hF hR (by omega))
                          · try simp only [decide_eq_true_eq, decide_eq_false_iff_not, Bool.not_eq_true', Bool.not_eq_false', Bool.not_eq_eq_eq_not, Bool.not_true, Bool.not_false, beq_iff_eq, bne_iff_ne, ne_eq, beq_eq_false_iff_ne, bne_eq_false_iff_eq, gt_iff_lt, ge_iff_le, Int.not_lt, Int.not_le] at hc202
                            refine c_skip (x_then (hK68 _ _ ?_))
                            clear hK68 K68
                            refine c_seq (fun K71 hK71 => ?_)
                            refine c_seq (fun K72 hK72 => ?_)
                            obtain ⟨cv, hv_, a0, a1, a2, a3, a4, hXr, hq2, hq3, hq4⟩ := hR.r
                            unfold rnc at hXr
                            have hk70 := hR.t70
                            obtain ⟨ta, tc, rfl⟩ := hq3.form
                            have hXr0 := hXr
                            have hnt := hA.nt
                            refine c_reg ?_ -- region 57 compm.go:756
                            refine wl (ro_move rfl) ?_
                            refine wl (ro_nilCheck rfl) ?_
                            refine wl (ro_fieldAddr (k := 5) rfl fo_112_5) ?_
                            refine wl (ro_loadB rfl sc_109 (by assumption) rfl) ?_
                            refine wl (ro_lenL rfl se_109) ?_
                            refine wl (ro_cmp rfl rfl rfl) ?_
                            refine wl_nil (x_then (hK72 _ _ ?_))
                            clear hK72 K72
                            refine wc_cond rfl (fun hc210 => ?_) (fun hc210 => ?_)
                            · try simp only [decide_eq_true_eq, decide_eq_false_iff_not, Bool.not_eq_true', Bool.not_eq_false', Bool.not_eq_eq_eq_not, Bool.not_true, Bool.not_false, beq_iff_eq, bne_iff_ne, ne_eq, beq_eq_false_iff_ne, bne_eq_false_iff_eq, gt_iff_lt, ge_iff_le, Int.not_lt, Int.not_le] at hc210
                              refine c_seq (fun K73 hK73 => ?_)
                              refine c_reg ?_ -- region 58 compm.go:757
                              refine wl (ro_move rfl) ?_
                              refine wl_call rfl en_109 (finish109 hR.dr) ?_
                              rintro _ u58 ⟨rfl, ow58, x58, f58, r58⟩
                              obtain ⟨h5, kh5⟩ := cm_loc x58 f58 h5 kh5
                              obtain ⟨h7, kh7⟩ := cm_loc x58 f58 h7 kh7
                              obtain ⟨h8, kh8⟩ := cm_loc x58 f58 h8 kh8
                              obtain ⟨h9, kh9⟩ := cm_loc x58 f58 h9 kh9
                              obtain ⟨h10, kh10⟩ := cm_loc x58 f58 h10 kh10
                              obtain ⟨h11, kh11⟩ := cm_loc x58 f58 h11 kh11
                              have hs58 := hF.size
                              replace hF := cm_trans hX hF f58
                              replace hX := hX.trans hs58 x58
                              replace hR := r58
                              refine wl_nil (x_then (hK73 _ _ ?_))
                              clear hK73 K73
                              refine c_ret (x_thenR (x_blkR (x_thenR ?_)))
                              refine bp_ret Tryz.results69 rfl ?_
                              refine ⟨rfl, ?_⟩
                              rw [hgoal]
                              try subst hvp hvq
                              try dsimp only at *
                              first
                              | (exfalso; omega)
                              | (repeat (first | rw [if_pos (by omega)] | rw [if_neg (by omega)])
                                 first
                                 | exact hfin hX hF hR (by omega)
                                 | exact hfin2 hX hF hR (by omega)
                                 | exact hfin3 hX hF hR (by omega))
                            · try simp only [decide_eq_true_eq, decide_eq_false_iff_not, Bool.not_eq_true', Bool.not_eq_false', Bool.not_eq_eq_eq_not, Bool.not_true, Bool.not_false, beq_iff_eq, bne_iff_ne, ne_eq, beq_eq_false_iff_ne, bne_eq_false_iff_eq, gt_iff_lt, ge_iff_le, Int.not_lt, Int.not_le] at hc210
                              refine c_skip (x_then (hK71 _ _ ?_))
                              clear hK71 K71
                              refine forget [(0, _), (8, _), (10, _), (11, _)] ⟨rfl, rfl, rfl, rfl, trivial⟩ (fun e => ?_)
                              refine c_seq (fun K74 hK74 => ?_)
                              have hfl := hoka.f (by omega)
                              have hnc := hA.nc
                              refine c_piL 14 [(0, false), (1, false), (2, false), (3, false), (4, false), (5, false), (6, false), (7, false), (8, false), (9, true), (10, true), (11, true), (12, false), (13, false)] (La rb _ _ (La b8 _ _ (fun _ => True))) mixed (by kernel_rfl) rfl (by kernel_rfl) (po_then (po_blk (po_then (po_bp)))) (⟨hXr, h8, trivial⟩) ?_ -- region 59 compm.go:760
                              refine ql_ro rfl (fun w hS => ro_move rfl) ?_
                              refine ql_ro rfl (fun w hS => ro_move rfl) ?_
                              refine ql_ro rfl (fun w hS => ro_nilCheck rfl) ?_
                              refine ql_ro rfl (fun w hS => ro_fieldAddr (k := 5) rfl fo_112_5) ?_
                              refine ql_ro rfl (fun w hS => ro_loadB rfl sc_109 (hS.1) rfl) ?_
                              refine ql_ro rfl (fun w hS => ro_fieldAddr (k := 1) rfl fo_119_1) ?_
                              refine ql_ro rfl (fun w hS => ro_loadB rfl sc_117 (hS.2.1) rfl) ?_
                              refine ql_ro rfl (fun w hS => ro_conv rfl sc_117 in_3 (Go.IntWalk.i64_in _ (by omega))) ?_
                              refine ql_ro rfl (fun w hS => ro_build rfl bld_126_0_1) ?_
                              refine ql_box rfl rfl rfl (fun w1 F ↦ ⟨F.blkN hXr, F.blkN h8, trivial⟩) (fun b222 u5 hb222 h222 F5 ↦ ?_)
                              have hXr5 := F5.blkN hXr
                              have h8b := F5.blkN h8
                              have h222l := h222.lt
                              refine ql_bsapp (t := 109) (et := 123) (k := 1) (m := s2.ths.length) (cs := [ptr b222]) rfl rfl rfl rfl rfl rfl se_109 zx_123 by_123 rfl rfl rfl (fun u hu ↦ by rw [List.mem_singleton] at hu; subst hu; rfl) (hq3.o.fram ((Fram.refl none' _).thenDrew.thenN F5) (fun _ _ q ↦ q)) (by omega) (by omega) (fun w1 F ↦ ⟨F.blkN hXr5, F.blkN h8b, trivial⟩) (fun w1 F ↦ ⟨F.blkF hXr5 (fun q ↦ by have := hq3.t _ q; omega), F.blkF h8b (fun q ↦ by have := hq3.t _ q; omega), trivial⟩) ?_
                              intro v' u1 hon G1 hnb
                              replace hXr := G1.blkF hXr5 (fun q => by have := hq3.t _ q; omega)
                              obtain ⟨va, vc, rfl⟩ := hon.form
                              skip
                              refine ql_ro rfl (fun w hS => ro_nilCheck rfl) ?_
                              refine ql_ro rfl (fun w hS => ro_fieldAddr (k := 5) rfl fo_112_5) ?_
                              refine ql_put rfl rfl rfl rfl sz_109 hXr ((by simp)) (rfl) (fun w59 hXr F59 => ?_)
                              obtain ⟨ow77, x77, f77, r77⟩ := hR.newT hXr0 ((Fram.refl none' _).thenDrew.thenN F5) hb222 h222 hon G1 hnb (F59) hXr (by omega)
                              obtain ⟨h5, kh5⟩ := cm_loc x77 f77 h5 kh5
                              obtain ⟨h7, kh7⟩ := cm_loc x77 f77 h7 kh7
                              obtain ⟨h8, kh8⟩ := cm_loc x77 f77 h8 kh8
                              obtain ⟨h9, kh9⟩ := cm_loc x77 f77 h9 kh9
                              obtain ⟨h10, kh10⟩ := cm_loc x77 f77 h10 kh10
                              obtain ⟨h11, kh11⟩ := cm_loc x77 f77 h11 kh11
                              have hs77 := hF.size
                              replace hF := cm_trans hX hF f77
                              replace hX := hX.trans hs77 x77
                              replace hR := r77
                              refine x_then (hK74 _ _ ?_)
                              clear hK74 K74
                              obtain ⟨cv, hv_, a0, a1, a2, a3, a4, hXr, hq2, hq3, hq4⟩ := hR.r
                              unfold rnc at hXr
                              have hk70 := hR.t70
                              obtain ⟨ta2, tc2, rfl⟩ := hq3.form
                              refine c_reg ?_ -- region 60 compm.go:761
                              refine wl (ro_move rfl) ?_
                              refine wl (ro_nilCheck rfl) ?_
                              refine wl (ro_fieldAddr (k := 5) rfl fo_112_5) ?_
                              refine wl (ro_loadB rfl sc_109 (by assumption) rfl) ?_
                              refine wl (ro_lenL rfl se_109) ?_
                              refine wl (ro_arith (r := (s2.ths.length : Int)) rfl rfl (congrArg some (by simp)) (Go.IntWalk.i64_in _ (by omega))) ?_
                              refine wl (ro_conv rfl sc_3 in_117 (Go.IntWalk.u64_in _ (by omega))) ?_
                              refine wl (ro_build rfl bld_119_0_1) ?_
                              refine wl_puta rfl rfl ((pvc_one (vCo s2.ths.length))) sz_119 (rfl) h10 ((by simp)) ((show _ = pvc (vCo s2.ths.length) from rfl)) (fun w60 h10 F60 => ?_)
                              replace h5 := F60.blkO h5 (by first | omega | exact ow_ne (by assumption) (by assumption) (by omega))
                              replace h7 := F60.blkO h7 (by first | omega | exact ow_ne (by assumption) (by assumption) (by omega))
                              replace h8 := F60.blkO h8 (by first | omega | exact ow_ne (by assumption) (by assumption) (by omega))
                              replace h9 := F60.blkO h9 (by first | omega | exact ow_ne (by assumption) (by assumption) (by omega))
                              replace h11 := F60.blkO h11 (by first | omega | exact ow_ne (by assumption) (by assumption) (by omega))
                              replace hF := hF.thenDrew.thenO F60 (by first | exact .inr (by omega) | exact .inl rfl | exact .inl (by assumption) | assumption)
                              replace hR := hR.hbput ((Fram.refl (one b10) _).thenDrew.thenO F60 (.inl rfl))
                              replace hXr := F60.blkO hXr (by first | omega | exact ow_ne (by assumption) (by assumption) (by omega))
                              refine wl_nil (x_blk (x_then (hK23 _ _ ?_)))
                              clear hK23 K23
                              refine forget [(0, _), (10, _), (11, _)] ⟨rfl, rfl, rfl, trivial⟩ (fun e => ?_)
                              refine c_seq (fun K75 hK75 => ?_)
                              obtain ⟨vp, hvp, h10⟩ : ∃ vp, vp = _ ∧ Blk _ b10 (pvc vp) 119 := ⟨_, rfl, h10⟩
                              obtain ⟨vq', hvq, h11⟩ : ∃ vp, vp = _ ∧ Blk _ b11 (pvc vp) 119 := ⟨_, rfl, h11⟩
                              refine c_reg ?_ -- region 94 compm.go:808
                              refine wl (ro_move rfl) ?_
                              refine wl (ro_loadAggB rfl ag_119 (h10) (rfl) (rfl)) ?_
                              refine wl_call rfl en_67 (push67 (v := vp) hR.dr (by omega)) ?_
                              rintro _ u61 ⟨rfl, ow61, x61, f61, r61⟩
                              obtain ⟨h5, kh5⟩ := cm_loc x61 f61 h5 kh5
                              obtain ⟨h7, kh7⟩ := cm_loc x61 f61 h7 kh7
                              obtain ⟨h8, kh8⟩ := cm_loc x61 f61 h8 kh8
                              obtain ⟨h9, kh9⟩ := cm_loc x61 f61 h9 kh9
                              obtain ⟨h10, kh10⟩ := cm_loc x61 f61 h10 kh10
                              obtain ⟨h11, kh11⟩ := cm_loc x61 f61 h11 kh11
                              have hs61 := hF.size
                              replace hF := cm_trans hX hF f61
                              replace hX := hX.trans hs61 x61
                              replace hR := r61
                              refine wl_nil (x_then (hK75 _ _ ?_))
                              clear hK75 K75
                              refine c_reg ?_ -- region 95 compm.go:809
                              refine wl (ro_move rfl) ?_
                              refine wl (ro_loadAggB rfl ag_119 (h11) (rfl) (rfl)) ?_
                              refine wl_call rfl en_67 (push67 (v := vq') hR.dr (by omega)) ?_
                              rintro _ u62 ⟨rfl, ow62, x62, f62, r62⟩
                              obtain ⟨h5, kh5⟩ := cm_loc x62 f62 h5 kh5
                              obtain ⟨h7, kh7⟩ := cm_loc x62 f62 h7 kh7
                              obtain ⟨h8, kh8⟩ := cm_loc x62 f62 h8 kh8
                              obtain ⟨h9, kh9⟩ := cm_loc x62 f62 h9 kh9
                              obtain ⟨h10, kh10⟩ := cm_loc x62 f62 h10 kh10
                              obtain ⟨h11, kh11⟩ := cm_loc x62 f62 h11 kh11
                              have hs62 := hF.size
                              replace hF := cm_trans hX hF f62
                              replace hX := hX.trans hs62 x62
                              replace hR := r62
                              refine wl_nil ?_
                              refine bp_end Tryz.results69 rfl ?_
                              refine ⟨rfl, ?_⟩
                              rw [hgoal]
                              try subst hvp hvq
                              try dsimp only at *
                              first
                              | (exfalso; omega)
                              | (repeat (first | rw [if_pos (by omega)] | rw [if_neg (by omega)])
                                 first
                                 | exact hfin hX hF hR (by omega)
                                 | exact hfin2 hX hF hR (by omega)
                                 | exact hfin3 hX hF hR (by omega))
                        · try simp only [decide_eq_true_eq, decide_eq_false_iff_not, Bool.not_eq_true', Bool.not_eq_false', Bool.not_eq_eq_eq_not, Bool.not_true, Bool.not_false, beq_iff_eq, bne_iff_ne, ne_eq, beq_eq_false_iff_ne, bne_eq_false_iff_eq, gt_iff_lt, ge_iff_le, Int.not_lt, Int.not_le] at hc198
                          refine c_seq (fun K76 hK76 => ?_)
                          refine c_reg ?_ -- region 61 compm.go:762
                          refine wl (ro_cmp rfl rfl rfl) ?_
                          refine wl (ro_assign rfl) ?_
                          refine wl_nil (x_then (hK76 _ _ ?_))
                          clear hK76 K76
                          refine wc_cond rfl (fun hc235 => ?_) (fun hc235 => ?_)
                          · try simp only [decide_eq_true_eq, decide_eq_false_iff_not, Bool.not_eq_true', Bool.not_eq_false', Bool.not_eq_eq_eq_not, Bool.not_true, Bool.not_false, beq_iff_eq, bne_iff_ne, ne_eq, beq_eq_false_iff_ne, bne_eq_false_iff_eq, gt_iff_lt, ge_iff_le, Int.not_lt, Int.not_le] at hc235
                            refine c_seq (fun K77 hK77 => ?_)
                            refine c_seq (fun K78 hK78 => ?_)
                            refine c_reg ?_ -- region 62 compm.go:763
                            refine wl (ro_fieldAddr (k := 0) rfl fo_119_0) ?_
                            refine wl (ro_loadB rfl sc_3 (by assumption) rfl) ?_
                            refine wl (ro_cmp rfl rfl rfl) ?_
                            refine wl_nil (x_then (hK78 _ _ ?_))
                            clear hK78 K78
                            refine wc_cond rfl (fun hc239 => ?_) (fun hc239 => ?_)
                            · try simp only [decide_eq_true_eq, decide_eq_false_iff_not, Bool.not_eq_true', Bool.not_eq_false', Bool.not_eq_eq_eq_not, Bool.not_true, Bool.not_false, beq_iff_eq, bne_iff_ne, ne_eq, beq_eq_false_iff_ne, bne_eq_false_iff_eq, gt_iff_lt, ge_iff_le, Int.not_lt, Int.not_le] at hc239
                              refine c_seq (fun K79 hK79 => ?_)
                              refine c_reg ?_ -- region 63 compm.go:764
                              refine wl (ro_move rfl) ?_
                              refine wl_call rfl en_64 (raise64 (z := mCo) hR.dr (by decide) hA.rt (by omega)) ?_
                              rintro _ u63 ⟨rfl, ow63, x63, f63, r63⟩
                              obtain ⟨h5, kh5⟩ := cm_loc x63 f63 h5 kh5
                              obtain ⟨h7, kh7⟩ := cm_loc x63 f63 h7 kh7
                              obtain ⟨h8, kh8⟩ := cm_loc x63 f63 h8 kh8
                              obtain ⟨h9, kh9⟩ := cm_loc x63 f63 h9 kh9
                              obtain ⟨h10, kh10⟩ := cm_loc x63 f63 h10 kh10
                              obtain ⟨h11, kh11⟩ := cm_loc x63 f63 h11 kh11
                              have hs63 := hF.size
                              replace hF := cm_trans hX hF f63
                              replace hX := hX.trans hs63 x63
                              replace hR := r63
                              refine wl_nil (x_then (hK79 _ _ ?_))
                              clear hK79 K79
                              refine c_ret (x_thenR (x_blkR (x_thenR ?_)))
                              refine bp_ret Tryz.results69 rfl ?_
                              refine ⟨rfl, ?_⟩
                              rw [hgoal]
                              try subst hvp hvq
                              try dsimp only at *
                              first
                              | (exfalso; omega)
                              | (repeat (first | rw [if_pos (by omega)] | rw [if_neg (by omega)])
                                 first
                                 | exact hfin hX hF hR (by omega)
                                 | exact hfin2 hX hF hR (by omega)
                                 | exact hfin3 hX hF hR (by omega))
                            · try simp only [decide_eq_true_eq, decide_eq_false_iff_not, Bool.not_eq_true', Bool.not_eq_false', Bool.not_eq_eq_eq_not, Bool.not_true, Bool.not_false, beq_iff_eq, bne_iff_ne, ne_eq, beq_eq_false_iff_ne, bne_eq_false_iff_eq, gt_iff_lt, ge_iff_le, Int.not_lt, Int.not_le] at hc239
                              refine c_skip (x_then (hK77 _ _ ?_))
                              clear hK77 K77
                              refine forget [(0, _), (4, _), (5, _), (8, _), (9, _), (10, _), (11, _)] ⟨rfl, rfl, rfl, rfl, rfl, rfl, rfl, trivial⟩ (fun e => ?_)
                              refine c_seq (fun K80 hK80 => ?_)
                              have hcl7 := hoka.co (by omega)
                              have hnt := hA.nt
                              obtain ⟨cv, a0, a1, a2, a3, a4, gC, capC, lC, bC, tvC, vvC, hXr, hO, hlC, hcapC, hbC, hTC, hgC⟩ := hR.thAt hcl7
                              unfold rnc at hXr
                              have hk70 := hR.t70
                              have hV := hTC.k
                              have hkC := hTC.t
                              generalize hCg : s2.ths.getD a.N ITh.zero = C at *
                              have hCm : C ∈ s2.ths := by
                                rw [← hCg, List.getD_eq_getElem?_getD, List.getElem?_eq_getElem hcl7]
                                exact List.getElem_mem _
                              refine c_pi [(0, false), (1, false), (2, false), (3, false), (4, false), (5, false), (6, false), (7, false), (8, false)] (SameH _) mixed (by kernel_rfl) rfl (by kernel_rfl) (po_then (po_blk (po_then (po_bp)))) (sameH_now _ _) ?_ -- region 64 compm.go:767
                              refine pi_ro rfl (fun w hS => ro_move rfl) ?_
                              refine pi_ro rfl (fun w hS => ro_nilCheck rfl) ?_
                              refine pi_ro rfl (fun w hS => ro_fieldAddr (k := 5) rfl fo_112_5) ?_
                              refine pi_ro rfl (fun w hS => ro_loadB rfl sc_109 (Blk.of_heap (by assumption) hS) rfl) ?_
                              refine pi_ro rfl (fun w hS => ro_fieldAddr (k := 1) rfl fo_119_1) ?_
                              refine pi_ro rfl (fun w hS => ro_loadB rfl sc_117 (Blk.of_heap (by assumption) hS) rfl) ?_
                              refine pi_ro rfl (fun w hS => ro_indexAddr (et := 123) (k := 1) rfl rfl se_109 rfl (by omega)) ?_
                              refine pi_ro rfl (fun w hS => ro_loadB rfl sc_123 (Blk.of_heap hO hS) (hlC)) ?_
                              refine pi_ro rfl (fun w hS => ro_assign rfl) ?_
                              refine pi_nil (x_then (hK80 _ _ ?_))
                              clear hK80 K80
                              refine forget [(0, _), (4, _), (5, _), (8, _), (9, _), (10, _), (11, _), (20, _)] ⟨rfl, rfl, rfl, rfl, rfl, rfl, rfl, rfl, trivial⟩ (fun e => ?_)
                              refine c_seq (fun K81 hK81 => ?_)
                              refine c_reg ?_ -- region 65 compm.go:768
                              refine wl (ro_move rfl) ?_
                              refine wl (ro_nilCheck rfl) ?_
                              refine wl (ro_fieldAddr (k := 0) rfl fo_126_0) ?_
                              refine wl (ro_loadB rfl sc_3 (by assumption) rfl) ?_
                              refine wl (ro_cmp rfl rfl rfl) ?_
                              refine wl_fork rfl (fun hg255 => ?_) (fun hg255 => ?_)
                              · try simp only [decide_eq_true_eq, decide_eq_false_iff_not, Bool.not_eq_true', Bool.not_eq_false', Bool.not_eq_eq_eq_not, Bool.not_true, Bool.not_false, beq_iff_eq, bne_iff_ne, ne_eq, beq_eq_false_iff_ne, bne_eq_false_iff_eq, gt_iff_lt, ge_iff_le, Int.not_lt, Int.not_le] at hg255
                                refine wlg_yes rfl (ro_move rfl) ?_
                                refine wlg_yes rfl (ro_nilCheck rfl) ?_
                                refine wlg_yes rfl (ro_fieldAddr (k := 0) rfl fo_126_0) ?_
                                refine wlg_yes rfl (ro_loadB rfl sc_3 (by assumption) rfl) ?_
                                refine wlg_yes rfl (ro_cmp rfl rfl rfl) ?_
                                refine wl (ro_pick rfl rfl rfl) ?_
                                refine wl_nil (x_then (hK81 _ _ ?_))
                                clear hK81 K81
                                refine wc_cond rfl (fun hc261 => ?_) (fun hc261 => ?_)
                                · try simp only [decide_eq_true_eq, decide_eq_false_iff_not, Bool.not_eq_true', Bool.not_eq_false', Bool.not_eq_eq_eq_not, Bool.not_true, Bool.not_false, beq_iff_eq, bne_iff_ne, ne_eq, beq_eq_false_iff_ne, bne_eq_false_iff_eq, gt_iff_lt, ge_iff_le, Int.not_lt, Int.not_le] at hc261
                                  refine c_seq (fun K82 hK82 => ?_)
                                  refine c_reg ?_ -- region 66 compm.go:769
                                  refine wl (ro_move rfl) ?_
                                  refine wl (ro_nilCheck rfl) ?_
                                  refine wl (ro_fieldAddr (k := 0) rfl fo_126_0) ?_
                                  refine wl (ro_loadB rfl sc_3 (by assumption) rfl) ?_
                                  refine wl_call rfl en_121 (StatusName121) ?_
                                  rintro _ u0 ⟨rfl, hw0⟩
                                  rw [hw0]
                                  clear hw0 u0
                                  refine wl (ro_assign rfl) ?_
                                  refine wl_nil (x_then (hK82 _ _ ?_))
                                  clear hK82 K82
                                  refine forget [(0, _), (10, _), (11, _), (21, _)] ⟨rfl, rfl, rfl, rfl, trivial⟩ (fun e => ?_)
                                  refine c_seq (fun K83 hK83 => ?_)
                                  refine c_reg ?_ -- region 67 compm.go:770
                                  refine wl (ro_build rfl bld_119_0) ?_
                                  refine wl_puta rfl rfl ((pvc_one (vBool false))) sz_119 (rfl) h10 ((by simp)) ((show _ = pvc (vBool false) from rfl)) (fun w64 h10 F64 => ?_)
                                  replace hF := hF.thenDrew.thenO F64 (by first | exact .inr (by omega) | exact .inl rfl | exact .inl (by assumption) | assumption)
                                  replace hR := hR.hbput ((Fram.refl (one b10) _).thenDrew.thenO F64 (.inl rfl))
                                  replace h5 := F64.blkO h5 (by first | omega | exact ow_ne (by assumption) (by assumption) (by omega))
                                  replace h7 := F64.blkO h7 (by first | omega | exact ow_ne (by assumption) (by assumption) (by omega))
                                  replace h8 := F64.blkO h8 (by first | omega | exact ow_ne (by assumption) (by assumption) (by omega))
                                  replace h9 := F64.blkO h9 (by first | omega | exact ow_ne (by assumption) (by assumption) (by omega))
                                  replace h11 := F64.blkO h11 (by first | omega | exact ow_ne (by assumption) (by assumption) (by omega))
                                  replace hXr := F64.blkO hXr (by first | omega | exact ow_ne (by assumption) (by assumption) (by omega))
                                  replace hO := F64.blkO hO (by first | omega | exact ow_ne (by assumption) (by assumption) (by omega))
                                  replace hV := F64.blkO hV (by first | omega | exact ow_ne (by assumption) (by assumption) (by omega))
                                  refine wl_nil (x_then (hK83 _ _ ?_))
                                  clear hK83 K83
                                  refine c_reg ?_ -- region 68 compm.go:771
                                  refine wl (ro_move rfl) ?_
                                  refine wl (ro_build rfl bld_119_0_2) ?_
                                  refine wl_puta rfl rfl ((pvc_one (vStr (stName C.st)))) sz_119 (rfl) h11 ((by simp)) ((show _ = pvc (vStr (stName C.st)) from rfl)) (fun w65 h11 F65 => ?_)
                                  replace hF := hF.thenDrew.thenO F65 (by first | exact .inr (by omega) | exact .inl rfl | exact .inl (by assumption) | assumption)
                                  replace hR := hR.hbput ((Fram.refl (one b11) _).thenDrew.thenO F65 (.inl rfl))
                                  replace h5 := F65.blkO h5 (by first | omega | exact ow_ne (by assumption) (by assumption) (by omega))
                                  replace h7 := F65.blkO h7 (by first | omega | exact ow_ne (by assumption) (by assumption) (by omega))
                                  replace h8 := F65.blkO h8 (by first | omega | exact ow_ne (by assumption) (by assumption) (by omega))
                                  replace h9 := F65.blkO h9 (by first | omega | exact ow_ne (by assumption) (by assumption) (by omega))
                                  replace h10 := F65.blkO h10 (by first | omega | exact ow_ne (by assumption) (by assumption) (by omega))
                                  replace hXr := F65.blkO hXr (by first | omega | exact ow_ne (by assumption) (by assumption) (by omega))
                                  replace hO := F65.blkO hO (by first | omega | exact ow_ne (by assumption) (by assumption) (by omega))
                                  replace hV := F65.blkO hV (by first | omega | exact ow_ne (by assumption) (by assumption) (by omega))
                                  refine wl_nil (x_blk (x_then (hK23 _ _ ?_)))
                                  clear hK23 K23
                                  refine forget [(0, _), (10, _), (11, _)] ⟨rfl, rfl, rfl, trivial⟩ (fun e => ?_)
                                  refine c_seq (fun K84 hK84 => ?_)
                                  obtain ⟨vp, hvp, h10⟩ : ∃ vp, vp = _ ∧ Blk _ b10 (pvc vp) 119 := ⟨_, rfl, h10⟩
                                  obtain ⟨vq', hvq, h11⟩ : ∃ vp, vp = _ ∧ Blk _ b11 (pvc vp) 119 := ⟨_, rfl, h11⟩
                                  refine c_reg ?_ -- region 94 compm.go:808
                                  refine wl (ro_move rfl) ?_
                                  refine wl (ro_loadAggB rfl ag_119 (h10) (rfl) (rfl)) ?_
                                  refine wl_call rfl en_67 (push67 (v := vp) hR.dr (by omega)) ?_
                                  rintro _ u66 ⟨rfl, ow66, x66, f66, r66⟩
                                  obtain ⟨h5, kh5⟩ := cm_loc x66 f66 h5 kh5
                                  obtain ⟨h7, kh7⟩ := cm_loc x66 f66 h7 kh7
                                  obtain ⟨h8, kh8⟩ := cm_loc x66 f66 h8 kh8
                                  obtain ⟨h9, kh9⟩ := cm_loc x66 f66 h9 kh9
                                  obtain ⟨h10, kh10⟩ := cm_loc x66 f66 h10 kh10
                                  obtain ⟨h11, kh11⟩ := cm_loc x66 f66 h11 kh11
                                  have hs66 := hF.size
                                  replace hF := cm_trans hX hF f66
                                  replace hX := hX.trans hs66 x66
                                  replace hR := r66
                                  refine wl_nil (x_then (hK84 _ _ ?_))
                                  clear hK84 K84
                                  refine c_reg ?_ -- region 95 compm.go:809
                                  refine wl (ro_move rfl) ?_
                                  refine wl (ro_loadAggB rfl ag_119 (h11) (rfl) (rfl)) ?_
                                  refine wl_call rfl en_67 (push67 (v := vq') hR.dr (by omega)) ?_
                                  rintro _ u67 ⟨rfl, ow67, x67, f67, r67⟩
                                  obtain ⟨h5, kh5⟩ := cm_loc x67 f67 h5 kh5
                                  obtain ⟨h7, kh7⟩ := cm_loc x67 f67 h7 kh7
                                  obtain ⟨h8, kh8⟩ := cm_loc x67 f67 h8 kh8
                                  obtain ⟨h9, kh9⟩ := cm_loc x67 f67 h9 kh9
                                  obtain ⟨h10, kh10⟩ := cm_loc x67 f67 h10 kh10
                                  obtain ⟨h11, kh11⟩ := cm_loc x67 f67 h11 kh11
                                  have hs67 := hF.size
                                  replace hF := cm_trans hX hF f67
                                  replace hX := hX.trans hs67 x67
                                  replace hR := r67
                                  refine wl_nil ?_
                                  refine bp_end Tryz.results69 rfl ?_
                                  refine ⟨rfl, ?_⟩
                                  rw [hgoal]
                                  try subst hvp hvq
                                  try dsimp only at *
                                  first
                                  | (exfalso; omega)
                                  | (repeat (first | rw [if_pos (by omega)] | rw [if_neg (by omega)])
                                     first
                                     | exact hfin hX hF hR (by omega)
                                     | exact hfin2 hX hF hR (by omega)
                                     | exact hfin3 hX hF hR (by omega))
                                · try simp only [decide_eq_true_eq, decide_eq_false_iff_not, Bool.not_eq_true', Bool.not_eq_false', Bool.not_eq_eq_eq_not, Bool.not_true, Bool.not_false, beq_iff_eq, bne_iff_ne, ne_eq, beq_eq_false_iff_ne, bne_eq_false_iff_eq, gt_iff_lt, ge_iff_le, Int.not_lt, Int.not_le] at hc261
                                  refine c_seq (fun K85 hK85 => ?_)
                                  unfold iresume at hgoal
                                  simp only at hgoal
                                  rw [hCg] at hgoal
                                  have hneC : a.N ≠ s2.cur := fun q => by
                                    have h1 : s2.th = C := by rw [← hCg, q]; rfl
                                    have h2 := hA.st
                                    rw [h1] at h2
                                    omega
                                  obtain ⟨cv, a0, a1, a2, a3, a4, gT, capT, lT, bT, tvT, vvT, hXr, hO, hlT, hcapT, hbT, hTh, hgT⟩ := hR.open
                                  have hB := hTh.k
                                  have hkb := hTh.t
                                  have hclT := hR.cl
                                  unfold rnc at hXr
                                  have hk70 := hR.t70
                                  have hbe : bT = b0 := Option.some.inj (hbT.symm.trans hb0)
                                  subst hbe
                                  have hmb := hX.memC (hR.mem_b hR.cl hTh.t)
                                  refine c_reg ?_ -- region 69 compm.go:773
                                  refine wl (ro_move rfl) ?_
                                  refine wl (ro_nilCheck rfl) ?_
                                  refine wl (ro_fieldAddr (k := 0) rfl fo_126_0) ?_
                                  refine wl_put rfl rfl rfl sz_3 hB ((by simp)) (rfl) (fun w68 hB F68 => ?_)
                                  replace hF := hF.thenDrew.thenO F68 (by first | exact .inr (by omega) | exact .inl rfl | exact .inl (by assumption) | assumption)
                                  replace h5 := F68.blkO h5 (by first | omega | exact ow_ne (by assumption) (by assumption) (by omega))
                                  replace h7 := F68.blkO h7 (by first | omega | exact ow_ne (by assumption) (by assumption) (by omega))
                                  replace h8 := F68.blkO h8 (by first | omega | exact ow_ne (by assumption) (by assumption) (by omega))
                                  replace h9 := F68.blkO h9 (by first | omega | exact ow_ne (by assumption) (by assumption) (by omega))
                                  replace h10 := F68.blkO h10 (by first | omega | exact ow_ne (by assumption) (by assumption) (by omega))
                                  replace h11 := F68.blkO h11 (by first | omega | exact ow_ne (by assumption) (by assumption) (by omega))
                                  replace hXr := F68.blkO hXr (by first | omega | exact ow_ne (by assumption) (by assumption) (by omega))
                                  replace hO := F68.blkO hO (by first | omega | exact ow_ne (by assumption) (by assumption) (by omega))
                                  replace hV := F68.blkO hV (by first | omega | exact ow_ne (by assumption) (by assumption) (by omega))
                                  have hR2 := hR.thr' (y := { s2.th with st := 3 }) hbT hTh.t hTh.ts hTh.vs ((Fram.refl (one bT) _).thenDrew.thenO F68 (.inl rfl)) hB hR.tem hR.bdm
                                  replace hR := hR2
                                  have hcl2 : s2.cur < s2.ths.length := by have := hR.cl; simpa [IS.setT] using this
                                  generalize hsA : s2.setT { s2.th with st := 3 } = sA at *
                                  have hAs : sA.stack = s2.stack := by rw [← hsA]; rfl
                                  have hAc : sA.cur = s2.cur := by rw [← hsA]; rfl
                                  have hAsl : sA.stack.length = s2.stack.length := by rw [hAs]
                                  have hAl : sA.ths.length = s2.ths.length := by rw [← hsA]; simp [IS.setT]
                                  have hAC : sA.ths.getD a.N ITh.zero = C := by
                                    rw [← hsA, ← hCg]
                                    unfold IS.setT
                                    simp only
                                    rw [List.getD_eq_getElem?_getD, List.getElem?_set_ne (Ne.symm hneC), List.getD_eq_getElem?_getD]
                                  have hAf : sA.first = s2.first := by rw [← hsA]; rfl
                                  have hsk := hA.sk
                                  refine wl_nil (x_then (hK85 _ _ ?_))
                                  clear hK85 K85
                                  refine forget [(0, _), (5, _), (8, _), (9, _), (20, _)] ⟨rfl, rfl, rfl, rfl, rfl, trivial⟩ (fun e => ?_)
                                  refine c_seq (fun K86 hK86 => ?_)
                                  obtain ⟨cv, hv_, a0, a1, a2, a3, a4, hXr, hq2, hq3, hq4⟩ := hR.r
                                  unfold rnc at hXr
                                  have hk70 := hR.t70
                                  have hXr0 := hXr
                                  have hG2 := hR.frefl
                                  obtain ⟨b0', b1', b2', b3', b4', e1, e2⟩ := stk_set (c0 := np) (c1 := ptr tb) (c2 := nv) (c3 := i64c root) (c4 := cv) (c5 := hv_) (a0 := a0) (a1 := a1) (a2 := a2) (a3 := a3) (a4 := a4) (v := i64c sA.cur) (r := [i64c sA.stack.length, i64c sA.cur, i64c sA.fuel, i64c sA.first, S sA.out, .bool sA.done, i64c sA.ans.E, i64c sA.ans.N, i64c sA.ans.M, S sA.ans.S, S sA.ans.T]) (j := sA.stack.length) (by omega)
                                  have hmr := hR.mem_r
                                  refine c_piL 12 [(0, false), (1, false), (2, false), (3, false), (4, false), (5, false), (6, false), (7, false), (8, false), (9, false), (10, false), (11, false)] (SameH _) mixed (by kernel_rfl) rfl (by kernel_rfl) (po_then (po_blk (po_then (po_bp)))) (sameH_now _ _) ?_ -- region 70 compm.go:774
                                  refine ql_ro rfl (fun w hS => ro_move rfl) ?_
                                  refine ql_ro rfl (fun w hS => ro_move rfl) ?_
                                  refine ql_ro rfl (fun w hS => ro_nilCheck rfl) ?_
                                  refine ql_ro rfl (fun w hS => ro_fieldAddr (k := 11) rfl fo_112_7) ?_
                                  refine ql_ro rfl (fun w hS => ro_loadB rfl sc_3 (Blk.of_heap (by assumption) hS) rfl) ?_
                                  refine ql_ro rfl (fun w hS => ro_move rfl) ?_
                                  refine ql_ro rfl (fun w hS => ro_nilCheck rfl) ?_
                                  refine ql_ro rfl (fun w hS => ro_fieldAddr (k := 12) rfl fo_112_8) ?_
                                  refine ql_ro rfl (fun w hS => ro_loadB rfl sc_3 (Blk.of_heap (by assumption) hS) rfl) ?_
                                  refine ql_ro rfl (fun w hS => ro_nilCheck rfl) ?_
                                  refine ql_ro rfl (fun w hS => ro_fieldAddr (k := 6) rfl fo_112_6) ?_
                                  refine ql_ro rfl (fun w hS => ro_indexAddrA (et := 3) (k := 1) rfl rfl ar_110 rfl (by omega)) ?_
                                  refine ql_put rfl rfl rfl rfl sz_3 hXr ((by simp; omega)) (e2) (fun w69 hXr F69 => ?_)
                                  replace hF := hF.thenDrew.thenO F69 (by first | exact .inr (by omega) | exact .inl rfl | exact .inl (by assumption) | assumption)
                                  replace h5 := F69.blkO h5 (by first | omega | exact ow_ne (by assumption) (by assumption) (by omega))
                                  replace h7 := F69.blkO h7 (by first | omega | exact ow_ne (by assumption) (by assumption) (by omega))
                                  replace h8 := F69.blkO h8 (by first | omega | exact ow_ne (by assumption) (by assumption) (by omega))
                                  replace h9 := F69.blkO h9 (by first | omega | exact ow_ne (by assumption) (by assumption) (by omega))
                                  replace h10 := F69.blkO h10 (by first | omega | exact ow_ne (by assumption) (by assumption) (by omega))
                                  replace h11 := F69.blkO h11 (by first | omega | exact ow_ne (by assumption) (by assumption) (by omega))
                                  replace hG2 := hG2.thenDrew.thenO F69 (by first | exact .inr (by omega) | exact .inl rfl | exact .inl (by assumption) | assumption)
                                  refine x_then (hK86 _ _ ?_)
                                  clear hK86 K86
                                  refine forget [(0, _), (5, _), (8, _), (9, _), (20, _)] ⟨rfl, rfl, rfl, rfl, rfl, trivial⟩ (fun e => ?_)
                                  refine c_seq (fun K87 hK87 => ?_)
                                  refine c_reg ?_ -- region 71 compm.go:775
                                  refine wl (ro_move rfl) ?_
                                  refine wl (ro_nilCheck rfl) ?_
                                  refine wl (ro_fieldAddr (k := 11) rfl fo_112_7) ?_
                                  refine wl (ro_loadB rfl sc_3 (by assumption) rfl) ?_
                                  refine wl (ro_arith rfl rfl rfl (Go.IntWalk.i64_in _ (by omega))) ?_
                                  refine wl (ro_nilCheck rfl) ?_
                                  refine wl (ro_fieldAddr (k := 11) rfl fo_112_7) ?_
                                  refine wl_put rfl rfl rfl sz_3 hXr ((by simp)) (rfl) (fun w70 hXr F70 => ?_)
                                  replace hF := hF.thenDrew.thenO F70 (by first | exact .inr (by omega) | exact .inl rfl | exact .inl (by assumption) | assumption)
                                  replace h5 := F70.blkO h5 (by first | omega | exact ow_ne (by assumption) (by assumption) (by omega))
                                  replace h7 := F70.blkO h7 (by first | omega | exact ow_ne (by assumption) (by assumption) (by omega))
                                  replace h8 := F70.blkO h8 (by first | omega | exact ow_ne (by assumption) (by assumption) (by omega))
                                  replace h9 := F70.blkO h9 (by first | omega | exact ow_ne (by assumption) (by assumption) (by omega))
                                  replace h10 := F70.blkO h10 (by first | omega | exact ow_ne (by assumption) (by assumption) (by omega))
                                  replace h11 := F70.blkO h11 (by first | omega | exact ow_ne (by assumption) (by assumption) (by omega))
                                  replace hG2 := hG2.thenDrew.thenO F70 (by first | exact .inr (by omega) | exact .inl rfl | exact .inl (by assumption) | assumption)
                                  refine wl_nil (x_then (hK87 _ _ ?_))
                                  clear hK87 K87
                                  refine forget [(0, _), (5, _), (8, _), (9, _), (20, _)] ⟨rfl, rfl, rfl, rfl, rfl, trivial⟩ (fun e => ?_)
                                  refine c_seq (fun K88 hK88 => ?_)
                                  refine c_reg ?_ -- region 72 compm.go:776
                                  refine wl (ro_move rfl) ?_
                                  refine wl (ro_fieldAddr (k := 1) rfl fo_119_1) ?_
                                  refine wl (ro_loadB rfl sc_117 (by assumption) rfl) ?_
                                  refine wl (ro_conv rfl sc_117 in_3 (Go.IntWalk.i64_in _ (by omega))) ?_
                                  refine wl (ro_nilCheck rfl) ?_
                                  refine wl (ro_fieldAddr (k := 12) rfl fo_112_8) ?_
                                  refine wl_put rfl rfl rfl sz_3 hXr ((by simp)) (rfl) (fun w71 hXr F71 => ?_)
                                  replace hF := hF.thenDrew.thenO F71 (by first | exact .inr (by omega) | exact .inl rfl | exact .inl (by assumption) | assumption)
                                  replace h5 := F71.blkO h5 (by first | omega | exact ow_ne (by assumption) (by assumption) (by omega))
                                  replace h7 := F71.blkO h7 (by first | omega | exact ow_ne (by assumption) (by assumption) (by omega))
                                  replace h8 := F71.blkO h8 (by first | omega | exact ow_ne (by assumption) (by assumption) (by omega))
                                  replace h9 := F71.blkO h9 (by first | omega | exact ow_ne (by assumption) (by assumption) (by omega))
                                  replace h10 := F71.blkO h10 (by first | omega | exact ow_ne (by assumption) (by assumption) (by omega))
                                  replace h11 := F71.blkO h11 (by first | omega | exact ow_ne (by assumption) (by assumption) (by omega))
                                  replace hG2 := hG2.thenDrew.thenO F71 (by first | exact .inr (by omega) | exact .inl rfl | exact .inl (by assumption) | assumption)
                                  refine wl_nil (x_then (hK88 _ _ ?_))
                                  clear hK88 K88
                                  refine forget [(0, _), (5, _), (9, _), (20, _)] ⟨rfl, rfl, rfl, rfl, trivial⟩ (fun e => ?_)
                                  refine c_seq (fun K89 hK89 => ?_)
                                  have e73 : ((sA.stack.length : Int) + 1) = (((sA.cur :: sA.stack).length : Nat) : Int) := by simp
                                  rw [e73] at hXr
                                  have hR1 := hR.turnR hG2 (s' := { sA with stack := sA.cur :: sA.stack, cur := a.N }) rfl rfl rfl rfl (c' := hv_) (v' := hv_) hXr0 hXr (fun j c hj => by
                                    rw [← e1, List.getElem?_set]
                                    rw [List.reverse_cons, List.getElem?_append] at hj
                                    split at hj
                                    · rename_i hlt
                                      rw [List.length_reverse] at hlt
                                      rw [if_neg (by omega)]
                                      exact hq4 j c hj
                                    · rename_i hge
                                      have hj0 := (List.getElem?_eq_some_iff.1 hj).1
                                      simp only [List.length_reverse, List.length_cons, List.length_nil] at hge hj0
                                      have hjj : sA.stack.length = j := by omega
                                      rw [if_pos hjj, if_pos (by simp; omega)]
                                      rw [List.length_reverse, hjj, Nat.sub_self] at hj
                                      simp at hj
                                      rw [← hj]) (show a.N < sA.ths.length by omega) (show sA.stack.length + 1 ≤ 5 by omega) hR.fu
                                  replace hR := hR1
                                  have hsBt : IS.th { sA with stack := sA.cur :: sA.stack, cur := a.N } = C := hAC
                                  generalize hsB : ({ sA with stack := sA.cur :: sA.stack, cur := a.N } : IS) = sB at *
                                  have hBc : sB.cur = a.N := by rw [← hsB]
                                  obtain ⟨cv, a0, a1, a2, a3, a4, gT, capT, lT, bT, tvT, vvT, hXr, hO, hlT, hcapT, hbT, hTh, hgT⟩ := hR.open
                                  have hB := hTh.k
                                  have hkb := hTh.t
                                  have hclT := hR.cl
                                  unfold rnc at hXr
                                  have hk70 := hR.t70
                                  have hbe : bT = bC := Option.some.inj (hbT.symm.trans (by rw [hBc]; exact hbC))
                                  subst hbe
                                  have hmb := hX.memC (hR.mem_b hR.cl hTh.t)
                                  refine c_reg ?_ -- region 73 compm.go:777
                                  refine wl (ro_move rfl) ?_
                                  refine wl (ro_nilCheck rfl) ?_
                                  refine wl (ro_fieldAddr (k := 0) rfl fo_126_0) ?_
                                  refine wl (ro_loadB rfl sc_3 (by assumption) rfl) ?_
                                  refine wl (ro_cmp rfl rfl rfl) ?_
                                  refine wl (ro_assign rfl) ?_
                                  refine wl_nil (x_then (hK89 _ _ ?_))
                                  clear hK89 K89
                                  refine forget [(0, _), (5, _), (9, _), (20, _), (22, _)] ⟨rfl, rfl, rfl, rfl, rfl, trivial⟩ (fun e => ?_)
                                  refine c_seq (fun K90 hK90 => ?_)
                                  refine c_reg ?_ -- region 74 compm.go:778
                                  refine wl (ro_move rfl) ?_
                                  refine wl (ro_nilCheck rfl) ?_
                                  refine wl (ro_fieldAddr (k := 0) rfl fo_126_0) ?_
                                  refine wl_put rfl rfl rfl sz_3 hB ((by simp)) (rfl) (fun w72 hB F72 => ?_)
                                  replace hF := hF.thenDrew.thenO F72 (by first | exact .inr (by omega) | exact .inl rfl | exact .inl (by assumption) | assumption)
                                  replace h5 := F72.blkO h5 (by first | omega | exact ow_ne (by assumption) (by assumption) (by omega))
                                  replace h7 := F72.blkO h7 (by first | omega | exact ow_ne (by assumption) (by assumption) (by omega))
                                  replace h8 := F72.blkO h8 (by first | omega | exact ow_ne (by assumption) (by assumption) (by omega))
                                  replace h9 := F72.blkO h9 (by first | omega | exact ow_ne (by assumption) (by assumption) (by omega))
                                  replace h10 := F72.blkO h10 (by first | omega | exact ow_ne (by assumption) (by assumption) (by omega))
                                  replace h11 := F72.blkO h11 (by first | omega | exact ow_ne (by assumption) (by assumption) (by omega))
                                  replace hO := F72.blkO hO (by first | omega | exact ow_ne (by assumption) (by assumption) (by omega))
                                  replace hXr := F72.blkO hXr (by first | omega | exact ow_ne (by assumption) (by assumption) (by omega))
                                  have hR2 := hR.thr' (y := { sB.th with st := 4 }) hbT hTh.t hTh.ts hTh.vs ((Fram.refl (one bT) _).thenDrew.thenO F72 (.inl rfl)) hB hR.tem hR.bdm
                                  replace hR := hR2
                                  obtain ⟨bD, hbD⟩ : ∃ bD, bD = bT := ⟨_, rfl⟩
                                  subst hbD
                                  have hbD := hbT
                                  clear hTh hkb hlT hbT hcapT hgT hclT hk70 hB hV hTC hkC hlC
                                  have hclB : sB.cur < sB.ths.length := by have := hR.cl; simpa [IS.setT] using this
                                  refine wl_nil (x_then (hK90 _ _ ?_))
                                  clear hK90 K90
                                  refine c_seq (fun K91 hK91 => ?_)
                                  refine c_seq (fun K92 hK92 => ?_)
                                  refine c_reg ?_ -- region 75 compm.go:779
                                  refine wl (ro_move rfl) ?_
                                  refine wl_nil (x_then (hK92 _ _ ?_))
                                  clear hK92 K92
                                  refine wc_cond rfl (fun hc306 => ?_) (fun hc306 => ?_)
                                  · try simp only [decide_eq_true_eq, decide_eq_false_iff_not, Bool.not_eq_true', Bool.not_eq_false', Bool.not_eq_eq_eq_not, Bool.not_true, Bool.not_false, beq_iff_eq, bne_iff_ne, ne_eq, beq_eq_false_iff_ne, bne_eq_false_iff_eq, gt_iff_lt, ge_iff_le, Int.not_lt, Int.not_le] at hc306
                                    refine c_seq (fun K93 hK93 => ?_)
                                    obtain ⟨cv, hv_, a0, a1, a2, a3, a4, hXr, hq2, hq3, hq4⟩ := hR.r
                                    unfold rnc at hXr
                                    have hk70 := hR.t70
                                    have hXr0 := hXr
                                    have hfi := hA.fi
                                    have hBf : (sB.setT { sB.th with st := 4 }).first = s2.first := by rw [← hsB]; exact hAf
                                    refine c_reg ?_ -- region 76 compm.go:780
                                    refine wl (ro_move rfl) ?_
                                    refine wl (ro_nilCheck rfl) ?_
                                    refine wl (ro_fieldAddr (k := 14) rfl fo_112_10) ?_
                                    refine wl (ro_loadB rfl sc_3 (by assumption) rfl) ?_
                                    refine wl (ro_arith rfl rfl rfl (Go.IntWalk.i64_in _ (by omega))) ?_
                                    refine wl (ro_nilCheck rfl) ?_
                                    refine wl (ro_fieldAddr (k := 14) rfl fo_112_10) ?_
                                    refine wl_put rfl rfl rfl sz_3 hXr ((by simp)) (rfl) (fun w73 hXr F73 => ?_)
                                    replace hF := hF.thenDrew.thenO F73 (by first | exact .inr (by omega) | exact .inl rfl | exact .inl (by assumption) | assumption)
                                    replace h5 := F73.blkO h5 (by first | omega | exact ow_ne (by assumption) (by assumption) (by omega))
                                    replace h7 := F73.blkO h7 (by first | omega | exact ow_ne (by assumption) (by assumption) (by omega))
                                    replace h8 := F73.blkO h8 (by first | omega | exact ow_ne (by assumption) (by assumption) (by omega))
                                    replace h9 := F73.blkO h9 (by first | omega | exact ow_ne (by assumption) (by assumption) (by omega))
                                    replace h10 := F73.blkO h10 (by first | omega | exact ow_ne (by assumption) (by assumption) (by omega))
                                    replace h11 := F73.blkO h11 (by first | omega | exact ow_ne (by assumption) (by assumption) (by omega))
                                    have e76 : (((sB.setT { sB.th with st := 4 }).first : Int) + 1) = (((sB.setT { sB.th with st := 4 }).first + 1 : Nat) : Int) := by omega
                                    rw [e76] at hXr
                                    have hR2 := hR.turnR ((Fram.refl (one rb) _).thenDrew.thenO F73 (.inl rfl)) (s' := { sB.setT { sB.th with st := 4 } with first := (sB.setT { sB.th with st := 4 }).first + 1 }) rfl rfl rfl rfl (c' := hv_) (v' := hv_) hXr0 hXr hq4 hR.cl hR.sk hR.fu
                                    replace hR := hR2
                                    refine wl_nil (x_then (hK93 _ _ ?_))
                                    clear hK93 K93
                                    have hst1 : C.st = 1 := by rw [← hsBt]; omega
                                    have hfl := hA.f1 C hCm hst1
                                    have hcc : s2.clos[C.fn]? = some (s2.clos.getD C.fn (0, 0)) := by rw [List.getD_eq_getElem?_getD, List.getElem?_eq_getElem hfl]; rfl
                                    obtain ⟨-, hci, ⟨ps, hnm, hp3⟩, -⟩ := hA.cl _ (List.mem_of_getElem? hcc)
                                    have hnc := hA.nc
                                    have hzz : ∀ (i : Nat) z, [b][i]? = some z → some (⟨b5, 0 + 1 * 3, none⟩ : Addr) = some ⟨b5, 3, none⟩ ∧ ((pvc a ++ (pvc b ++ pvc c)).drop (3 + i * 3)).take 3 = pvc z := fun i z hi => ⟨rfl, by
                                      match i, hi with
                                      | 0, hi => cases hi; rfl⟩
                                    have hdp := hA.dp C hCm
                                    have hBcl : sB.clos = s2.clos := by rw [← hsB]; show sA.clos = _; rw [← hsA]; rfl
                                    have hsT : IS.th { sB.setT { sB.th with st := 4 } with first := (sB.setT { sB.th with st := 4 }).first + 1 } = { C with st := 4 } := by rw [← hsBt]; exact th_setT hclB _
                                    generalize hsC : ({ sB.setT { sB.th with st := 4 } with first := (sB.setT { sB.th with st := 4 }).first + 1 } : IS) = sC at *
                                    have hCcl : sC.clos = s2.clos := by rw [← hsC]; exact hBcl
                                    rw [← hCcl] at hfl hci hnm
                                    obtain ⟨cv, a0, a1, a2, a3, a4, gT, capT, lT, bT, tvT, vvT, hXr, hO, hlT, hcapT, hbT, hTh, hgT⟩ := hR.open
                                    have hB := hTh.k
                                    have hkb := hTh.t
                                    have hclT := hR.cl
                                    unfold rnc at hXr
                                    have hk70 := hR.t70
                                    have hbe2 : sC.cur = a.N := by rw [← hsC]; exact hBc
                                    have hbe3 : bT = bD := Option.some.inj (hbT.symm.trans (by rw [hbe2, ← hBc]; exact hbD))
                                    subst hbe3
                                    have hB := hTh.k
                                    rw [hsT] at hB
                                    refine c_piL 6 [(0, false), (1, false), (2, false), (3, false), (4, false), (5, false)] (SameH _) mixed (by kernel_rfl) rfl (by kernel_rfl) (po_then (po_blk (po_then (po_bp)))) (sameH_now _ _) ?_ -- region 77 compm.go:781
                                    refine ql_ro rfl (fun w hS => ro_move rfl) ?_
                                    refine ql_ro rfl (fun w hS => ro_move rfl) ?_
                                    refine ql_ro rfl (fun w hS => ro_nilCheck rfl) ?_
                                    refine ql_ro rfl (fun w hS => ro_fieldAddr (k := 1) rfl fo_126_1) ?_
                                    refine ql_ro rfl (fun w hS => ro_loadB rfl sc_3 (Blk.of_heap (by assumption) hS) rfl) ?_
                                    refine ql_ro rfl (fun w hS => ro_sliceALH (l := 1) (h := 2) rfl rfl rfl ar_225 rfl rfl (by omega) (by omega) (by omega)) ?_
                                    refine ql_lastC rfl rfl en_32 (enter32 (c := C.fn) (prot := 0) (zs := [b]) hR.dr hG hfl hci hnm hp3 h5 kh5 hzz (by rw [hsT]; show C.depth ≤ 100; omega) (by omega)) ?_
                                    rintro _ u74 ⟨rfl, bs, ow74, x74, f74, r74⟩
                                    obtain ⟨h5, kh5⟩ := cm_loc x74 f74 h5 kh5
                                    obtain ⟨h7, kh7⟩ := cm_loc x74 f74 h7 kh7
                                    obtain ⟨h8, kh8⟩ := cm_loc x74 f74 h8 kh8
                                    obtain ⟨h9, kh9⟩ := cm_loc x74 f74 h9 kh9
                                    obtain ⟨h10, kh10⟩ := cm_loc x74 f74 h10 kh10
                                    obtain ⟨h11, kh11⟩ := cm_loc x74 f74 h11 kh11
                                    have hs74 := hF.size
                                    replace hF := cm_trans hX hF f74
                                    replace hX := hX.trans hs74 x74
                                    replace hR := r74
                                    refine x_then (hK91 _ _ ?_)
                                    clear hK91 K91
                                    refine c_ret (x_blkR (x_thenR ?_))
                                    refine bp_ret Tryz.results69 rfl ?_
                                    refine ⟨rfl, ?_⟩
                                    rw [hgoal]
                                    try subst hvp hvq
                                    try dsimp only at *
                                    first
                                    | (exfalso; omega)
                                    | (repeat (first | rw [if_pos (by omega)] | rw [if_neg (by omega)])
                                       first
                                       | exact hfin hX hF hR (by omega)
                                       | exact hfin2 hX hF hR (by omega)
                                       | exact hfin3 hX hF hR (by omega))
                                  · try simp only [decide_eq_true_eq, decide_eq_false_iff_not, Bool.not_eq_true', Bool.not_eq_false', Bool.not_eq_eq_eq_not, Bool.not_true, Bool.not_false, beq_iff_eq, bne_iff_ne, ne_eq, beq_eq_false_iff_ne, bne_eq_false_iff_eq, gt_iff_lt, ge_iff_le, Int.not_lt, Int.not_le] at hc306
                                    refine c_seq (fun K94 hK94 => ?_)
                                    have hstn : ¬ C.st = 1 := by rw [← hsBt]; omega
                                    refine c_reg ?_ -- region 78 compm.go:783
                                    refine wl (ro_move rfl) ?_
                                    refine wl (ro_loadAggB rfl ag_119 (by assumption) rfl rfl) ?_
                                    refine wl_call rfl en_67 (push67 (v := b) hR.dr (by omega)) ?_
                                    rintro _ u75 ⟨rfl, ow75, x75, f75, r75⟩
                                    obtain ⟨h5, kh5⟩ := cm_loc x75 f75 h5 kh5
                                    obtain ⟨h7, kh7⟩ := cm_loc x75 f75 h7 kh7
                                    obtain ⟨h8, kh8⟩ := cm_loc x75 f75 h8 kh8
                                    obtain ⟨h9, kh9⟩ := cm_loc x75 f75 h9 kh9
                                    obtain ⟨h10, kh10⟩ := cm_loc x75 f75 h10 kh10
                                    obtain ⟨h11, kh11⟩ := cm_loc x75 f75 h11 kh11
                                    have hs75 := hF.size
                                    replace hF := cm_trans hX hF f75
                                    replace hX := hX.trans hs75 x75
                                    replace hR := r75
                                    refine wl_nil (x_then (hK94 _ _ ?_))
                                    clear hK94 K94
                                    refine c_reg ?_ -- region 79 compm.go:784
                                    refine wl (ro_move rfl) ?_
                                    refine wl (ro_build rfl bld_119) ?_
                                    refine wl_call rfl en_67 (push67 (v := vNil) hR.dr (by omega)) ?_
                                    rintro _ u76 ⟨rfl, ow76, x76, f76, r76⟩
                                    obtain ⟨h5, kh5⟩ := cm_loc x76 f76 h5 kh5
                                    obtain ⟨h7, kh7⟩ := cm_loc x76 f76 h7 kh7
                                    obtain ⟨h8, kh8⟩ := cm_loc x76 f76 h8 kh8
                                    obtain ⟨h9, kh9⟩ := cm_loc x76 f76 h9 kh9
                                    obtain ⟨h10, kh10⟩ := cm_loc x76 f76 h10 kh10
                                    obtain ⟨h11, kh11⟩ := cm_loc x76 f76 h11 kh11
                                    have hs76 := hF.size
                                    replace hF := cm_trans hX hF f76
                                    replace hX := hX.trans hs76 x76
                                    replace hR := r76
                                    refine wl_nil (x_then (hK91 _ _ ?_))
                                    clear hK91 K91
                                    refine c_ret (x_blkR (x_thenR ?_))
                                    refine bp_ret Tryz.results69 rfl ?_
                                    refine ⟨rfl, ?_⟩
                                    rw [hgoal]
                                    try subst hvp hvq
                                    try dsimp only at *
                                    first
                                    | (exfalso; omega)
                                    | (repeat (first | rw [if_pos (by omega)] | rw [if_neg (by omega)])
                                       first
                                       | exact hfin hX hF hR (by omega)
                                       | exact hfin2 hX hF hR (by omega)
                                       | exact hfin3 hX hF hR (by omega))
                              · try simp only [decide_eq_true_eq, decide_eq_false_iff_not, Bool.not_eq_true', Bool.not_eq_false', Bool.not_eq_eq_eq_not, Bool.not_true, Bool.not_false, beq_iff_eq, bne_iff_ne, ne_eq, beq_eq_false_iff_ne, bne_eq_false_iff_eq, gt_iff_lt, ge_iff_le, Int.not_lt, Int.not_le] at hg255
                                refine wlg_no rfl ?_
                                refine wlg_no rfl ?_
                                refine wlg_no rfl ?_
                                refine wlg_no rfl ?_
                                refine wlg_no rfl ?_
                                refine wl (ro_pick rfl rfl rfl) ?_
                                refine wl_nil (x_then (hK81 _ _ ?_))
                                clear hK81 K81
                                refine wc_condF rfl ?_
                                refine c_seq (fun K95 hK95 => ?_)
                                unfold iresume at hgoal
                                simp only at hgoal
                                rw [hCg] at hgoal
                                have hneC : a.N ≠ s2.cur := fun q => by
                                  have h1 : s2.th = C := by rw [← hCg, q]; rfl
                                  have h2 := hA.st
                                  rw [h1] at h2
                                  omega
                                obtain ⟨cv, a0, a1, a2, a3, a4, gT, capT, lT, bT, tvT, vvT, hXr, hO, hlT, hcapT, hbT, hTh, hgT⟩ := hR.open
                                have hB := hTh.k
                                have hkb := hTh.t
                                have hclT := hR.cl
                                unfold rnc at hXr
                                have hk70 := hR.t70
                                have hbe : bT = b0 := Option.some.inj (hbT.symm.trans hb0)
                                subst hbe
                                have hmb := hX.memC (hR.mem_b hR.cl hTh.t)
                                refine c_reg ?_ -- region 69 compm.go:773
                                refine wl (ro_move rfl) ?_
                                refine wl (ro_nilCheck rfl) ?_
                                refine wl (ro_fieldAddr (k := 0) rfl fo_126_0) ?_
                                refine wl_put rfl rfl rfl sz_3 hB ((by simp)) (rfl) (fun w77 hB F77 => ?_)
                                replace hF := hF.thenDrew.thenO F77 (by first | exact .inr (by omega) | exact .inl rfl | exact .inl (by assumption) | assumption)
                                replace h5 := F77.blkO h5 (by first | omega | exact ow_ne (by assumption) (by assumption) (by omega))
                                replace h7 := F77.blkO h7 (by first | omega | exact ow_ne (by assumption) (by assumption) (by omega))
                                replace h8 := F77.blkO h8 (by first | omega | exact ow_ne (by assumption) (by assumption) (by omega))
                                replace h9 := F77.blkO h9 (by first | omega | exact ow_ne (by assumption) (by assumption) (by omega))
                                replace h10 := F77.blkO h10 (by first | omega | exact ow_ne (by assumption) (by assumption) (by omega))
                                replace h11 := F77.blkO h11 (by first | omega | exact ow_ne (by assumption) (by assumption) (by omega))
                                replace hXr := F77.blkO hXr (by first | omega | exact ow_ne (by assumption) (by assumption) (by omega))
                                replace hO := F77.blkO hO (by first | omega | exact ow_ne (by assumption) (by assumption) (by omega))
                                replace hV := F77.blkO hV (by first | omega | exact ow_ne (by assumption) (by assumption) (by omega))
                                have hR2 := hR.thr' (y := { s2.th with st := 3 }) hbT hTh.t hTh.ts hTh.vs ((Fram.refl (one bT) _).thenDrew.thenO F77 (.inl rfl)) hB hR.tem hR.bdm
                                replace hR := hR2
                                have hcl2 : s2.cur < s2.ths.length := by have := hR.cl; simpa [IS.setT] using this
                                generalize hsA : s2.setT { s2.th with st := 3 } = sA at *
                                have hAs : sA.stack = s2.stack := by rw [← hsA]; rfl
                                have hAc : sA.cur = s2.cur := by rw [← hsA]; rfl
                                have hAsl : sA.stack.length = s2.stack.length := by rw [hAs]
                                have hAl : sA.ths.length = s2.ths.length := by rw [← hsA]; simp [IS.setT]
                                have hAC : sA.ths.getD a.N ITh.zero = C := by
                                  rw [← hsA, ← hCg]
                                  unfold IS.setT
                                  simp only
                                  rw [List.getD_eq_getElem?_getD, List.getElem?_set_ne (Ne.symm hneC), List.getD_eq_getElem?_getD]
                                have hAf : sA.first = s2.first := by rw [← hsA]; rfl
                                have hsk := hA.sk
                                refine wl_nil (x_then (hK95 _ _ ?_))
                                clear hK95 K95
                                refine forget [(0, _), (5, _), (8, _), (9, _), (20, _)] ⟨rfl, rfl, rfl, rfl, rfl, trivial⟩ (fun e => ?_)
                                refine c_seq (fun K96 hK96 => ?_)
                                obtain ⟨cv, hv_, a0, a1, a2, a3, a4, hXr, hq2, hq3, hq4⟩ := hR.r
                                unfold rnc at hXr
                                have hk70 := hR.t70
                                have hXr0 := hXr
                                have hG2 := hR.frefl
                                obtain ⟨b0', b1', b2', b3', b4', e1, e2⟩ := stk_set (c0 := np) (c1 := ptr tb) (c2 := nv) (c3 := i64c root) (c4 := cv) (c5 := hv_) (a0 := a0) (a1 := a1) (a2 := a2) (a3 := a3) (a4 := a4) (v := i64c sA.cur) (r := [i64c sA.stack.length, i64c sA.cur, i64c sA.fuel, i64c sA.first, S sA.out, .bool sA.done, i64c sA.ans.E, i64c sA.ans.N, i64c sA.ans.M, S sA.ans.S, S sA.ans.T]) (j := sA.stack.length) (by omega)
                                have hmr := hR.mem_r
                                refine c_piL 12 [(0, false), (1, false), (2, false), (3, false), (4, false), (5, false), (6, false), (7, false), (8, false), (9, false), (10, false), (11, false)] (SameH _) mixed (by kernel_rfl) rfl (by kernel_rfl) (po_then (po_blk (po_then (po_bp)))) (sameH_now _ _) ?_ -- region 70 compm.go:774
                                refine ql_ro rfl (fun w hS => ro_move rfl) ?_
                                refine ql_ro rfl (fun w hS => ro_move rfl) ?_
                                refine ql_ro rfl (fun w hS => ro_nilCheck rfl) ?_
                                refine ql_ro rfl (fun w hS => ro_fieldAddr (k := 11) rfl fo_112_7) ?_
                                refine ql_ro rfl (fun w hS => ro_loadB rfl sc_3 (Blk.of_heap (by assumption) hS) rfl) ?_
                                refine ql_ro rfl (fun w hS => ro_move rfl) ?_
                                refine ql_ro rfl (fun w hS => ro_nilCheck rfl) ?_
                                refine ql_ro rfl (fun w hS => ro_fieldAddr (k := 12) rfl fo_112_8) ?_
                                refine ql_ro rfl (fun w hS => ro_loadB rfl sc_3 (Blk.of_heap (by assumption) hS) rfl) ?_
                                refine ql_ro rfl (fun w hS => ro_nilCheck rfl) ?_
                                refine ql_ro rfl (fun w hS => ro_fieldAddr (k := 6) rfl fo_112_6) ?_
                                refine ql_ro rfl (fun w hS => ro_indexAddrA (et := 3) (k := 1) rfl rfl ar_110 rfl (by omega)) ?_
                                refine ql_put rfl rfl rfl rfl sz_3 hXr ((by simp; omega)) (e2) (fun w78 hXr F78 => ?_)
                                replace hF := hF.thenDrew.thenO F78 (by first | exact .inr (by omega) | exact .inl rfl | exact .inl (by assumption) | assumption)
                                replace h5 := F78.blkO h5 (by first | omega | exact ow_ne (by assumption) (by assumption) (by omega))
                                replace h7 := F78.blkO h7 (by first | omega | exact ow_ne (by assumption) (by assumption) (by omega))
                                replace h8 := F78.blkO h8 (by first | omega | exact ow_ne (by assumption) (by assumption) (by omega))
                                replace h9 := F78.blkO h9 (by first | omega | exact ow_ne (by assumption) (by assumption) (by omega))
                                replace h10 := F78.blkO h10 (by first | omega | exact ow_ne (by assumption) (by assumption) (by omega))
                                replace h11 := F78.blkO h11 (by first | omega | exact ow_ne (by assumption) (by assumption) (by omega))
                                replace hG2 := hG2.thenDrew.thenO F78 (by first | exact .inr (by omega) | exact .inl rfl | exact .inl (by assumption) | assumption)
                                refine x_then (hK96 _ _ ?_)
                                clear hK96 K96
                                refine forget [(0, _), (5, _), (8, _), (9, _), (20, _)] ⟨rfl, rfl, rfl, rfl, rfl, trivial⟩ (fun e => ?_)
                                refine c_seq (fun K97 hK97 => ?_)
                                refine c_reg ?_ -- region 71 compm.go:775
                                refine wl (ro_move rfl) ?_
                                refine wl (ro_nilCheck rfl) ?_
                                refine wl (ro_fieldAddr (k := 11) rfl fo_112_7) ?_
                                refine wl (ro_loadB rfl sc_3 (by assumption) rfl) ?_
                                refine wl (ro_arith rfl rfl rfl (Go.IntWalk.i64_in _ (by omega))) ?_
                                refine wl (ro_nilCheck rfl) ?_
                                refine wl (ro_fieldAddr (k := 11) rfl fo_112_7) ?_
                                refine wl_put rfl rfl rfl sz_3 hXr ((by simp)) (rfl) (fun w79 hXr F79 => ?_)
                                replace hF := hF.thenDrew.thenO F79 (by first | exact .inr (by omega) | exact .inl rfl | exact .inl (by assumption) | assumption)
                                replace h5 := F79.blkO h5 (by first | omega | exact ow_ne (by assumption) (by assumption) (by omega))
                                replace h7 := F79.blkO h7 (by first | omega | exact ow_ne (by assumption) (by assumption) (by omega))
                                replace h8 := F79.blkO h8 (by first | omega | exact ow_ne (by assumption) (by assumption) (by omega))
                                replace h9 := F79.blkO h9 (by first | omega | exact ow_ne (by assumption) (by assumption) (by omega))
                                replace h10 := F79.blkO h10 (by first | omega | exact ow_ne (by assumption) (by assumption) (by omega))
                                replace h11 := F79.blkO h11 (by first | omega | exact ow_ne (by assumption) (by assumption) (by omega))
                                replace hG2 := hG2.thenDrew.thenO F79 (by first | exact .inr (by omega) | exact .inl rfl | exact .inl (by assumption) | assumption)
                                refine wl_nil (x_then (hK97 _ _ ?_))
                                clear hK97 K97
                                refine forget [(0, _), (5, _), (8, _), (9, _), (20, _)] ⟨rfl, rfl, rfl, rfl, rfl, trivial⟩ (fun e => ?_)
                                refine c_seq (fun K98 hK98 => ?_)
                                refine c_reg ?_ -- region 72 compm.go:776
                                refine wl (ro_move rfl) ?_
                                refine wl (ro_fieldAddr (k := 1) rfl fo_119_1) ?_
                                refine wl (ro_loadB rfl sc_117 (by assumption) rfl) ?_
                                refine wl (ro_conv rfl sc_117 in_3 (Go.IntWalk.i64_in _ (by omega))) ?_
                                refine wl (ro_nilCheck rfl) ?_
                                refine wl (ro_fieldAddr (k := 12) rfl fo_112_8) ?_
                                refine wl_put rfl rfl rfl sz_3 hXr ((by simp)) (rfl) (fun w80 hXr F80 => ?_)
                                replace hF := hF.thenDrew.thenO F80 (by first | exact .inr (by omega) | exact .inl rfl | exact .inl (by assumption) | assumption)
                                replace h5 := F80.blkO h5 (by first | omega | exact ow_ne (by assumption) (by assumption) (by omega))
                                replace h7 := F80.blkO h7 (by first | omega | exact ow_ne (by assumption) (by assumption) (by omega))
                                replace h8 := F80.blkO h8 (by first | omega | exact ow_ne (by assumption) (by assumption) (by omega))
                                replace h9 := F80.blkO h9 (by first | omega | exact ow_ne (by assumption) (by assumption) (by omega))
                                replace h10 := F80.blkO h10 (by first | omega | exact ow_ne (by assumption) (by assumption) (by omega))
                                replace h11 := F80.blkO h11 (by first | omega | exact ow_ne (by assumption) (by assumption) (by omega))
                                replace hG2 := hG2.thenDrew.thenO F80 (by first | exact .inr (by omega) | exact .inl rfl | exact .inl (by assumption) | assumption)
                                refine wl_nil (x_then (hK98 _ _ ?_))
                                clear hK98 K98
                                refine forget [(0, _), (5, _), (9, _), (20, _)] ⟨rfl, rfl, rfl, rfl, trivial⟩ (fun e => ?_)
                                refine c_seq (fun K99 hK99 => ?_)
                                have e73 : ((sA.stack.length : Int) + 1) = (((sA.cur :: sA.stack).length : Nat) : Int) := by simp
                                rw [e73] at hXr
                                have hR1 := hR.turnR hG2 (s' := { sA with stack := sA.cur :: sA.stack, cur := a.N }) rfl rfl rfl rfl (c' := hv_) (v' := hv_) hXr0 hXr (fun j c hj => by
                                  rw [← e1, List.getElem?_set]
                                  rw [List.reverse_cons, List.getElem?_append] at hj
                                  split at hj
                                  · rename_i hlt
                                    rw [List.length_reverse] at hlt
                                    rw [if_neg (by omega)]
                                    exact hq4 j c hj
                                  · rename_i hge
                                    have hj0 := (List.getElem?_eq_some_iff.1 hj).1
                                    simp only [List.length_reverse, List.length_cons, List.length_nil] at hge hj0
                                    have hjj : sA.stack.length = j := by omega
                                    rw [if_pos hjj, if_pos (by simp; omega)]
                                    rw [List.length_reverse, hjj, Nat.sub_self] at hj
                                    simp at hj
                                    rw [← hj]) (show a.N < sA.ths.length by omega) (show sA.stack.length + 1 ≤ 5 by omega) hR.fu
                                replace hR := hR1
                                have hsBt : IS.th { sA with stack := sA.cur :: sA.stack, cur := a.N } = C := hAC
                                generalize hsB : ({ sA with stack := sA.cur :: sA.stack, cur := a.N } : IS) = sB at *
                                have hBc : sB.cur = a.N := by rw [← hsB]
                                obtain ⟨cv, a0, a1, a2, a3, a4, gT, capT, lT, bT, tvT, vvT, hXr, hO, hlT, hcapT, hbT, hTh, hgT⟩ := hR.open
                                have hB := hTh.k
                                have hkb := hTh.t
                                have hclT := hR.cl
                                unfold rnc at hXr
                                have hk70 := hR.t70
                                have hbe : bT = bC := Option.some.inj (hbT.symm.trans (by rw [hBc]; exact hbC))
                                subst hbe
                                have hmb := hX.memC (hR.mem_b hR.cl hTh.t)
                                refine c_reg ?_ -- region 73 compm.go:777
                                refine wl (ro_move rfl) ?_
                                refine wl (ro_nilCheck rfl) ?_
                                refine wl (ro_fieldAddr (k := 0) rfl fo_126_0) ?_
                                refine wl (ro_loadB rfl sc_3 (by assumption) rfl) ?_
                                refine wl (ro_cmp rfl rfl rfl) ?_
                                refine wl (ro_assign rfl) ?_
                                refine wl_nil (x_then (hK99 _ _ ?_))
                                clear hK99 K99
                                refine forget [(0, _), (5, _), (9, _), (20, _), (22, _)] ⟨rfl, rfl, rfl, rfl, rfl, trivial⟩ (fun e => ?_)
                                refine c_seq (fun K100 hK100 => ?_)
                                refine c_reg ?_ -- region 74 compm.go:778
                                refine wl (ro_move rfl) ?_
                                refine wl (ro_nilCheck rfl) ?_
                                refine wl (ro_fieldAddr (k := 0) rfl fo_126_0) ?_
                                refine wl_put rfl rfl rfl sz_3 hB ((by simp)) (rfl) (fun w81 hB F81 => ?_)
                                replace hF := hF.thenDrew.thenO F81 (by first | exact .inr (by omega) | exact .inl rfl | exact .inl (by assumption) | assumption)
                                replace h5 := F81.blkO h5 (by first | omega | exact ow_ne (by assumption) (by assumption) (by omega))
                                replace h7 := F81.blkO h7 (by first | omega | exact ow_ne (by assumption) (by assumption) (by omega))
                                replace h8 := F81.blkO h8 (by first | omega | exact ow_ne (by assumption) (by assumption) (by omega))
                                replace h9 := F81.blkO h9 (by first | omega | exact ow_ne (by assumption) (by assumption) (by omega))
                                replace h10 := F81.blkO h10 (by first | omega | exact ow_ne (by assumption) (by assumption) (by omega))
                                replace h11 := F81.blkO h11 (by first | omega | exact ow_ne (by assumption) (by assumption) (by omega))
                                replace hO := F81.blkO hO (by first | omega | exact ow_ne (by assumption) (by assumption) (by omega))
                                replace hXr := F81.blkO hXr (by first | omega | exact ow_ne (by assumption) (by assumption) (by omega))
                                have hR2 := hR.thr' (y := { sB.th with st := 4 }) hbT hTh.t hTh.ts hTh.vs ((Fram.refl (one bT) _).thenDrew.thenO F81 (.inl rfl)) hB hR.tem hR.bdm
                                replace hR := hR2
                                obtain ⟨bD, hbD⟩ : ∃ bD, bD = bT := ⟨_, rfl⟩
                                subst hbD
                                have hbD := hbT
                                clear hTh hkb hlT hbT hcapT hgT hclT hk70 hB hV hTC hkC hlC
                                have hclB : sB.cur < sB.ths.length := by have := hR.cl; simpa [IS.setT] using this
                                refine wl_nil (x_then (hK100 _ _ ?_))
                                clear hK100 K100
                                refine c_seq (fun K101 hK101 => ?_)
                                refine c_seq (fun K102 hK102 => ?_)
                                refine c_reg ?_ -- region 75 compm.go:779
                                refine wl (ro_move rfl) ?_
                                refine wl_nil (x_then (hK102 _ _ ?_))
                                clear hK102 K102
                                refine wc_cond rfl (fun hc306 => ?_) (fun hc306 => ?_)
                                · try simp only [decide_eq_true_eq, decide_eq_false_iff_not, Bool.not_eq_true', Bool.not_eq_false', Bool.not_eq_eq_eq_not, Bool.not_true, Bool.not_false, beq_iff_eq, bne_iff_ne, ne_eq, beq_eq_false_iff_ne, bne_eq_false_iff_eq, gt_iff_lt, ge_iff_le, Int.not_lt, Int.not_le] at hc306
                                  refine c_seq (fun K103 hK103 => ?_)
                                  obtain ⟨cv, hv_, a0, a1, a2, a3, a4, hXr, hq2, hq3, hq4⟩ := hR.r
                                  unfold rnc at hXr
                                  have hk70 := hR.t70
                                  have hXr0 := hXr
                                  have hfi := hA.fi
                                  have hBf : (sB.setT { sB.th with st := 4 }).first = s2.first := by rw [← hsB]; exact hAf
                                  refine c_reg ?_ -- region 76 compm.go:780
                                  refine wl (ro_move rfl) ?_
                                  refine wl (ro_nilCheck rfl) ?_
                                  refine wl (ro_fieldAddr (k := 14) rfl fo_112_10) ?_
                                  refine wl (ro_loadB rfl sc_3 (by assumption) rfl) ?_
                                  refine wl (ro_arith rfl rfl rfl (Go.IntWalk.i64_in _ (by omega))) ?_
                                  refine wl (ro_nilCheck rfl) ?_
                                  refine wl (ro_fieldAddr (k := 14) rfl fo_112_10) ?_
                                  refine wl_put rfl rfl rfl sz_3 hXr ((by simp)) (rfl) (fun w82 hXr F82 => ?_)
                                  replace hF := hF.thenDrew.thenO F82 (by first | exact .inr (by omega) | exact .inl rfl | exact .inl (by assumption) | assumption)
                                  replace h5 := F82.blkO h5 (by first | omega | exact ow_ne (by assumption) (by assumption) (by omega))
                                  replace h7 := F82.blkO h7 (by first | omega | exact ow_ne (by assumption) (by assumption) (by omega))
                                  replace h8 := F82.blkO h8 (by first | omega | exact ow_ne (by assumption) (by assumption) (by omega))
                                  replace h9 := F82.blkO h9 (by first | omega | exact ow_ne (by assumption) (by assumption) (by omega))
                                  replace h10 := F82.blkO h10 (by first | omega | exact ow_ne (by assumption) (by assumption) (by omega))
                                  replace h11 := F82.blkO h11 (by first | omega | exact ow_ne (by assumption) (by assumption) (by omega))
                                  have e76 : (((sB.setT { sB.th with st := 4 }).first : Int) + 1) = (((sB.setT { sB.th with st := 4 }).first + 1 : Nat) : Int) := by omega
                                  rw [e76] at hXr
                                  have hR2 := hR.turnR ((Fram.refl (one rb) _).thenDrew.thenO F82 (.inl rfl)) (s' := { sB.setT { sB.th with st := 4 } with first := (sB.setT { sB.th with st := 4 }).first + 1 }) rfl rfl rfl rfl (c' := hv_) (v' := hv_) hXr0 hXr hq4 hR.cl hR.sk hR.fu
                                  replace hR := hR2
                                  refine wl_nil (x_then (hK103 _ _ ?_))
                                  clear hK103 K103
                                  have hst1 : C.st = 1 := by rw [← hsBt]; omega
                                  have hfl := hA.f1 C hCm hst1
                                  have hcc : s2.clos[C.fn]? = some (s2.clos.getD C.fn (0, 0)) := by rw [List.getD_eq_getElem?_getD, List.getElem?_eq_getElem hfl]; rfl
                                  obtain ⟨-, hci, ⟨ps, hnm, hp3⟩, -⟩ := hA.cl _ (List.mem_of_getElem? hcc)
                                  have hnc := hA.nc
                                  have hzz : ∀ (i : Nat) z, [b][i]? = some z → some (⟨b5, 0 + 1 * 3, none⟩ : Addr) = some ⟨b5, 3, none⟩ ∧ ((pvc a ++ (pvc b ++ pvc c)).drop (3 + i * 3)).take 3 = pvc z := fun i z hi => ⟨rfl, by
                                    match i, hi with
                                    | 0, hi => cases hi; rfl⟩
                                  have hdp := hA.dp C hCm
                                  have hBcl : sB.clos = s2.clos := by rw [← hsB]; show sA.clos = _; rw [← hsA]; rfl
                                  have hsT : IS.th { sB.setT { sB.th with st := 4 } with first := (sB.setT { sB.th with st := 4 }).first + 1 } = { C with st := 4 } := by rw [← hsBt]; exact th_setT hclB _
                                  generalize hsC : ({ sB.setT { sB.th with st := 4 } with first := (sB.setT { sB.th with st := 4 }).first + 1 } : IS) = sC at *
                                  have hCcl : sC.clos = s2.clos := by rw [← hsC]; exact hBcl
                                  rw [← hCcl] at hfl hci hnm
                                  obtain ⟨cv, a0, a1, a2, a3, a4, gT, capT, lT, bT, tvT, vvT, hXr, hO, hlT, hcapT, hbT, hTh, hgT⟩ := hR.open
                                  have hB := hTh.k
                                  have hkb := hTh.t
                                  have hclT := hR.cl
                                  unfold rnc at hXr
                                  have hk70 := hR.t70
                                  have hbe2 : sC.cur = a.N := by rw [← hsC]; exact hBc
                                  have hbe3 : bT = bD := Option.some.inj (hbT.symm.trans (by rw [hbe2, ← hBc]; exact hbD))
                                  subst hbe3
                                  have hB := hTh.k
                                  rw [hsT] at hB
                                  refine c_piL 6 [(0, false), (1, false), (2, false), (3, false), (4, false), (5, false)] (SameH _) mixed (by kernel_rfl) rfl (by kernel_rfl) (po_then (po_blk (po_then (po_bp)))) (sameH_now _ _) ?_ -- region 77 compm.go:781
                                  refine ql_ro rfl (fun w hS => ro_move rfl) ?_
                                  refine ql_ro rfl (fun w hS => ro_move rfl) ?_
                                  refine ql_ro rfl (fun w hS => ro_nilCheck rfl) ?_
                                  refine ql_ro rfl (fun w hS => ro_fieldAddr (k := 1) rfl fo_126_1) ?_
                                  refine ql_ro rfl (fun w hS => ro_loadB rfl sc_3 (Blk.of_heap (by assumption) hS) rfl) ?_
                                  refine ql_ro rfl (fun w hS => ro_sliceALH (l := 1) (h := 2) rfl rfl rfl ar_225 rfl rfl (by omega) (by omega) (by omega)) ?_
                                  refine ql_lastC rfl rfl en_32 (enter32 (c := C.fn) (prot := 0) (zs := [b]) hR.dr hG hfl hci hnm hp3 h5 kh5 hzz (by rw [hsT]; show C.depth ≤ 100; omega) (by omega)) ?_
                                  rintro _ u83 ⟨rfl, bs, ow83, x83, f83, r83⟩
                                  obtain ⟨h5, kh5⟩ := cm_loc x83 f83 h5 kh5
                                  obtain ⟨h7, kh7⟩ := cm_loc x83 f83 h7 kh7
                                  obtain ⟨h8, kh8⟩ := cm_loc x83 f83 h8 kh8
                                  obtain ⟨h9, kh9⟩ := cm_loc x83 f83 h9 kh9
                                  obtain ⟨h10, kh10⟩ := cm_loc x83 f83 h10 kh10
                                  obtain ⟨h11, kh11⟩ := cm_loc x83 f83 h11 kh11
                                  have hs83 := hF.size
                                  replace hF := cm_trans hX hF f83
                                  replace hX := hX.trans hs83 x83
                                  replace hR := r83
                                  refine x_then (hK101 _ _ ?_)
                                  clear hK101 K101
                                  refine c_ret (x_blkR (x_thenR ?_))
                                  refine bp_ret Tryz.results69 rfl ?_
                                  refine ⟨rfl, ?_⟩
                                  rw [hgoal]
                                  try subst hvp hvq
                                  try dsimp only at *
                                  first
                                  | (exfalso; omega)
                                  | (repeat (first | rw [if_pos (by omega)] | rw [if_neg (by omega)])
                                     first
                                     | exact hfin hX hF hR (by omega)
                                     | exact hfin2 hX hF hR (by omega)
                                     | exact hfin3 hX hF hR (by omega))
                                · try simp only [decide_eq_true_eq, decide_eq_false_iff_not, Bool.not_eq_true', Bool.not_eq_false', Bool.not_eq_eq_eq_not, Bool.not_true, Bool.not_false, beq_iff_eq, bne_iff_ne, ne_eq, beq_eq_false_iff_ne, bne_eq_false_iff_eq, gt_iff_lt, ge_iff_le, Int.not_lt, Int.not_le] at hc306
                                  refine c_seq (fun K104 hK104 => ?_)
                                  have hstn : ¬ C.st = 1 := by rw [← hsBt]; omega
                                  refine c_reg ?_ -- region 78 compm.go:783
                                  refine wl (ro_move rfl) ?_
                                  refine wl (ro_loadAggB rfl ag_119 (by assumption) rfl rfl) ?_
                                  refine wl_call rfl en_67 (push67 (v := b) hR.dr (by omega)) ?_
                                  rintro _ u84 ⟨rfl, ow84, x84, f84, r84⟩
                                  obtain ⟨h5, kh5⟩ := cm_loc x84 f84 h5 kh5
                                  obtain ⟨h7, kh7⟩ := cm_loc x84 f84 h7 kh7
                                  obtain ⟨h8, kh8⟩ := cm_loc x84 f84 h8 kh8
                                  obtain ⟨h9, kh9⟩ := cm_loc x84 f84 h9 kh9
                                  obtain ⟨h10, kh10⟩ := cm_loc x84 f84 h10 kh10
                                  obtain ⟨h11, kh11⟩ := cm_loc x84 f84 h11 kh11
                                  have hs84 := hF.size
                                  replace hF := cm_trans hX hF f84
                                  replace hX := hX.trans hs84 x84
                                  replace hR := r84
                                  refine wl_nil (x_then (hK104 _ _ ?_))
                                  clear hK104 K104
                                  refine c_reg ?_ -- region 79 compm.go:784
                                  refine wl (ro_move rfl) ?_
                                  refine wl (ro_build rfl bld_119) ?_
                                  refine wl_call rfl en_67 (push67 (v := vNil) hR.dr (by omega)) ?_
                                  rintro _ u85 ⟨rfl, ow85, x85, f85, r85⟩
                                  obtain ⟨h5, kh5⟩ := cm_loc x85 f85 h5 kh5
                                  obtain ⟨h7, kh7⟩ := cm_loc x85 f85 h7 kh7
                                  obtain ⟨h8, kh8⟩ := cm_loc x85 f85 h8 kh8
                                  obtain ⟨h9, kh9⟩ := cm_loc x85 f85 h9 kh9
                                  obtain ⟨h10, kh10⟩ := cm_loc x85 f85 h10 kh10
                                  obtain ⟨h11, kh11⟩ := cm_loc x85 f85 h11 kh11
                                  have hs85 := hF.size
                                  replace hF := cm_trans hX hF f85
                                  replace hX := hX.trans hs85 x85
                                  replace hR := r85
                                  refine wl_nil (x_then (hK101 _ _ ?_))
                                  clear hK101 K101
                                  refine c_ret (x_blkR (x_thenR ?_))
                                  refine bp_ret Tryz.results69 rfl ?_
                                  refine ⟨rfl, ?_⟩
                                  rw [hgoal]
                                  try subst hvp hvq
                                  try dsimp only at *
                                  first
                                  | (exfalso; omega)
                                  | (repeat (first | rw [if_pos (by omega)] | rw [if_neg (by omega)])
                                     first
                                     | exact hfin hX hF hR (by omega)
                                     | exact hfin2 hX hF hR (by omega)
                                     | exact hfin3 hX hF hR (by omega))
                          · try simp only [decide_eq_true_eq, decide_eq_false_iff_not, Bool.not_eq_true', Bool.not_eq_false', Bool.not_eq_eq_eq_not, Bool.not_true, Bool.not_false, beq_iff_eq, bne_iff_ne, ne_eq, beq_eq_false_iff_ne, bne_eq_false_iff_eq, gt_iff_lt, ge_iff_le, Int.not_lt, Int.not_le] at hc235
                            refine c_seq (fun K105 hK105 => ?_)
                            refine c_reg ?_ -- region 80 compm.go:788
                            refine wl (ro_cmp rfl rfl rfl) ?_
                            refine wl (ro_assign rfl) ?_
                            refine wl_nil (x_then (hK105 _ _ ?_))
                            clear hK105 K105
                            refine wc_cond rfl (fun hc327 => ?_) (fun hc327 => ?_)
                            · try simp only [decide_eq_true_eq, decide_eq_false_iff_not, Bool.not_eq_true', Bool.not_eq_false', Bool.not_eq_eq_eq_not, Bool.not_true, Bool.not_false, beq_iff_eq, bne_iff_ne, ne_eq, beq_eq_false_iff_ne, bne_eq_false_iff_eq, gt_iff_lt, ge_iff_le, Int.not_lt, Int.not_le] at hc327
                              refine c_seq (fun K106 hK106 => ?_)
                              refine c_seq (fun K107 hK107 => ?_)
                              obtain ⟨cv, hv_, a0, a1, a2, a3, a4, hXr, hq2, hq3, hq4⟩ := hR.r
                              unfold rnc at hXr
                              have hk70 := hR.t70
                              refine c_reg ?_ -- region 81 compm.go:789
                              refine wl (ro_move rfl) ?_
                              refine wl (ro_nilCheck rfl) ?_
                              refine wl (ro_fieldAddr (k := 12) rfl fo_112_8) ?_
                              refine wl (ro_loadB rfl sc_3 (by assumption) rfl) ?_
                              refine wl (ro_cmp rfl rfl rfl) ?_
                              refine wl_nil (x_then (hK107 _ _ ?_))
                              clear hK107 K107
                              refine wc_cond rfl (fun hc333 => ?_) (fun hc333 => ?_)
                              · try simp only [decide_eq_true_eq, decide_eq_false_iff_not, Bool.not_eq_true', Bool.not_eq_false', Bool.not_eq_eq_eq_not, Bool.not_true, Bool.not_false, beq_iff_eq, bne_iff_ne, ne_eq, beq_eq_false_iff_ne, bne_eq_false_iff_eq, gt_iff_lt, ge_iff_le, Int.not_lt, Int.not_le] at hc333
                                refine c_seq (fun K108 hK108 => ?_)
                                refine c_reg ?_ -- region 82 compm.go:790
                                refine wl (ro_move rfl) ?_
                                refine wl_call rfl en_64 (raise64 (z := mYield) hR.dr (by decide) hA.rt (by omega)) ?_
                                rintro _ u86 ⟨rfl, ow86, x86, f86, r86⟩
                                obtain ⟨h5, kh5⟩ := cm_loc x86 f86 h5 kh5
                                obtain ⟨h7, kh7⟩ := cm_loc x86 f86 h7 kh7
                                obtain ⟨h8, kh8⟩ := cm_loc x86 f86 h8 kh8
                                obtain ⟨h9, kh9⟩ := cm_loc x86 f86 h9 kh9
                                obtain ⟨h10, kh10⟩ := cm_loc x86 f86 h10 kh10
                                obtain ⟨h11, kh11⟩ := cm_loc x86 f86 h11 kh11
                                have hs86 := hF.size
                                replace hF := cm_trans hX hF f86
                                replace hX := hX.trans hs86 x86
                                replace hR := r86
                                refine wl_nil (x_then (hK108 _ _ ?_))
                                clear hK108 K108
                                refine c_ret (x_thenR (x_blkR (x_thenR ?_)))
                                refine bp_ret Tryz.results69 rfl ?_
                                refine ⟨rfl, ?_⟩
                                rw [hgoal]
                                try subst hvp hvq
                                try dsimp only at *
                                first
                                | (exfalso; omega)
                                | (repeat (first | rw [if_pos (by omega)] | rw [if_neg (by omega)])
                                   first
                                   | exact hfin hX hF hR (by omega)
                                   | exact hfin2 hX hF hR (by omega)
                                   | exact hfin3 hX hF hR (by omega))
                              · try simp only [decide_eq_true_eq, decide_eq_false_iff_not, Bool.not_eq_true', Bool.not_eq_false', Bool.not_eq_eq_eq_not, Bool.not_true, Bool.not_false, beq_iff_eq, bne_iff_ne, ne_eq, beq_eq_false_iff_ne, bne_eq_false_iff_eq, gt_iff_lt, ge_iff_le, Int.not_lt, Int.not_le] at hc333
                                refine c_skip (x_then (hK106 _ _ ?_))
                                clear hK106 K106
                                refine forget [(0, _), (4, _), (8, _)] ⟨rfl, rfl, rfl, trivial⟩ (fun e => ?_)
                                refine c_seq (fun K109 hK109 => ?_)
                                obtain ⟨c9, q, hs0⟩ : ∃ c q, s2.stack = c :: q := by
                                  cases hs : s2.stack with
                                  | nil => exact absurd hs ((hA.c0).resolve_left (by omega))
                                  | cons c q => exact ⟨c, q, rfl⟩
                                obtain ⟨cv, a0, a1, a2, a3, a4, gT, capT, lT, bT, tvT, vvT, hXr, hO, hlT, hcapT, hbT, hTh, hgT⟩ := hR.open
                                have hB := hTh.k
                                have hkb := hTh.t
                                have hclT := hR.cl
                                unfold rnc at hXr
                                have hk70 := hR.t70
                                have hbe : bT = b0 := Option.some.inj (hbT.symm.trans hb0)
                                subst hbe
                                have hmb := hX.memC (hR.mem_b hR.cl hTh.t)
                                refine c_reg ?_ -- region 83 compm.go:793
                                refine wl (ro_move rfl) ?_
                                refine wl (ro_nilCheck rfl) ?_
                                refine wl (ro_fieldAddr (k := 0) rfl fo_126_0) ?_
                                refine wl_put rfl rfl rfl sz_3 hB ((by simp)) (rfl) (fun w87 hB F87 => ?_)
                                replace hF := hF.thenDrew.thenO F87 (by first | exact .inr (by omega) | exact .inl rfl | exact .inl (by assumption) | assumption)
                                replace h5 := F87.blkO h5 (by first | omega | exact ow_ne (by assumption) (by assumption) (by omega))
                                replace h7 := F87.blkO h7 (by first | omega | exact ow_ne (by assumption) (by assumption) (by omega))
                                replace h8 := F87.blkO h8 (by first | omega | exact ow_ne (by assumption) (by assumption) (by omega))
                                replace h9 := F87.blkO h9 (by first | omega | exact ow_ne (by assumption) (by assumption) (by omega))
                                replace h10 := F87.blkO h10 (by first | omega | exact ow_ne (by assumption) (by assumption) (by omega))
                                replace h11 := F87.blkO h11 (by first | omega | exact ow_ne (by assumption) (by assumption) (by omega))
                                replace hXr := F87.blkO hXr (by first | omega | exact ow_ne (by assumption) (by assumption) (by omega))
                                replace hO := F87.blkO hO (by first | omega | exact ow_ne (by assumption) (by assumption) (by omega))
                                have hR2 := hR.thr' (y := { s2.th with st := 2 }) hbT hTh.t hTh.ts hTh.vs ((Fram.refl (one bT) _).thenDrew.thenO F87 (.inl rfl)) hB hR.tem hR.bdm
                                replace hR := hR2
                                have hcl9 := hA.rt.k c9 (by rw [hs0]; simp)
                                generalize hsA : s2.setT { s2.th with st := 2 } = sA at *
                                have hAs : sA.stack = c9 :: q := by rw [← hsA]; exact hs0
                                have hAl : sA.ths.length = s2.ths.length := by rw [← hsA]; simp [IS.setT]
                                have hls : sA.stack.length = q.length + 1 := by rw [hAs]; rfl
                                rw [hAs] at hgoal
                                simp only at hgoal
                                refine wl_nil (x_then (hK109 _ _ ?_))
                                clear hK109 K109
                                refine forget [(0, _), (8, _)] ⟨rfl, rfl, trivial⟩ (fun e => ?_)
                                refine c_seq (fun K110 hK110 => ?_)
                                obtain ⟨cv, hv_, a0, a1, a2, a3, a4, hXr, hq2, hq3, hq4⟩ := hR.r
                                unfold rnc at hXr
                                have hk70 := hR.t70
                                have hXr0 := hXr
                                have hG2 := hR.frefl
                                have hk5 := hR.sk
                                have hsj : ∀ (j : Nat) (d : Nat), q.reverse[j]? = some d → [a0, a1, a2, a3, a4][j]? = some (i64c d) := fun j d hj => hq4 j d (by rw [hAs, List.reverse_cons, List.getElem?_append_left (List.getElem?_eq_some_iff.1 hj).1]; exact hj)
                                have hsq : [a0, a1, a2, a3, a4][q.length]? = some (i64c c9) := hq4 q.length c9 (by rw [hAs, List.reverse_cons, List.getElem?_append_right (by simp)]; simp)
                                refine c_reg ?_ -- region 84 compm.go:794
                                refine wl (ro_move rfl) ?_
                                refine wl (ro_nilCheck rfl) ?_
                                refine wl (ro_fieldAddr (k := 11) rfl fo_112_7) ?_
                                refine wl (ro_loadB rfl sc_3 (by assumption) rfl) ?_
                                refine wl (ro_arith rfl rfl rfl (Go.IntWalk.i64_in _ (by omega))) ?_
                                refine wl (ro_nilCheck rfl) ?_
                                refine wl (ro_fieldAddr (k := 11) rfl fo_112_7) ?_
                                refine wl_put rfl rfl rfl sz_3 hXr ((by simp)) (rfl) (fun w88 hXr F88 => ?_)
                                replace hF := hF.thenDrew.thenO F88 (by first | exact .inr (by omega) | exact .inl rfl | exact .inl (by assumption) | assumption)
                                replace h5 := F88.blkO h5 (by first | omega | exact ow_ne (by assumption) (by assumption) (by omega))
                                replace h7 := F88.blkO h7 (by first | omega | exact ow_ne (by assumption) (by assumption) (by omega))
                                replace h8 := F88.blkO h8 (by first | omega | exact ow_ne (by assumption) (by assumption) (by omega))
                                replace h9 := F88.blkO h9 (by first | omega | exact ow_ne (by assumption) (by assumption) (by omega))
                                replace h10 := F88.blkO h10 (by first | omega | exact ow_ne (by assumption) (by assumption) (by omega))
                                replace h11 := F88.blkO h11 (by first | omega | exact ow_ne (by assumption) (by assumption) (by omega))
                                replace hG2 := hG2.thenDrew.thenO F88 (by first | exact .inr (by omega) | exact .inl rfl | exact .inl (by assumption) | assumption)
                                have e84 : ((sA.stack.length : Int) - 1) = ((q.length : Nat) : Int) := by omega
                                rw [e84] at hXr
                                refine wl_nil (x_then (hK110 _ _ ?_))
                                clear hK110 K110
                                refine forget [(0, _), (8, _)] ⟨rfl, rfl, trivial⟩ (fun e => ?_)
                                refine c_seq (fun K111 hK111 => ?_)
                                refine c_piL 12 [(0, false), (1, false), (2, false), (3, false), (4, false), (5, false), (6, false), (7, false), (8, false), (9, false), (10, false), (11, false)] (SameH _) mixed (by kernel_rfl) rfl (by kernel_rfl) (po_then (po_blk (po_then (po_bp)))) (sameH_now _ _) ?_ -- region 85 compm.go:795
                                refine ql_ro rfl (fun w hS => ro_move rfl) ?_
                                refine ql_ro rfl (fun w hS => ro_move rfl) ?_
                                refine ql_ro rfl (fun w hS => ro_move rfl) ?_
                                refine ql_ro rfl (fun w hS => ro_nilCheck rfl) ?_
                                refine ql_ro rfl (fun w hS => ro_fieldAddr (k := 11) rfl fo_112_7) ?_
                                refine ql_ro rfl (fun w hS => ro_loadB rfl sc_3 (Blk.of_heap (by assumption) hS) rfl) ?_
                                refine ql_ro rfl (fun w hS => ro_nilCheck rfl) ?_
                                refine ql_ro rfl (fun w hS => ro_fieldAddr (k := 6) rfl fo_112_6) ?_
                                refine ql_ro rfl (fun w hS => ro_indexAddrA (et := 3) (k := 1) rfl rfl ar_110 (rfl) ((by omega))) ?_
                                refine ql_ro rfl (fun w hS => ro_loadB rfl sc_3 (Blk.of_heap hXr hS) (stk_at hsq)) ?_
                                refine ql_ro rfl (fun w hS => ro_nilCheck rfl) ?_
                                refine ql_ro rfl (fun w hS => ro_fieldAddr (k := 12) rfl fo_112_8) ?_
                                refine ql_put rfl rfl rfl rfl sz_3 hXr ((by simp)) (rfl) (fun w89 hXr F89 => ?_)
                                replace hF := hF.thenDrew.thenO F89 (by first | exact .inr (by omega) | exact .inl rfl | exact .inl (by assumption) | assumption)
                                replace h5 := F89.blkO h5 (by first | omega | exact ow_ne (by assumption) (by assumption) (by omega))
                                replace h7 := F89.blkO h7 (by first | omega | exact ow_ne (by assumption) (by assumption) (by omega))
                                replace h8 := F89.blkO h8 (by first | omega | exact ow_ne (by assumption) (by assumption) (by omega))
                                replace h9 := F89.blkO h9 (by first | omega | exact ow_ne (by assumption) (by assumption) (by omega))
                                replace h10 := F89.blkO h10 (by first | omega | exact ow_ne (by assumption) (by assumption) (by omega))
                                replace h11 := F89.blkO h11 (by first | omega | exact ow_ne (by assumption) (by assumption) (by omega))
                                replace hG2 := hG2.thenDrew.thenO F89 (by first | exact .inr (by omega) | exact .inl rfl | exact .inl (by assumption) | assumption)
                                refine x_then (hK111 _ _ ?_)
                                clear hK111 K111
                                refine forget [(0, _), (8, _)] ⟨rfl, rfl, trivial⟩ (fun e => ?_)
                                refine c_seq (fun K112 hK112 => ?_)
                                have hR1 := hR.turnR hG2 (s' := { sA with stack := q, cur := c9 }) rfl rfl rfl rfl (c' := hv_) (v' := hv_) hXr0 hXr hsj (show c9 < sA.ths.length by omega) (show q.length ≤ 5 by omega) hR.fu
                                replace hR := hR1
                                generalize hsB : ({ sA with stack := q, cur := c9 } : IS) = sB at *
                                obtain ⟨cv, a0, a1, a2, a3, a4, gT, capT, lT, bT, tvT, vvT, hXr, hO, hlT, hcapT, hbT, hTh, hgT⟩ := hR.open
                                have hB := hTh.k
                                have hkb := hTh.t
                                have hclT := hR.cl
                                unfold rnc at hXr
                                have hk70 := hR.t70
                                have hmb := hX.memC (hR.mem_b hR.cl hTh.t)
                                refine c_piL 12 [(0, false), (1, false), (2, false), (3, false), (4, false), (5, false), (6, false), (7, false), (8, false), (9, false), (10, false), (11, false)] (SameH _) mixed (by kernel_rfl) rfl (by kernel_rfl) (po_then (po_blk (po_then (po_bp)))) (sameH_now _ _) ?_ -- region 86 compm.go:796
                                refine ql_ro rfl (fun w hS => ro_move rfl) ?_
                                refine ql_ro rfl (fun w hS => ro_nilCheck rfl) ?_
                                refine ql_ro rfl (fun w hS => ro_fieldAddr (k := 5) rfl fo_112_5) ?_
                                refine ql_ro rfl (fun w hS => ro_loadB rfl sc_109 (Blk.of_heap (by assumption) hS) rfl) ?_
                                refine ql_ro rfl (fun w hS => ro_move rfl) ?_
                                refine ql_ro rfl (fun w hS => ro_nilCheck rfl) ?_
                                refine ql_ro rfl (fun w hS => ro_fieldAddr (k := 12) rfl fo_112_8) ?_
                                refine ql_ro rfl (fun w hS => ro_loadB rfl sc_3 (Blk.of_heap (by assumption) hS) rfl) ?_
                                refine ql_ro rfl (fun w hS => ro_indexAddr (et := 123) (k := 1) rfl rfl se_109 rfl (by omega)) ?_
                                refine ql_ro rfl (fun w hS => ro_loadB rfl sc_123 (Blk.of_heap hO hS) (hlT)) ?_
                                refine ql_ro rfl (fun w hS => ro_nilCheck rfl) ?_
                                refine ql_ro rfl (fun w hS => ro_fieldAddr (k := 0) rfl fo_126_0) ?_
                                refine ql_put rfl rfl rfl rfl sz_3 hB ((by simp)) (rfl) (fun w90 hB F90 => ?_)
                                replace hF := hF.thenDrew.thenO F90 (by first | exact .inr (by omega) | exact .inl rfl | exact .inl (by assumption) | assumption)
                                replace h5 := F90.blkO h5 (by first | omega | exact ow_ne (by assumption) (by assumption) (by omega))
                                replace h7 := F90.blkO h7 (by first | omega | exact ow_ne (by assumption) (by assumption) (by omega))
                                replace h8 := F90.blkO h8 (by first | omega | exact ow_ne (by assumption) (by assumption) (by omega))
                                replace h9 := F90.blkO h9 (by first | omega | exact ow_ne (by assumption) (by assumption) (by omega))
                                replace h10 := F90.blkO h10 (by first | omega | exact ow_ne (by assumption) (by assumption) (by omega))
                                replace h11 := F90.blkO h11 (by first | omega | exact ow_ne (by assumption) (by assumption) (by omega))
                                replace hO := F90.blkO hO (by first | omega | exact ow_ne (by assumption) (by assumption) (by omega))
                                replace hXr := F90.blkO hXr (by first | omega | exact ow_ne (by assumption) (by assumption) (by omega))
                                have hR2 := hR.thr' (y := { sB.th with st := 4 }) hbT hTh.t hTh.ts hTh.vs ((Fram.refl (one bT) _).thenDrew.thenO F90 (.inl rfl)) hB hR.tem hR.bdm
                                replace hR := hR2
                                refine x_then (hK112 _ _ ?_)
                                clear hK112 K112
                                refine forget [(0, _), (8, _)] ⟨rfl, rfl, trivial⟩ (fun e => ?_)
                                refine c_seq (fun K113 hK113 => ?_)
                                refine c_reg ?_ -- region 87 compm.go:797
                                refine wl (ro_move rfl) ?_
                                refine wl (ro_build rfl bld_119_0_1) ?_
                                refine wl_call rfl en_67 (push67 (v := vBool true) hR.dr (by omega)) ?_
                                rintro _ u91 ⟨rfl, ow91, x91, f91, r91⟩
                                obtain ⟨h5, kh5⟩ := cm_loc x91 f91 h5 kh5
                                obtain ⟨h7, kh7⟩ := cm_loc x91 f91 h7 kh7
                                obtain ⟨h8, kh8⟩ := cm_loc x91 f91 h8 kh8
                                obtain ⟨h9, kh9⟩ := cm_loc x91 f91 h9 kh9
                                obtain ⟨h10, kh10⟩ := cm_loc x91 f91 h10 kh10
                                obtain ⟨h11, kh11⟩ := cm_loc x91 f91 h11 kh11
                                have hs91 := hF.size
                                replace hF := cm_trans hX hF f91
                                replace hX := hX.trans hs91 x91
                                replace hR := r91
                                refine wl_nil (x_then (hK113 _ _ ?_))
                                clear hK113 K113
                                refine forget [(0, _), (8, _)] ⟨rfl, rfl, trivial⟩ (fun e => ?_)
                                refine c_seq (fun K114 hK114 => ?_)
                                refine c_reg ?_ -- region 88 compm.go:798
                                refine wl (ro_move rfl) ?_
                                refine wl (ro_loadAggB rfl ag_119 (by assumption) rfl rfl) ?_
                                refine wl_call rfl en_67 (push67 (v := a) hR.dr (by omega)) ?_
                                rintro _ u92 ⟨rfl, ow92, x92, f92, r92⟩
                                obtain ⟨h5, kh5⟩ := cm_loc x92 f92 h5 kh5
                                obtain ⟨h7, kh7⟩ := cm_loc x92 f92 h7 kh7
                                obtain ⟨h8, kh8⟩ := cm_loc x92 f92 h8 kh8
                                obtain ⟨h9, kh9⟩ := cm_loc x92 f92 h9 kh9
                                obtain ⟨h10, kh10⟩ := cm_loc x92 f92 h10 kh10
                                obtain ⟨h11, kh11⟩ := cm_loc x92 f92 h11 kh11
                                have hs92 := hF.size
                                replace hF := cm_trans hX hF f92
                                replace hX := hX.trans hs92 x92
                                replace hR := r92
                                refine wl_nil (x_then (hK114 _ _ ?_))
                                clear hK114 K114
                                refine c_ret (x_blkR (x_thenR ?_))
                                refine bp_ret Tryz.results69 rfl ?_
                                refine ⟨rfl, ?_⟩
                                rw [hgoal]
                                try subst hvp hvq
                                try dsimp only at *
                                first
                                | (exfalso; omega)
                                | (repeat (first | rw [if_pos (by omega)] | rw [if_neg (by omega)])
                                   first
                                   | exact hfin hX hF hR (by omega)
                                   | exact hfin2 hX hF hR (by omega)
                                   | exact hfin3 hX hF hR (by omega))
                            · try simp only [decide_eq_true_eq, decide_eq_false_iff_not, Bool.not_eq_true', Bool.not_eq_false', Bool.not_eq_eq_eq_not, Bool.not_true, Bool.not_false, beq_iff_eq, bne_iff_ne, ne_eq, beq_eq_false_iff_ne, bne_eq_false_iff_eq, gt_iff_lt, ge_iff_le, Int.not_lt, Int.not_le] at hc327
                              refine c_seq (fun K115 hK115 => ?_)
                              refine c_reg ?_ -- region 89 compm.go:800
                              refine wl (ro_cmp rfl rfl rfl) ?_
                              refine wl (ro_assign rfl) ?_
                              refine wl_nil (x_then (hK115 _ _ ?_))
                              clear hK115 K115
                              refine wc_cond rfl (fun hc376 => ?_) (fun hc376 => ?_)
                              · try simp only [decide_eq_true_eq, decide_eq_false_iff_not, Bool.not_eq_true', Bool.not_eq_false', Bool.not_eq_eq_eq_not, Bool.not_true, Bool.not_false, beq_iff_eq, bne_iff_ne, ne_eq, beq_eq_false_iff_ne, bne_eq_false_iff_eq, gt_iff_lt, ge_iff_le, Int.not_lt, Int.not_le] at hc376
                                refine c_seq (fun K116 hK116 => ?_)
                                refine c_seq (fun K117 hK117 => ?_)
                                refine c_reg ?_ -- region 90 compm.go:801
                                refine wl (ro_fieldAddr (k := 0) rfl fo_119_0) ?_
                                refine wl (ro_loadB rfl sc_3 (by assumption) rfl) ?_
                                refine wl (ro_cmp rfl rfl rfl) ?_
                                refine wl_nil (x_then (hK117 _ _ ?_))
                                clear hK117 K117
                                refine wc_cond rfl (fun hc380 => ?_) (fun hc380 => ?_)
                                · try simp only [decide_eq_true_eq, decide_eq_false_iff_not, Bool.not_eq_true', Bool.not_eq_false', Bool.not_eq_eq_eq_not, Bool.not_true, Bool.not_false, beq_iff_eq, bne_iff_ne, ne_eq, beq_eq_false_iff_ne, bne_eq_false_iff_eq, gt_iff_lt, ge_iff_le, Int.not_lt, Int.not_le] at hc380
                                  refine c_seq (fun K118 hK118 => ?_)
                                  refine c_reg ?_ -- region 91 compm.go:802
                                  refine wl (ro_move rfl) ?_
                                  refine wl_call rfl en_64 (raise64 (z := mCo) hR.dr (by decide) hA.rt (by omega)) ?_
                                  rintro _ u93 ⟨rfl, ow93, x93, f93, r93⟩
                                  obtain ⟨h5, kh5⟩ := cm_loc x93 f93 h5 kh5
                                  obtain ⟨h7, kh7⟩ := cm_loc x93 f93 h7 kh7
                                  obtain ⟨h8, kh8⟩ := cm_loc x93 f93 h8 kh8
                                  obtain ⟨h9, kh9⟩ := cm_loc x93 f93 h9 kh9
                                  obtain ⟨h10, kh10⟩ := cm_loc x93 f93 h10 kh10
                                  obtain ⟨h11, kh11⟩ := cm_loc x93 f93 h11 kh11
                                  have hs93 := hF.size
                                  replace hF := cm_trans hX hF f93
                                  replace hX := hX.trans hs93 x93
                                  replace hR := r93
                                  refine wl_nil (x_then (hK118 _ _ ?_))
                                  clear hK118 K118
                                  refine c_ret (x_thenR (x_blkR (x_thenR ?_)))
                                  refine bp_ret Tryz.results69 rfl ?_
                                  refine ⟨rfl, ?_⟩
                                  rw [hgoal]
                                  try subst hvp hvq
                                  try dsimp only at *
                                  first
                                  | (exfalso; omega)
                                  | (repeat (first | rw [if_pos (by omega)] | rw [if_neg (by omega)])
                                     first
                                     | exact hfin hX hF hR (by omega)
                                     | exact hfin2 hX hF hR (by omega)
                                     | exact hfin3 hX hF hR (by omega))
                                · try simp only [decide_eq_true_eq, decide_eq_false_iff_not, Bool.not_eq_true', Bool.not_eq_false', Bool.not_eq_eq_eq_not, Bool.not_true, Bool.not_false, beq_iff_eq, bne_iff_ne, ne_eq, beq_eq_false_iff_ne, bne_eq_false_iff_eq, gt_iff_lt, ge_iff_le, Int.not_lt, Int.not_le] at hc380
                                  refine c_skip (x_then (hK116 _ _ ?_))
                                  clear hK116 K116
                                  refine forget [(0, _), (8, _), (10, _), (11, _)] ⟨rfl, rfl, rfl, rfl, trivial⟩ (fun e => ?_)
                                  refine c_seq (fun K119 hK119 => ?_)
                                  have hcl7 := hoka.co (by omega)
                                  have hnt := hA.nt
                                  obtain ⟨cv, a0, a1, a2, a3, a4, gC, capC, lC, bC, tvC, vvC, hXr, hO, hlC, hcapC, hbC, hTC, hgC⟩ := hR.thAt hcl7
                                  unfold rnc at hXr
                                  have hV := hTC.k
                                  refine c_pi [(0, false), (1, false), (2, false), (3, false), (4, false), (5, false), (6, false), (7, false), (8, false), (9, false), (10, false), (11, true), (12, false)] (La rb _ _ (La gC _ _ (La bC _ _ (La b8 _ _ (fun _ => True))))) mixed (by kernel_rfl) rfl (by kernel_rfl) (po_then (po_blk (po_then (po_bp)))) (⟨hXr, hO, hV, h8, trivial⟩) ?_ -- region 92 compm.go:805
                                  refine pi_ro rfl (fun w hS => ro_move rfl) ?_
                                  refine pi_ro rfl (fun w hS => ro_nilCheck rfl) ?_
                                  refine pi_ro rfl (fun w hS => ro_fieldAddr (k := 5) rfl fo_112_5) ?_
                                  refine pi_ro rfl (fun w hS => ro_loadB rfl sc_109 (hS.1) rfl) ?_
                                  refine pi_ro rfl (fun w hS => ro_fieldAddr (k := 1) rfl fo_119_1) ?_
                                  refine pi_ro rfl (fun w hS => ro_loadB rfl sc_117 (hS.2.2.2.1) rfl) ?_
                                  refine pi_ro rfl (fun w hS => ro_indexAddr (et := 123) (k := 1) rfl rfl se_109 rfl (by omega)) ?_
                                  refine pi_ro rfl (fun w hS => ro_loadB rfl sc_123 (hS.2.1) (hlC)) ?_
                                  refine pi_ro rfl (fun w hS => ro_nilCheck rfl) ?_
                                  refine pi_ro rfl (fun w hS => ro_fieldAddr (k := 0) rfl fo_126_0) ?_
                                  refine pi_ro rfl (fun w hS => ro_loadB rfl sc_3 (hS.2.2.1) rfl) ?_
                                  refine pi_call rfl rfl en_121 (StatusName121) ?_
                                  rintro _ _ ⟨rfl, rfl⟩
                                  refine ⟨⟨hXr, hO, hV, h8, trivial⟩, ?_⟩
                                  refine pi_ro rfl (fun w hS => ro_assign rfl) ?_
                                  refine pi_nil (x_then (hK119 _ _ ?_))
                                  clear hK119 K119
                                  refine c_reg ?_ -- region 93 compm.go:806
                                  refine wl (ro_move rfl) ?_
                                  refine wl (ro_build rfl bld_119_0_2) ?_
                                  refine wl_puta rfl rfl ((pvc_one (vStr _))) sz_119 (rfl) h10 ((by simp)) ((show _ = pvc (vStr (stName (s2.ths.getD a.N ITh.zero).st)) from rfl)) (fun w94 h10 F94 => ?_)
                                  replace hF := hF.thenDrew.thenO F94 (by first | exact .inr (by omega) | exact .inl rfl | exact .inl (by assumption) | assumption)
                                  replace hR := hR.hbput ((Fram.refl (one b10) _).thenDrew.thenO F94 (.inl rfl))
                                  replace h5 := F94.blkO h5 (by first | omega | exact ow_ne (by assumption) (by assumption) (by omega))
                                  replace h7 := F94.blkO h7 (by first | omega | exact ow_ne (by assumption) (by assumption) (by omega))
                                  replace h8 := F94.blkO h8 (by first | omega | exact ow_ne (by assumption) (by assumption) (by omega))
                                  replace h9 := F94.blkO h9 (by first | omega | exact ow_ne (by assumption) (by assumption) (by omega))
                                  replace h11 := F94.blkO h11 (by first | omega | exact ow_ne (by assumption) (by assumption) (by omega))
                                  refine wl_nil (x_blk (x_then (hK23 _ _ ?_)))
                                  clear hK23 K23
                                  refine forget [(0, _), (10, _), (11, _)] ⟨rfl, rfl, rfl, trivial⟩ (fun e => ?_)
                                  refine c_seq (fun K120 hK120 => ?_)
                                  obtain ⟨vp, hvp, h10⟩ : ∃ vp, vp = _ ∧ Blk _ b10 (pvc vp) 119 := ⟨_, rfl, h10⟩
                                  obtain ⟨vq', hvq, h11⟩ : ∃ vp, vp = _ ∧ Blk _ b11 (pvc vp) 119 := ⟨_, rfl, h11⟩
                                  refine c_reg ?_ -- region 94 compm.go:808
                                  refine wl (ro_move rfl) ?_
                                  refine wl (ro_loadAggB rfl ag_119 (h10) (rfl) (rfl)) ?_
                                  refine wl_call rfl en_67 (push67 (v := vp) hR.dr (by omega)) ?_
                                  rintro _ u95 ⟨rfl, ow95, x95, f95, r95⟩
                                  obtain ⟨h5, kh5⟩ := cm_loc x95 f95 h5 kh5
                                  obtain ⟨h7, kh7⟩ := cm_loc x95 f95 h7 kh7
                                  obtain ⟨h8, kh8⟩ := cm_loc x95 f95 h8 kh8
                                  obtain ⟨h9, kh9⟩ := cm_loc x95 f95 h9 kh9
                                  obtain ⟨h10, kh10⟩ := cm_loc x95 f95 h10 kh10
                                  obtain ⟨h11, kh11⟩ := cm_loc x95 f95 h11 kh11
                                  have hs95 := hF.size
                                  replace hF := cm_trans hX hF f95
                                  replace hX := hX.trans hs95 x95
                                  replace hR := r95
                                  refine wl_nil (x_then (hK120 _ _ ?_))
                                  clear hK120 K120
                                  refine c_reg ?_ -- region 95 compm.go:809
                                  refine wl (ro_move rfl) ?_
                                  refine wl (ro_loadAggB rfl ag_119 (h11) (rfl) (rfl)) ?_
                                  refine wl_call rfl en_67 (push67 (v := vq') hR.dr (by omega)) ?_
                                  rintro _ u96 ⟨rfl, ow96, x96, f96, r96⟩
                                  obtain ⟨h5, kh5⟩ := cm_loc x96 f96 h5 kh5
                                  obtain ⟨h7, kh7⟩ := cm_loc x96 f96 h7 kh7
                                  obtain ⟨h8, kh8⟩ := cm_loc x96 f96 h8 kh8
                                  obtain ⟨h9, kh9⟩ := cm_loc x96 f96 h9 kh9
                                  obtain ⟨h10, kh10⟩ := cm_loc x96 f96 h10 kh10
                                  obtain ⟨h11, kh11⟩ := cm_loc x96 f96 h11 kh11
                                  have hs96 := hF.size
                                  replace hF := cm_trans hX hF f96
                                  replace hX := hX.trans hs96 x96
                                  replace hR := r96
                                  refine wl_nil ?_
                                  refine bp_end Tryz.results69 rfl ?_
                                  refine ⟨rfl, ?_⟩
                                  rw [hgoal]
                                  try subst hvp hvq
                                  try dsimp only at *
                                  first
                                  | (exfalso; omega)
                                  | (repeat (first | rw [if_pos (by omega)] | rw [if_neg (by omega)])
                                     first
                                     | exact hfin hX hF hR (by omega)
                                     | exact hfin2 hX hF hR (by omega)
                                     | exact hfin3 hX hF hR (by omega))
                              · try simp only [decide_eq_true_eq, decide_eq_false_iff_not, Bool.not_eq_true', Bool.not_eq_false', Bool.not_eq_eq_eq_not, Bool.not_true, Bool.not_false, beq_iff_eq, bne_iff_ne, ne_eq, beq_eq_false_iff_ne, bne_eq_false_iff_eq, gt_iff_lt, ge_iff_le, Int.not_lt, Int.not_le] at hc376
                                refine c_skip (x_blk (x_then (hK23 _ _ ?_)))
                                clear hK23 K23
                                refine forget [(0, _), (10, _), (11, _)] ⟨rfl, rfl, rfl, trivial⟩ (fun e => ?_)
                                refine c_seq (fun K121 hK121 => ?_)
                                obtain ⟨vp, hvp, h10⟩ : ∃ vp, vp = _ ∧ Blk _ b10 (pvc vp) 119 := ⟨_, rfl, h10⟩
                                obtain ⟨vq', hvq, h11⟩ : ∃ vp, vp = _ ∧ Blk _ b11 (pvc vp) 119 := ⟨_, rfl, h11⟩
                                refine c_reg ?_ -- region 94 compm.go:808
                                refine wl (ro_move rfl) ?_
                                refine wl (ro_loadAggB rfl ag_119 (h10) (rfl) (rfl)) ?_
                                refine wl_call rfl en_67 (push67 (v := vp) hR.dr (by omega)) ?_
                                rintro _ u97 ⟨rfl, ow97, x97, f97, r97⟩
                                obtain ⟨h5, kh5⟩ := cm_loc x97 f97 h5 kh5
                                obtain ⟨h7, kh7⟩ := cm_loc x97 f97 h7 kh7
                                obtain ⟨h8, kh8⟩ := cm_loc x97 f97 h8 kh8
                                obtain ⟨h9, kh9⟩ := cm_loc x97 f97 h9 kh9
                                obtain ⟨h10, kh10⟩ := cm_loc x97 f97 h10 kh10
                                obtain ⟨h11, kh11⟩ := cm_loc x97 f97 h11 kh11
                                have hs97 := hF.size
                                replace hF := cm_trans hX hF f97
                                replace hX := hX.trans hs97 x97
                                replace hR := r97
                                refine wl_nil (x_then (hK121 _ _ ?_))
                                clear hK121 K121
                                refine c_reg ?_ -- region 95 compm.go:809
                                refine wl (ro_move rfl) ?_
                                refine wl (ro_loadAggB rfl ag_119 (h11) (rfl) (rfl)) ?_
                                refine wl_call rfl en_67 (push67 (v := vq') hR.dr (by omega)) ?_
                                rintro _ u98 ⟨rfl, ow98, x98, f98, r98⟩
                                obtain ⟨h5, kh5⟩ := cm_loc x98 f98 h5 kh5
                                obtain ⟨h7, kh7⟩ := cm_loc x98 f98 h7 kh7
                                obtain ⟨h8, kh8⟩ := cm_loc x98 f98 h8 kh8
                                obtain ⟨h9, kh9⟩ := cm_loc x98 f98 h9 kh9
                                obtain ⟨h10, kh10⟩ := cm_loc x98 f98 h10 kh10
                                obtain ⟨h11, kh11⟩ := cm_loc x98 f98 h11 kh11
                                have hs98 := hF.size
                                replace hF := cm_trans hX hF f98
                                replace hX := hX.trans hs98 x98
                                replace hR := r98
                                refine wl_nil ?_
                                refine bp_end Tryz.results69 rfl ?_
                                refine ⟨rfl, ?_⟩
                                rw [hgoal]
                                try subst hvp hvq
                                try dsimp only at *
                                first
                                | (exfalso; omega)
                                | (repeat (first | rw [if_pos (by omega)] | rw [if_neg (by omega)])
                                   first
                                   | exact hfin hX hF hR (by omega)
                                   | exact hfin2 hX hF hR (by omega)
                                   | exact hfin3 hX hF hR (by omega))

end Go.Proofs.Qxb6500568aGreatDoor
