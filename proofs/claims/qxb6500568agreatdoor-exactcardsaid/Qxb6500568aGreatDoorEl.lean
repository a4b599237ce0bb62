import Derived.Test.Qxb6500568aGreatDoorEk
/- The real parser: lists of expressions. -/
namespace Go.Proofs.Qxb6500568aGreatDoor
open Ieee
set_option linter.unusedVariables false
set_option linter.unusedSimpArgs false

section
variable {w w' : World} {ow ow' : Nat → Nat} {G : Nat → Prop}
theorem NB.far2 {b : Nat} {cs : List Value} {t : TypeId} (h : NB w ow b cs t) (f : Fram G w w') (hn : ∀ b, ow b = 63 → b < w.heap.size → ¬ G b) (hE : ∀ b, b < w.heap.size → ow b = 63 → ow' b = 63) : NB w' ow' b cs t :=
  ⟨h.1.fram f (hn b h.2 h.1.lt), hE b h.1.lt h.2⟩
theorem SlM.far2 {V : Value} {vs : List Value} (h : SlM w ow V vs) (f : Fram G w w') (hn : ∀ b, ow b = 63 → b < w.heap.size → ¬ G b) (hE : ∀ b, b < w.heap.size → ow b = 63 → ow' b = 63) : SlM w' ow' V vs :=
  ⟨h.o.fram f (fun b hb => hn b (h.t b hb) (h.o.lt hb)), fun b hb => hE b (h.o.lt hb) (h.t b hb)⟩
theorem TrM.far2 {md : Nat} {tr : Tr} {vs : List Value} (h : TrM w ow md tr vs) (f : Fram G w w') (hn : ∀ b, ow b = 63 → b < w.heap.size → ¬ G b) (hE : ∀ b, b < w.heap.size → ow b = 63 → ow' b = 63) : TrM w' ow' md tr vs :=
  h.imp (fun b cs t q => q.far2 f hn hE) (fun V vs q => SlM.far2 q f hn hE)
/-- Trees one by one. -/
def ElM (w : World) (ow : Nat → Nat) (md : Nat) : List Tr → List Value → Prop
  | [], vs => vs = []
  | t :: ts, vs => ∃ v r, vs = v :: r ∧ TrM w ow md t [v] ∧ ElM w ow md ts r
theorem ElM.far2 {md : Nat} (f : Fram G w w') (hn : ∀ b, ow b = 63 → b < w.heap.size → ¬ G b) (hE : ∀ b, b < w.heap.size → ow b = 63 → ow' b = 63) : ∀ {ts : List Tr} {vs : List Value}, ElM w ow md ts vs → ElM w' ow' md ts vs
  | [], _, h => h
  | _ :: _, _, ⟨v, r, h1, h2, h3⟩ => ⟨v, r, h1, h2.far2 f hn hE, ElM.far2 f hn hE h3⟩
theorem ElM.snoc {md : Nat} {t : Tr} {v : Value} (ht : TrM w ow md t [v]) : ∀ {ts : List Tr} {vs : List Value}, ElM w ow md ts vs → ElM w ow md (ts ++ [t]) (vs ++ [v])
  | [], vs, h => by have h : vs = [] := h; subst h; exact ⟨v, [], rfl, ht, rfl⟩
  | _ :: _, _, ⟨v', r, h1, h2, h3⟩ => ⟨v', r ++ [v], by rw [h1]; rfl, h2, ElM.snoc ht h3⟩
theorem ElM.len {md : Nat} : ∀ {ts : List Tr} {vs : List Value}, ElM w ow md ts vs → vs.length = ts.length
  | [], vs, h => by have h : vs = [] := h; subst h; rfl
  | _ :: _, _, ⟨v', r, h1, h2, h3⟩ => by rw [h1, List.length_cons, List.length_cons, h3.len]
theorem ElM.one {md : Nat} : ∀ {ts : List Tr} {vs : List Value}, ElM w ow md ts vs → md = 0 ∨ md = 2 → ∀ v ∈ vs, v.oneCell' = true
  | [], vs, h, _, v, hv => by have h : vs = [] := h; subst h; cases hv
  | _ :: _, _, ⟨v', r, h1, h2, h3⟩, hm, v, hv => by
    rw [h1] at hv
    rcases List.mem_cons.1 hv with rfl | hv
    · obtain ⟨T, b, rfl⟩ := h2.ifc hm; rfl
    · exact h3.one hm v hv
theorem ElM.exl : ∀ {ts : List Tr} {vs : List Value}, ElM w ow 0 ts vs → TrM w ow 1 (ts.foldr ExL.cons ExL.nil) vs
  | [], _, h => TrM_enil.2 h
  | _ :: _, _, ⟨v, r, h1, h2, h3⟩ => TrM_econs.2 ⟨v, r, h1, h2, h3.exl⟩
theorem ElM.stl : ∀ {ts : List Tr} {vs : List Value}, ElM w ow 2 ts vs → TrM w ow 3 (ts.foldr StL.cons StL.nil) vs
  | [], _, h => TrM_snil.2 h
  | _ :: _, _, ⟨v, r, h1, h2, h3⟩ => TrM_scons.2 ⟨v, r, h1, h2, h3.stl⟩
end
/-- The block of the list at hand is not finished. -/
def T64 (U : Value) (ow : Nat → Nat) : Nat → Nat := fun b => if U.ownBlock = some b then 64 else ow b
theorem T64.ne {U : Value} {ow : Nat → Nat} {b : Nat} (h : T64 U ow b = 63) : ¬ own1 U b := fun q => by
  have q : U.ownBlock = some b := q
  unfold T64 at h
  rw [if_pos q] at h
  cases h
theorem T64.of {U : Value} {ow : Nat → Nat} {b : Nat} (h : T64 U ow b = 63) : ow b = 63 := by
  have q : ¬ U.ownBlock = some b := T64.ne h
  unfold T64 at h
  rw [if_neg q] at h
  exact h
/-- A list under construction. -/
structure LsM (w0 : World) (ow : Nat → Nat) (w : World) (md : Nat) (U : Value) (ts : List Tr) (vs : List Value) : Prop where
  own : Own w.heap U 242 1 vs.length vs
  new : ∀ b, own1 U b → w0.heap.size ≤ b
  el : ElM w (T64 U (N63 w0 ow)) md ts vs
section
variable {w0 w w' : World} {ow : Nat → Nat} {md pb tb cap : Nat} {U : Value} {ts : List Tr} {vs : List Value} {L : List Tok}
theorem LsM.nil : LsM w0 ow w md (.slice none 0 0) [] [] := ⟨Own.nil _ _ _, fun b hb => (by cases hb), rfl⟩
theorem LsM.xt (h : LsM w0 ow w md U ts vs) : Xt w0 ow (T64 U (N63 w0 ow)) := fun b hb => by
  unfold T64
  rw [if_neg (fun q => by have := h.new b q; omega)]
  exact nw_old hb
theorem LsM.cx (h : LsM w0 ow w md U ts vs) (hc : PCx w0 ow pb tb cap L) (f : Fram (one pb) w0 w) : PCx w (T64 U (N63 w0 ow)) pb tb cap L := hc.far f h.xt
theorem LsM.n63 (h : LsM w0 ow w md U ts vs) (hs : w0.heap.size ≤ w.heap.size) : N63 w (T64 U (N63 w0 ow)) = T64 U (N63 w0 ow) := by
  funext b
  show nw _ _ _ _ = _
  by_cases hb : w.heap.size ≤ b
  · rw [nw_new hb]
    unfold T64
    rw [if_neg (fun q => by have := h.own.lt q; omega)]
    exact (nw_new (by omega)).symm
  · exact nw_old (by omega)
/-- Over a call that writes the parser only. -/
theorem LsM.thru (h : LsM w0 ow w md U ts vs) (hc : PCx w0 ow pb tb cap L) (f0 : Fram (one pb) w0 w) (f : Fram (one pb) w w') : LsM w0 ow w' md U ts vs := by
  have hc' := h.cx hc f0
  refine ⟨h.own.fram f (fun b hb e => ?_), h.new, h.el.far2 f (fun b hb _ e => ?_) (fun _ _ h => h)⟩
  · have := h.new b hb; have := hc.pl; have e : b = pb := e; omega
  · have e : b = pb := e; rw [e, hc'.pt] at hb; omega
theorem LsM.thruN (h : LsM w0 ow w md U ts vs) (f : Fram none' w w') : LsM w0 ow w' md U ts vs := ⟨h.own.fram f (fun _ _ h => h), h.new, h.el.far2 f (fun _ _ _ h => h) (fun _ _ h => h)⟩
/-- One more. -/
theorem LsM.app {U' v : Value} {t : Tr} (h : LsM w0 ow w md U ts vs) (hs : w0.heap.size ≤ w.heap.size) (ht : TrM w (T64 U (N63 w0 ow)) md t [v]) (hon : Own w'.heap U' 242 1 (vs.length + 1) (vs ++ [v])) (f : Fram (own1 U) w w') (hnb : nob U U' w) : LsM w0 ow w' md U' (ts ++ [t]) (vs ++ [v]) := by
  have hE : ∀ b, b < w.heap.size → T64 U (N63 w0 ow) b = 63 → T64 U' (N63 w0 ow) b = 63 := fun b hb q => by
    unfold T64
    rw [if_neg (fun q' => by
      rcases hnb b q' with q2 | q2
      · exact T64.ne q q2
      · omega)]
    exact T64.of q
  refine ⟨by rw [List.length_append]; exact hon, fun b hb => ?_, (h.el.far2 f (fun b hb _ => T64.ne hb) hE).snoc (ht.far2 f (fun b hb _ => T64.ne hb) hE)⟩
  rcases hnb b hb with q | q
  · exact h.new b q
  · omega
/-- The list is done. -/
theorem LsM.done (h : LsM w0 ow w md U ts vs) : SlM w (N63 w0 ow) U vs ∧ ElM w (N63 w0 ow) md ts vs :=
  ⟨⟨h.own, fun b hb => nw_new (h.new b hb)⟩, h.el.far2 (Fram.refl none' w) (fun _ _ _ h => h) (fun b _ q => T64.of q)⟩
end
/-- What stands before is put before. -/
def glue (ts : List Tr) : PO → PO
  | .inl e => .inl e
  | .inr (l, s) => .inr (ts.foldr ExL.cons l, s)
theorem pList_s {f lv r n : Nat} {s : PS} {R : PO} (h : parP (f + 1) 5 lv r n dumT s = some R) : pList (parP f) lv r n s = some R := h
theorem glue_snoc {ts : List Tr} {t l : Tr} {s : PS} : glue (ts ++ [t]) (.inr (l, s)) = glue ts (.inr (ExL.cons t l, s)) := by
  show (Sum.inr (List.foldr ExL.cons l (ts ++ [t]), s) : PO) = Sum.inr (List.foldr ExL.cons (ExL.cons t l) ts, s)
  rw [List.foldr_append]
  rfl
set_option maxHeartbeats 4000000 in
theorem list225 {f : Nat} {w : World} {ow : Nat → Nat} {pb tb cap : Nat} {L : List Tok} {s : PS} {lv r : Nat} {ρ : Int} {R : PO} (ih : PAll f) (hf : f < 1000000000) (hG : PGo w ow pb tb cap L s lv ρ) (hr : r = 40 ∨ r = 42) (hR : parP (f + 1) 5 lv r 0 dumT s = some R) :
    Ret Tryz.prog 225 [ptr pb, .int .i64 ρ, i64c r, .int .i64 (if r = 40 then 3 else -1)] w (RsL w ow pb tb cap L 1 R) := by
  have hne := hG.cx.ne
  have hρ := hG.rm
  have hPl := hG.cx.pl
  have hF : Fram (one pb) w w := Fram.refl _ _
  have hlen := hG.cx.tk.len
  refine ret_of Tryz.func225 rfl Tryz.ntmps225 rfl ?_
  refine c_seq (fun K1 hK1 => ?_)
  refine c_reg ?_ -- region 0 expr.go:215
  refine wl (ro_assign rfl) ?_
  refine wl (ro_assign rfl) ?_
  refine wl_nil (x_then (hK1 _ _ ?_))
  clear hK1 K1
  refine forget [(0, _), (1, _), (2, _), (3, _)] ⟨rfl, rfl, rfl, rfl, trivial⟩ (fun e => ?_)
  refine c_seq (fun K2 hK2 => ?_)
  refine c_reg ?_ -- region 1 expr.go:216
  refine wl (ro_assign rfl) ?_
  refine wl_nil (x_then (hK2 _ _ ?_))
  clear hK2 K2
  refine forget [(0, _), (1, _), (2, _), (3, _), (10, _)] ⟨rfl, rfl, rfl, rfl, rfl, trivial⟩ (fun e => ?_)
  refine c_seq (fun K3 hK3 => ?_)
  refine c_block ?_
  -- loop@r2: live slots [0, 1, 2, 3, 10]
  refine c_loopG (fun n a' w' => ∃ (ts : List Tr) (vs : List Value) (U : Value) (s1 : PS) (R1 : PO), n + ts.length = f + 1 ∧ parP n 5 lv r ts.length dumT s1 = some R1 ∧ R = glue ts R1 ∧ PrV w' pb tb cap L s1 ∧ Sm s s1 ∧ Fram (one pb) w w' ∧ LsM w ow w' 0 U ts vs ∧ ∃ e, a' = Fr 45 (upds e [(0, ptr pb), (1, .int .i64 ρ), (2, i64c r), (3, .int .i64 (if r = 40 then 3 else -1)), (10, U)]) []) (f + 1) ⟨[], [], _, s, R, rfl, hR, (by cases R <;> rfl), hG.pr, Sm.refl hG.pe, hF, LsM.nil, kp _ ⟨rfl, rfl, rfl, rfl, rfl, trivial⟩⟩ ?_
  clear hF hR
  rintro n a' u1 ⟨ts, vs, U, s1, R1, hn, hR, rfl, hP, hSm, hF, hU, e, rfl⟩
  obtain ⟨i, hX, hi, hs⟩ := hP.ex
  unfold prc at hX
  obtain ⟨ua, uc, rfl⟩ := hU.own.form
  have hvl := hU.el.len
  have hkk : s1.k = s1.cur.k := rfl
  obtain ⟨g, rfl⟩ : ∃ g, n = g + 1 := by
    cases n with
    | zero => cases hR
    | succ g => exact ⟨g, rfl⟩
  replace hR := pList_s hR
  unfold pList at hR
  refine c_seq (fun K4 hK4 => ?_)
  refine c_seq (fun K5 hK5 => ?_)
  refine c_reg ?_ -- region 2 expr.go:217
  refine wl (ro_move rfl) ?_
  refine wl (ro_nilCheck rfl) ?_
  refine wl (ro_fieldAddr (k := 2) rfl fo_186_2) ?_
  refine wl (ro_fieldAddr (k := 0) rfl fo_182_0) ?_
  refine wl (ro_loadB rfl sc_180 (by assumption) rfl) ?_
  refine wl (ro_move rfl) ?_
  refine wl (ro_cmp rfl rfl rfl) ?_
  refine wl_nil (x_then (hK5 _ _ ?_))
  clear hK5 K5
  refine wc_cond rfl (fun hc18 => ?_) (fun hc18 => ?_)
  · try simp only [decide_eq_true_eq, decide_eq_false_iff_not, Bool.not_eq_true', Bool.not_eq_false', Bool.not_eq_eq_eq_not, Bool.not_true, Bool.not_false, beq_iff_eq, bne_iff_ne, ne_eq, beq_eq_false_iff_ne, bne_eq_false_iff_eq, gt_iff_lt, ge_iff_le, Int.not_lt, Int.not_le] at hc18
    rw [if_neg (by omega)] at hR
    refine c_skip (x_then (hK4 _ _ ?_))
    clear hK4 K4
    refine c_block ?_
    refine c_mid (fun a' w' => ∃ s2, PrV w' pb tb cap L s2 ∧ Sm s s2 ∧ (if r = 40 ∧ ts.length = 3 then failP 19 s2 else bdP (parP g 0 lv 1 0 dumT s2) fun x s => bdP (parP g 5 lv r (ts.length + 1) dumT s) fun l s => okP (ExL.cons x l) s) = some R1 ∧ Fram (one pb) w w' ∧ LsM w ow w' 0 (.slice ua vs.length uc) ts vs ∧ ∃ e, a' = Fr 45 (upds e [(0, ptr pb), (1, .int .i64 ρ), (2, i64c r), (3, .int .i64 (if r = 40 then 3 else -1)), (10, .slice ua vs.length uc)]) []) ?_ ?_
    · skip
      refine c_seq (fun K6 hK6 => ?_)
      refine c_reg ?_ -- region 3 expr.go:218
      refine wl (ro_move rfl) ?_
      refine wl (ro_lenL rfl se_188) ?_
      refine wl (ro_cmp rfl rfl rfl) ?_
      refine wl_fork rfl (fun hg22 => ?_) (fun hg22 => ?_)
      · try simp only [decide_eq_true_eq, decide_eq_false_iff_not, Bool.not_eq_true', Bool.not_eq_false', Bool.not_eq_eq_eq_not, Bool.not_true, Bool.not_false, beq_iff_eq, bne_iff_ne, ne_eq, beq_eq_false_iff_ne, bne_eq_false_iff_eq, gt_iff_lt, ge_iff_le, Int.not_lt, Int.not_le] at hg22
        refine wlg_yes rfl (ro_move rfl) ?_
        refine wlg_call rfl rfl en_222 (expect222 hP (hU.cx hG.cx hF).tk hne (by decide)) ?_
        rintro _ u2 ⟨rfl, hq2, F9⟩
        have hU2 := hU.thru hG.cx hF F9
        have hF2 := hF.trans' F9 (fun _ _ h => h)
        rw [if_pos (by omega)] at hR
        unfold expP at hR
        refine wlg_yes rfl (ro_not rfl) ?_
        refine wl (ro_pick rfl rfl rfl) ?_
        refine wl_nil (x_then (hK6 _ _ ?_))
        clear hK6 K6
        refine wc_cond rfl (fun hc26 => ?_) (fun hc26 => ?_)
        · try simp only [decide_eq_true_eq, decide_eq_false_iff_not, Bool.not_eq_true', Bool.not_eq_false', Bool.not_eq_eq_eq_not, Bool.not_true, Bool.not_false, beq_iff_eq, bne_iff_ne, ne_eq, beq_eq_false_iff_ne, bne_eq_false_iff_eq, gt_iff_lt, ge_iff_le, Int.not_lt, Int.not_le] at hc26
          refine c_seq (fun K7 hK7 => ?_)
          refine c_reg ?_ -- region 4 expr.go:219
          refine wl (ro_assign rfl) ?_
          refine wl (ro_assign rfl) ?_
          refine wl_nil (x_then (hK7 _ _ ?_))
          clear hK7 K7
          refine c_ret (x_thenR (x_blkR (x_thenR (x_blkR (x_thenR ?_)))))
          refine bp_ret Tryz.results225 rfl ?_
          rw [if_neg (by omega)] at hR hq2
          cases failP_inj hR
          exact ⟨hF2, rfl, hq2⟩
        · try simp only [decide_eq_true_eq, decide_eq_false_iff_not, Bool.not_eq_true', Bool.not_eq_false', Bool.not_eq_eq_eq_not, Bool.not_true, Bool.not_false, beq_iff_eq, bne_iff_ne, ne_eq, beq_eq_false_iff_ne, bne_eq_false_iff_eq, gt_iff_lt, ge_iff_le, Int.not_lt, Int.not_le] at hc26
          refine c_skip (x_then ?_)
          rw [if_pos (by omega)] at hR hq2
          exact ⟨s1.adv, hq2, hSm.trans (Sm.adv (hG.pe.cm hSm.toCm)), hR, hF2, hU2, kp _ ⟨rfl, rfl, rfl, rfl, rfl, trivial⟩⟩
      · try simp only [decide_eq_true_eq, decide_eq_false_iff_not, Bool.not_eq_true', Bool.not_eq_false', Bool.not_eq_eq_eq_not, Bool.not_true, Bool.not_false, beq_iff_eq, bne_iff_ne, ne_eq, beq_eq_false_iff_ne, bne_eq_false_iff_eq, gt_iff_lt, ge_iff_le, Int.not_lt, Int.not_le] at hg22
        refine wlg_no rfl ?_
        refine wlg_no rfl ?_
        refine wlg_no rfl ?_
        refine wl (ro_pick rfl rfl rfl) ?_
        refine wl_nil (x_then (hK6 _ _ ?_))
        clear hK6 K6
        refine wc_condF rfl ?_
        refine c_skip (x_then ?_)
        rw [if_neg (by omega)] at hR
        exact ⟨s1, hP, hSm, hR, hF, hU, kp _ ⟨rfl, rfl, rfl, rfl, rfl, trivial⟩⟩
    clear hP hSm hR hF hU hX
    rintro a' u2 ⟨s2, hP, hSm, hR, hF, hU, e, rfl⟩
    refine c_seq (fun K8 hK8 => ?_)
    refine c_seq (fun K9 hK9 => ?_)
    refine c_reg ?_ -- region 5 expr.go:221
    refine wl (ro_move rfl) ?_
    refine wl (ro_lenL rfl se_188) ?_
    refine wl (ro_move rfl) ?_
    refine wl (ro_cmp rfl rfl rfl) ?_
    refine wl_nil (x_then (hK9 _ _ ?_))
    clear hK9 K9
    refine wc_cond rfl (fun hc30 => ?_) (fun hc30 => ?_)
    · try simp only [decide_eq_true_eq, decide_eq_false_iff_not, Bool.not_eq_true', Bool.not_eq_false', Bool.not_eq_eq_eq_not, Bool.not_true, Bool.not_false, beq_iff_eq, bne_iff_ne, ne_eq, beq_eq_false_iff_ne, bne_eq_false_iff_eq, gt_iff_lt, ge_iff_le, Int.not_lt, Int.not_le] at hc30
      have h40 : r = 40 ∧ ts.length = 3 := by
        rcases hr with rfl | rfl
        · rw [if_pos rfl] at hc30; exact ⟨rfl, by omega⟩
        · rw [if_neg (by decide)] at hc30; omega
      rw [if_pos h40] at hR
      cases failP_inj hR
      refine c_seq (fun K10 hK10 => ?_)
      refine c_reg ?_ -- region 6 expr.go:222
      refine wl (ro_move rfl) ?_
      refine wl_call rfl en_77 (fail77 (e := 19) hP) ?_
      rintro _ u3 ⟨rfl, hP1, F9⟩
      refine wl_nil (x_then (hK10 _ _ ?_))
      clear hK10 K10
      refine forget [] trivial (fun e => ?_)
      refine c_seq (fun K11 hK11 => ?_)
      refine c_reg ?_ -- region 7 expr.go:223
      refine wl (ro_assign rfl) ?_
      refine wl (ro_assign rfl) ?_
      refine wl_nil (x_then (hK11 _ _ ?_))
      clear hK11 K11
      refine c_ret (x_thenR (x_blkR (x_thenR (x_blkR (x_thenR ?_)))))
      refine bp_ret Tryz.results225 rfl ?_
      exact ⟨hF.trans' F9 (fun _ _ h => h), rfl, hP1⟩
    · try simp only [decide_eq_true_eq, decide_eq_false_iff_not, Bool.not_eq_true', Bool.not_eq_false', Bool.not_eq_eq_eq_not, Bool.not_true, Bool.not_false, beq_iff_eq, bne_iff_ne, ne_eq, beq_eq_false_iff_ne, bne_eq_false_iff_eq, gt_iff_lt, ge_iff_le, Int.not_lt, Int.not_le] at hc30
      have h40 : ¬ (r = 40 ∧ ts.length = 3) := by
        rintro ⟨rfl, h3⟩
        rw [if_pos rfl] at hc30; omega
      rw [if_neg h40] at hR
      refine c_skip (x_then (hK8 _ _ ?_))
      clear hK8 K8
      refine forget [(0, _), (1, _), (2, _), (3, _), (10, _)] ⟨rfl, rfl, rfl, rfl, rfl, trivial⟩ (fun e => ?_)
      refine c_seq (fun K12 hK12 => ?_)
      rcases bdP_some hR with ⟨⟨ee, pp⟩, hq, rfl⟩ | ⟨t1, s3, hq, hR⟩
      · skip
        refine c_reg ?_ -- region 8 expr.go:225
        refine wl (ro_move rfl) ?_
        refine wl (ro_move rfl) ?_
        refine wl_call rfl en_180 (ih.e0 (r := 1) ⟨hU.cx hG.cx hF, hP, hG.pe.cm hSm.toCm, hG.l13, (by rw [hSm.lo]; exact hG.lo), hρ⟩ (by decide) (by decide) (par_mono (by omega) 0 lv 1 0 dumT s2 _ hq)) ?_
        rintro v u3 ⟨F9, rfl, hE⟩
        refine wl (ro_assign rfl) ?_
        refine wl_nil (x_then (hK12 _ _ ?_))
        clear hK12 K12
        refine c_seq (fun K13 hK13 => ?_)
        refine c_seq (fun K14 hK14 => ?_)
        refine c_reg ?_ -- region 9 expr.go:226
        refine wl (ro_move rfl) ?_
        refine wl (ro_eqNilN rfl ifc_290) ?_
        refine wl_nil (x_then (hK14 _ _ ?_))
        clear hK14 K14
        refine wc_condT rfl ?_
        refine c_seq (fun K15 hK15 => ?_)
        refine c_reg ?_ -- region 10 expr.go:227
        refine wl (ro_assign rfl) ?_
        refine wl (ro_assign rfl) ?_
        refine wl_nil (x_then (hK15 _ _ ?_))
        clear hK15 K15
        refine c_ret (x_thenR (x_blkR (x_thenR (x_blkR (x_thenR ?_)))))
        refine bp_ret Tryz.results225 rfl ?_
        exact ⟨hF.trans' F9 (fun _ _ h => h), rfl, hE⟩
      · skip
        refine c_reg ?_ -- region 8 expr.go:225
        refine wl (ro_move rfl) ?_
        refine wl (ro_move rfl) ?_
        refine wl_call rfl en_180 (ih.e0 (r := 1) ⟨hU.cx hG.cx hF, hP, hG.pe.cm hSm.toCm, hG.l13, (by rw [hSm.lo]; exact hG.lo), hρ⟩ (by decide) (by decide) (par_mono (by omega) 0 lv 1 0 dumT s2 _ hq)) ?_
        rintro v u3 ⟨F9, hT1, hP2⟩
        rw [hU.n63 hF.size] at hT1
        obtain ⟨T, b, rfl⟩ := hT1.ifc (.inl rfl)
        have hSm3 : Sm s2 s3 := ((par_q g).i0 (hG.pe.cm hSm.toCm) t1 s3 hq).2.1
        replace hU := hU.thru hG.cx hF F9
        replace hF := hF.trans' F9 (fun _ _ h => h)
        refine wl (ro_assign rfl) ?_
        refine wl_nil (x_then (hK12 _ _ ?_))
        clear hK12 K12
        refine c_seq (fun K16 hK16 => ?_)
        refine c_seq (fun K17 hK17 => ?_)
        refine c_reg ?_ -- region 9 expr.go:226
        refine wl (ro_move rfl) ?_
        refine wl (ro_eqNilI rfl ifc_290) ?_
        refine wl_nil (x_then (hK17 _ _ ?_))
        clear hK17 K17
        refine wc_condF rfl ?_
        refine c_skip (x_then (hK16 _ _ ?_))
        clear hK16 K16
        refine c_reg ?_ -- region 11 expr.go:229
        refine wl (ro_move rfl) ?_
        refine wl (ro_move rfl) ?_
        refine wl_bsapp (t := 188) (et := 242) (k := 1) (cs := [.iface T (ptr b)]) rfl rfl rfl rfl se_188 zx_242 by_242 rfl rfl rfl (by simp [Value.oneCell']) hU.own (by omega) (by omega) ?_
        intro v' u5 hon G5 hnb
        have hU5 := hU.app hF.size hT1 hon G5 hnb
        have hnw := hU.new
        have hF5 := hF.trans' G5 (fun k hk q => by have := hnw k q; omega)
        have hP5 := hP2.far G5 (fun q => by have := hnw _ q; omega)
        skip
        refine wl (ro_assign rfl) ?_
        refine wl_nil (x_blk (x_then ?_))
        rcases bdP_some hR with ⟨e4, hq4, rfl⟩ | ⟨l4, s4, hq4, hR4⟩
        · exact ⟨g, by omega, ts ++ [t1], _, v', s3, .inl e4, by rw [List.length_append]; simp only [List.length_cons, List.length_nil]; omega, by rw [List.length_append]; exact hq4, rfl, hP5, hSm.trans hSm3, hF5, hU5, kp _ ⟨rfl, rfl, rfl, rfl, rfl, trivial⟩⟩
        · cases okP_inj hR4
          exact ⟨g, by omega, ts ++ [t1], _, v', s3, .inr (l4, s4), by rw [List.length_append]; simp only [List.length_cons, List.length_nil]; omega, by rw [List.length_append]; exact hq4, glue_snoc.symm, hP5, hSm.trans hSm3, hF5, hU5, kp _ ⟨rfl, rfl, rfl, rfl, rfl, trivial⟩⟩
  · try simp only [decide_eq_true_eq, decide_eq_false_iff_not, Bool.not_eq_true', Bool.not_eq_false', Bool.not_eq_eq_eq_not, Bool.not_true, Bool.not_false, beq_iff_eq, bne_iff_ne, ne_eq, beq_eq_false_iff_ne, bne_eq_false_iff_eq, gt_iff_lt, ge_iff_le, Int.not_lt, Int.not_le] at hc18
    rw [if_pos (by omega)] at hR
    cases okP_inj hR
    refine c_exit (x_thenX (x_thenX (x_blkX (x_then (hK3 _ _ ?_)))))
    clear hK4 K4 hK3 K3
    refine forget [(0, _), (10, _)] ⟨rfl, rfl, trivial⟩ (fun e => ?_)
    refine c_seq (fun K18 hK18 => ?_)
    refine c_reg ?_ -- region 12 expr.go:231
    refine wl (ro_move rfl) ?_
    refine wl_call rfl en_176 (next176 hP (hU.cx hG.cx hF).tk hne (by omega)) ?_
    rintro _ u2 ⟨rfl, hP1, F9⟩
    have hU2 := hU.thru hG.cx hF F9
    replace hF := hF.trans' F9 (fun _ _ h => h)
    refine wl_nil (x_then (hK18 _ _ ?_))
    clear hK18 K18
    refine forget [(10, _)] ⟨rfl, trivial⟩ (fun e => ?_)
    refine c_seq (fun K19 hK19 => ?_)
    refine c_reg ?_ -- region 13 expr.go:232
    refine wl (ro_move rfl) ?_
    refine wl (ro_assign rfl) ?_
    refine wl (ro_assign rfl) ?_
    refine wl_nil (x_then (hK19 _ _ ?_))
    clear hK19 K19
    refine c_ret ?_
    refine bp_ret Tryz.results225 rfl ?_
    exact ⟨hF, _, vs, rfl, hU2.done.1, hU2.done.2.exl, hP1⟩
end Go.Proofs.Qxb6500568aGreatDoor
