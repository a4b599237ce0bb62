import Derived.Test.Qxb6500568aGreatDoorZi
/- The compiler: upvalues, variables. -/
namespace Go.Proofs.Qxb6500568aGreatDoor
open Ieee
set_option linter.unusedVariables false
set_option linter.unusedSimpArgs false
set_option linter.unusedSectionVars false

section
variable {P : Program} {n : Nat} {e : Nat → Option Value} {w : World}
theorem eqUp_run {t et : TypeId} {a0 a1 c0 c1 : Int} {q : IntKind} (hu : P.underlying t = some (.array 2 et)) (hs : sizeB P et 1 = true) (hi : P.underlying et = some (.int q)) (k : Nat) :
    (Op.equalIn (k + 1 + 1) t (.agg #[.int q a0, .int q a1]) (.agg #[.int q c0, .int q c1])).run P w = .ok (a0 == c0 && a1 == c1) w := by
  have hag : ∀ w, (isAgg et).run P w = .ok false w := fun w => by unfold isAgg; simp [run_underlying hi]
  have e1 : ∀ (a c : Int), (Op.equalIn (k + 1) et (.int q a) (.int q c)).run P w = .ok (a == c) w := fun a c => Go.run_equalIn_int w k et q q a c hi
  rw [Op.equalIn]
  simp only [Sem.run_bind, run_underlying hu, Result.andThen_ok, run_sizeOf hs]
  simp only [Std.Legacy.Range.forIn_eq_forIn_range', Std.Legacy.Range.size, Nat.sub_zero, Nat.add_one_sub_one, Nat.div_one]
  simp only [show List.range' 0 2 = [0, 1] from rfl]
  by_cases h0 : a0 = c0
  · by_cases h1 : a1 = c1
    · simp [part, hag, e1, h0, h1]
    · simp [part, hag, e1, h0, h1]
  · simp [part, hag, e1, h0]
theorem ro_eqUp {t' : TypeId} {x y : Operand} {a c : Nat × Nat} (hx : evO n e x = some (.agg (upc a).toArray)) (hy : evO n e y = some (.agg (upc c).toArray)) : RO Tryz.prog n e w (.binOp .eql 205 x y t') (.bool (decide (a = c))) := by
  intro ds dst ty ps af g
  obtain ⟨hu, hs⟩ := arrB_spec ar_205
  have hg : Tryz.prog.eqGuardType Tryz.prog.depth 205 = false := by kernel_rfl
  have key := eqUp_run (P := Tryz.prog) (w := w) (a0 := a.1) (a1 := a.2) (c0 := c.1) (c1 := c.2) hu hs (intB_spec in_5) 9998
  have key' : (Op.equal 205 (.agg (upc a).toArray) (.agg (upc c).toArray)).run Tryz.prog w = .ok (((a.1 : Int) == c.1) && ((a.2 : Int) == c.2)) w := key
  have ed : decide (a = c) = (((a.1 : Int) == c.1) && ((a.2 : Int) == c.2)) := by
    rw [Bool.eq_iff_iff]
    simp only [decide_eq_true_eq, Bool.and_eq_true, beq_iff_eq]
    constructor
    · rintro rfl; exact ⟨rfl, rfl⟩
    · rintro ⟨h1, h2⟩; exact Prod.ext (by omega) (by omega)
  rw [ed]
  simp [execOp, evO_eval hx, evO_eval hy, eqGuard, hg, binOp, key']
end
theorem posP_at {α : Type} {p : α → Bool} : ∀ {l : List α} {i : Nat} {x : α}, (∀ (k : Nat) y, k < i → l[k]? = some y → p y = false) → l[i]? = some x → p x = true → posP p l = some i
  | [], i, x, _, h, _ => by simp at h
  | y :: l, 0, x, _, h, hx => by
    simp only [List.getElem?_cons_zero, Option.some.injEq] at h
    subst h
    unfold posP; rw [if_pos hx]
  | y :: l, i + 1, x, hn, h, hx => by
    unfold posP
    rw [if_neg (by rw [hn 0 y (by omega) rfl]; decide), posP_at (l := l) (i := i) (fun k z hk hz => hn (k + 1) z (by omega) hz) h hx]; rfl
theorem posP_non {α : Type} {p : α → Bool} : ∀ {l : List α}, (∀ (k : Nat) y, l[k]? = some y → p y = false) → posP p l = none
  | [], _ => rfl
  | y :: l, hn => by
    unfold posP
    rw [if_neg (by rw [hn 0 y rfl]; decide), posP_non (fun k z hz => hn (k + 1) z hz)]; rfl
/-- the functions at hand stand in one another. -/
def ChP (E : ZEnv) : List ZAct → Prop
  | [] => True
  | [f] => f.j = 0
  | f :: p :: r => f.j ≠ 0 ∧ E.pa f.j = p.j ∧ ChP E (p :: r)
def upV (o : Option Nat) : Value := match o with
  | some x => i64c x
  | none => icv (-1)
section
variable {E : ZEnv} {w w1 u1 u2 : World} {ow : Nat → Nat} {O : List Nat} {S : Fns} {f : ZAct} {q A : List ZAct} {R : List ZRow} {z : ZSl}
/-- an upvalue more. -/
theorem CM.upsS (h : CM E w ow O S A) (hfA : f ∈ A) (op : ZOp E w ow O S A f R z) {S' : Fns} {d : Nat × Nat} (hs : fsAt S' f.j = { fsAt S f.j with ups := (fsAt S f.j).ups ++ [d], upos := (fsAt S' f.j).upos }) (hS : ∀ k, k ≠ f.j → fsAt S' k = fsAt S k) {va : Option Addr} {vc : Nat} (hF : Fram none' w w1) (hon : Own u1.heap (.slice va ((fsAt S f.j).ups.length + 1) vc) 205 2 ((fsAt S f.j).ups.length + 1) (rws upc (fsAt S f.j).ups ++ upc d)) (G1 : Fram (own1 (.slice z.ua (fsAt S f.j).ups.length z.uc)) w1 u1) (hnb : nob (.slice z.ua (fsAt S f.j).ups.length z.uc) (.slice va ((fsAt S f.j).ups.length + 1) vc) w1)
    (fr : Fram (one E.gb) u1 u2) (hB : Blk u2.heap E.gb ((rws fnc R).set (f.j * 11 + 5) (.slice va ((fsAt S f.j).ups.length + 1) vc)) 199) : ZP E w ow O S' A u2 := by
  obtain ⟨x1, x2, x3⟩ := zapp3 h.ta h.gl op.ups hF hon G1 hnb fr (by have := op.j; omega)
  have hj := op.j
  have hfr := frF_of (E := E) (j := f.j) x3 (by unfold fnT; omega)
  obtain ⟨rows, p1, p2⟩ := op.lps
  have e1 : (fsAt S' f.j).ups = (fsAt S f.j).ups ++ [d] := by rw [hs]
  have e2 : (fsAt S' f.j).ks = (fsAt S f.j).ks := by rw [hs]
  have e3 : (fsAt S' f.j).np = (fsAt S f.j).np := by rw [hs]
  have e4 : (fsAt S' f.j).ns = (fsAt S f.j).ns := by rw [hs]
  refine ⟨_, x1, h.frC hj hfr, h.memb hfA hfr x1 (cut66_df _ _) op (r' := mkR E S' f { z with ua := va, uc := vc }) (op.set (o := 5) hB (by decide) ?_) ⟨op.loc.off x3 x1 h.ta (by omega) (by omega), ?_, ?_, op.code.off x3 x1 h.ta (by omega) (by omega), rows, p1.off x3 x1 h.ta (by omega) (by omega), p2.off x3 x1 h.ta (by omega)⟩ ⟨rfl, rfl, rfl, rfl, rfl, rfl, ⟨_, rfl, ?_, by rw [x1 _ op.nums.1.lt]; exact op.nums.2⟩, ⟨_, rfl, ?_, by rw [x1 _ op.strs.1.lt]; exact op.strs.2⟩⟩ hS⟩
  · unfold mkR fnc
    rw [e1, e2, e3, e4]
    simp
  · show OwT _ _ _ (.slice va (fsAt S' f.j).ups.length vc) _ _ (fsAt S' f.j).ups.length (rws upc (fsAt S' f.j).ups)
    rw [e1, rws_app, rws_one, List.length_append]
    exact x2
  · have := op.ks.off x3 x1 h.ta (by omega) (by omega)
    show OwT _ _ _ (.slice z.ka (fsAt S' f.j).ks.length z.kc) _ _ (fsAt S' f.j).ks.length (rws pvc (fsAt S' f.j).ks)
    rw [e2]; exact this
  · have := op.nums.1.fram x3 (off_ne h.ta op.nums.2 (by omega) (by omega))
    show MF _ _ _ _ (numF (fsAt S' f.j).ks)
    rw [e2]; exact this
  · have := op.strs.1.fram x3 (off_ne h.ta op.strs.2 (by omega) (by omega))
    show MF _ _ _ _ (strF (fsAt S' f.j).ks)
    rw [e2]; exact this
def UpC (E : ZEnv) (O : List Nat) (A : List ZAct) (f : ZAct) (q : List ZAct) : Prop := ∀ {w : World} {ow : Nat → Nat} {S : Fns} {nm : Str}, CM E w ow O S A → nm ≠ [] → ChOK S f.j (chn q) → Fit S f.j (chn q) [] → BD S f.j (chn q) →
    Ret Tryz.prog 256 [fptr E f.j, Go.Proofs.Qxb6500568aGreatDoor.S nm] w (fun r w' => r = upV (upvF (chn (f :: q)) nm S).1 ∧ ZP E w ow O (upvF (chn (f :: q)) nm S).2 A w')
set_option maxHeartbeats 4000000 in
theorem upv0 (hfA : f ∈ A) (hj : f.j = 0) : UpC E O A f [] := by
  intro w ow S nm hR hn hc hf hb
  obtain ⟨R_, z_, op⟩ := hR.open hfA
  have hG := op.B
  refine ret_of Tryz.func256 rfl Tryz.ntmps256 rfl ?_
  refine c_seq (fun K1 hK1 => ?_)
  refine c_reg ?_ -- region 0 fn.go:125
  refine wl (ro_assign rfl) ?_
  refine wl_nil (x_then (hK1 _ _ ?_))
  clear hK1 K1
  refine c_seq (fun K2 hK2 => ?_)
  refine c_seq (fun K3 hK3 => ?_)
  refine c_reg ?_ -- region 1 fn.go:126
  refine wl (ro_move rfl) ?_
  refine wl (ro_nilCheck rfl) ?_
  refine wl (ro_fieldAddr (k := 1) rfl fo_199_1) ?_
  refine wl (ro_loadB rfl sc_128 (hG) ((op.row 1 (by decide)).trans (by show some (parV E f.j) = some (.pointer none); unfold parV; rw [if_pos hj]))) ?_
  refine wl (ro_eqPtrNil rfl pt_128 rfl) ?_
  refine wl_nil (x_then (hK3 _ _ ?_))
  clear hK3 K3
  refine wc_condT rfl ?_
  refine c_seq (fun K4 hK4 => ?_)
  refine c_reg ?_ -- region 2 fn.go:127
  refine wl (ro_assign rfl) ?_
  refine wl_nil (x_then (hK4 _ _ ?_))
  clear hK4 K4
  refine c_ret (x_thenR ?_)
  refine bp_ret Tryz.results256 rfl ?_
  exact ⟨rfl, ow, Xt.refl _ _, Fram.refl _ _, hR⟩
set_option maxHeartbeats 8000000 in
theorem upv1 {p : ZAct} (hfA : f ∈ A) (hpA : p ∈ A) (hj : f.j ≠ 0) (hpa : E.pa f.j = p.j) (ih : UpC E O A p q) : UpC E O A f (p :: q) := by
  intro w ow S nm hR hn hc hf hb
  have hF : Fram (tg ow cpT) w w := Fram.refl _ _
  have hX : Xt w ow ow := Xt.refl _ _
  have hpar : parV E f.j = fptr E p.j := by unfold parV; rw [if_neg hj, hpa]
  have hpL : p.L.length ≤ 12 := hb.l (p.j, p.L) List.mem_cons_self
  have hjS : f.j < S.length := hf.ltj
  have e0 : upvF (chn (f :: p :: q)) nm S = match lookA (vis p.L) nm with
      | some s => let o := addUp f.j (1, s) ((posN ((vis p.L).map (·.1)) nm).getD 0) S; (some o.1, o.2)
      | none => match upvF (chn (p :: q)) nm S with
        | (none, S1) => (none, S1)
        | (some u, S1) => let o := addUp f.j (0, u) ((vis p.L).length + (fsAt S1 p.j).upos.getD u 0) S1; (some o.1, o.2) := rfl
  have hups : (fsAt S f.j).ups.length ≤ 144 := by
    obtain ⟨-, -, -, -, -, d, hd, hu⟩ := hb.f f.j
    have := hu.len; omega
  refine ret_of Tryz.func256 rfl Tryz.ntmps256 rfl ?_
  refine c_seq (fun K1 hK1 => ?_)
  refine c_reg ?_ -- region 0 fn.go:125
  refine wl (ro_assign rfl) ?_
  refine wl_nil (x_then (hK1 _ _ ?_))
  clear hK1 K1
  refine c_seq (fun K2 hK2 => ?_)
  refine c_seq (fun K3 hK3 => ?_)
  obtain ⟨R_, z_, op⟩ := hR.open hfA
  have hG := op.B
  have hC := hR.cb
  have khG := hR.ta
  have khC := hR.tc
  refine c_reg ?_ -- region 1 fn.go:126
  refine wl (ro_move rfl) ?_
  refine wl (ro_nilCheck rfl) ?_
  refine wl (ro_fieldAddr (k := 1) rfl fo_199_1) ?_
  refine wl (ro_loadB rfl sc_128 (hG) ((op.row 1 (by decide)).trans (by show some (parV E f.j) = _; rw [hpar]))) ?_
  refine wl (ro_eqPtrNil rfl pt_128 rfl) ?_
  refine wl_nil (x_then (hK3 _ _ ?_))
  clear hK3 K3
  refine wc_condF rfl ?_
  refine c_skip (x_then (hK2 _ _ ?_))
  clear hK2 K2
  refine forget [(0, _), (1, _)] ⟨rfl, rfl, trivial⟩ (fun e => ?_)
  refine c_seq (fun K4 hK4 => ?_)
  refine c_reg ?_ -- region 3 fn.go:129
  refine wl (ro_build rfl bld_205_0_1) ?_
  refine wl_new (ze_205) (fun b5 w1 hbb5 h5 F1 => ?_)
  have hbsb5 := Nat.le_trans hF.size hbb5
  have kh5 := hR.df b5 hbb5
  replace hF := hF.thenDrew.thenN F1
  replace hR := hR.thruN ((Fram.refl none' _).thenDrew.thenN F1)
  refine wl_puta rfl rfl ((by simp [Value.oneCell'])) sz_205 (rfl) h5 ((by simp)) (rfl) (fun w2 h5 F2 => ?_)
  replace hF := hF.thenDrew.thenO F2 (by first | exact .inr (by omega) | exact .inl rfl | exact .inl (by assumption) | assumption)
  replace hR := hR.hbput ((Fram.refl (one b5) _).thenDrew.thenO F2 (.inl rfl))
  refine wl_nil (x_then (hK4 _ _ ?_))
  clear hK4 K4
  refine forget [(0, _), (1, _), (5, _)] ⟨rfl, rfl, rfl, trivial⟩ (fun e => ?_)
  refine c_seq (fun K5 hK5 => ?_)
  rcases hlk : lookA (vis p.L) nm with _ | s
  · skip
    have hsl : slV p.L nm = icv (-1) := by unfold slV; rw [hlk]
    obtain ⟨R_, z_, op⟩ := hR.open hfA
    have hG := op.B
    have hC := hR.cb
    have khG := hR.ta
    have khC := hR.tc
    refine c_reg ?_ -- region 4 fn.go:130
    refine wl (ro_move rfl) ?_
    refine wl (ro_nilCheck rfl) ?_
    refine wl (ro_fieldAddr (k := 1) rfl fo_199_1) ?_
    refine wl (ro_loadB rfl sc_128 (hG) ((op.row 1 (by decide)).trans (by show some (parV E f.j) = _; rw [hpar]))) ?_
    refine wl (ro_move rfl) ?_
    refine wl_call rfl en_255 (slot255 hR hpA hn (by omega)) ?_
    rintro r0 u0 ⟨hr0, hw0⟩
    rw [hsl] at hr0
    subst hr0
    rw [hw0]
    clear hw0 u0
    refine wl (ro_assign rfl) ?_
    refine wl_nil (x_then (hK5 _ _ ?_))
    clear hK5 K5
    refine c_mid (fun a u => ∃ k1 d2 pp S1 ow1, d2 < 256 ∧ upvF (chn (f :: p :: q)) nm S = (some (addUp f.j (k1, d2) pp S1).1, (addUp f.j (k1, d2) pp S1).2) ∧ (fsAt S1 f.j).ups.length ≤ 144 ∧ f.j < S1.length ∧ Xt w ow ow1 ∧ Fram (tg ow cpT) w u ∧ CM E u ow1 O S1 A ∧ Blk u.heap b5 [u8n k1, u8n 0] 205 ∧ ow1 b5 = 66 ∧ ∃ e, a = Fr 66 (upds e [(0, fptr E f.j), (5, ptr b5), (6, i64c d2)]) []) ?_ ?_
    · skip
      refine c_seq (fun K6 hK6 => ?_)
      refine c_reg ?_ -- region 5 fn.go:131
      refine wl (ro_move rfl) ?_
      refine wl (ro_cmp rfl rfl rfl) ?_
      refine wl_nil (x_then (hK6 _ _ ?_))
      clear hK6 K6
      refine wc_condT rfl ?_
      refine c_seq (fun K7 hK7 => ?_)
      rcases hu9 : upvF (chn (p :: q)) nm S with ⟨_ | u9, S9⟩
      · skip
        have e1 : upvF (chn (f :: p :: q)) nm S = (none, S9) := by rw [e0, hlk]; simp only; rw [hu9]
        obtain ⟨R_, z_, op⟩ := hR.open hfA
        have hG := op.B
        have hC := hR.cb
        have khG := hR.ta
        have khC := hR.tc
        refine c_reg ?_ -- region 6 fn.go:132
        refine wl (ro_move rfl) ?_
        refine wl (ro_nilCheck rfl) ?_
        refine wl (ro_fieldAddr (k := 1) rfl fo_199_1) ?_
        refine wl (ro_loadB rfl sc_128 (hG) ((op.row 1 (by decide)).trans (by show some (parV E f.j) = _; rw [hpar]))) ?_
        refine wl (ro_move rfl) ?_
        refine wl_call rfl en_256 (ih hR hn hc.2 hf.tail hb.tail) ?_
        rintro r0 u8 ⟨hr0, ow8, x8, f8, r8⟩
        rw [hu9] at hr0 r8
        subst hr0
        obtain ⟨h5, kh5⟩ := cp_loc x8 f8 h5 kh5
        have hs8 := hF.size
        replace hF := cp_trans hX hF f8
        replace hX := hX.trans hs8 x8
        replace hR := r8
        refine wl (ro_assign rfl) ?_
        refine wl_nil (x_then (hK7 _ _ ?_))
        clear hK7 K7
        refine c_seq (fun K8 hK8 => ?_)
        refine c_seq (fun K9 hK9 => ?_)
        refine c_reg ?_ -- region 7 fn.go:133
        refine wl (ro_move rfl) ?_
        refine wl (ro_cmp rfl rfl rfl) ?_
        refine wl_nil (x_then (hK9 _ _ ?_))
        clear hK9 K9
        refine wc_condT rfl ?_
        refine c_seq (fun K10 hK10 => ?_)
        refine c_reg ?_ -- region 8 fn.go:134
        refine wl (ro_assign rfl) ?_
        refine wl_nil (x_then (hK10 _ _ ?_))
        clear hK10 K10
        refine c_ret (x_thenR (x_thenR ?_))
        refine bp_ret Tryz.results256 rfl ?_
        rw [e1]
        exact ⟨rfl, _, hX, hF, hR⟩
      · skip
        obtain ⟨pp, hpp⟩ : ∃ pp, pp = (vis p.L).length + (fsAt S9 p.j).upos.getD u9 0 := ⟨_, rfl⟩
        have e1 : upvF (chn (f :: p :: q)) nm S = (some (addUp f.j (0, u9) pp S9).1, (addUp f.j (0, u9) pp S9).2) := by rw [e0, hlk]; simp only; rw [hu9]; simp only; rw [hpp]
        obtain ⟨b1, b2, b3⟩ := upvF_bd (r := chn q) (j := p.j) (L := p.L) (S := S) (nm := nm) hb.tail hc.2 hf.tail
        have m1 := (upvF_ok (r := chn q) (j := p.j) (L := p.L) (S := S) (nm := nm) hc.2 hf.tail).1
        have hu9' : upvF ((p.j, p.L) :: chn q) nm S = (some u9, S9) := hu9
        rw [hu9'] at b1 b2 b3 m1
        have b1 : BD S9 p.j (chn q) := b1
        have hu9l : u9 < 256 := by
          have h1 : u9 < (fsAt S9 p.j).ups.length := b3 u9 rfl
          obtain ⟨-, -, -, -, -, d, hd, hu⟩ := b1.f p.j
          have := hu.len
          omega
        have hj9 : fsAt S9 f.j = fsAt S f.j := m1.same f.j (by simp) (nodup_tail hf.nd).1
        have hjS9 : f.j < S9.length := by rw [m1.len]; exact hjS
        obtain ⟨R_, z_, op⟩ := hR.open hfA
        have hG := op.B
        have hC := hR.cb
        have khG := hR.ta
        have khC := hR.tc
        refine c_reg ?_ -- region 6 fn.go:132
        refine wl (ro_move rfl) ?_
        refine wl (ro_nilCheck rfl) ?_
        refine wl (ro_fieldAddr (k := 1) rfl fo_199_1) ?_
        refine wl (ro_loadB rfl sc_128 (hG) ((op.row 1 (by decide)).trans (by show some (parV E f.j) = _; rw [hpar]))) ?_
        refine wl (ro_move rfl) ?_
        refine wl_call rfl en_256 (ih hR hn hc.2 hf.tail hb.tail) ?_
        rintro r0 u8 ⟨hr0, ow8, x8, f8, r8⟩
        rw [hu9] at hr0 r8
        subst hr0
        obtain ⟨h5, kh5⟩ := cp_loc x8 f8 h5 kh5
        have hs8 := hF.size
        replace hF := cp_trans hX hF f8
        replace hX := hX.trans hs8 x8
        replace hR := r8
        refine wl (ro_assign rfl) ?_
        refine wl_nil (x_then (hK7 _ _ ?_))
        clear hK7 K7
        refine c_seq (fun K11 hK11 => ?_)
        refine c_seq (fun K12 hK12 => ?_)
        refine c_reg ?_ -- region 7 fn.go:133
        refine wl (ro_move rfl) ?_
        refine wl (ro_cmp rfl rfl rfl) ?_
        refine wl_nil (x_then (hK12 _ _ ?_))
        clear hK12 K12
        refine wc_condF rfl ?_
        refine c_skip (x_then (hK11 _ _ ?_))
        clear hK11 K11
        refine c_reg ?_ -- region 9 fn.go:136
        refine wl (ro_indexAddrA (et := 5) (k := 1) rfl rfl ar_205 (rfl) ((by decide))) ?_
        refine wl_put rfl rfl rfl sz_5 h5 ((by simp)) (rfl) (fun w3 h5 F3 => ?_)
        replace hF := hF.thenDrew.thenO F3 (by first | exact .inr (by omega) | exact .inl rfl | exact .inl (by assumption) | assumption)
        replace hR := hR.hbput ((Fram.refl (one b5) _).thenDrew.thenO F3 (.inl rfl))
        refine wl_nil (x_then ?_)
        exact ⟨0, u9, pp, S9, _, hu9l, e1, by rw [hj9]; exact hups, hjS9, hX, hF, hR, h5, kh5, kp _ ⟨rfl, rfl, rfl, trivial⟩⟩
    clear hF hX hR h5 kh5
    rintro a u ⟨k1, d2, pp, S1, ow1, hd2, e1, hups1, hjS1, hX, hF, hR, h5, kh5, e, rfl⟩
    refine c_seq (fun K13 hK13 => ?_)
    refine c_reg ?_ -- region 10 fn.go:138
    refine wl (ro_move rfl) ?_
    refine wl (ro_conv rfl sc_3 in_5 (Go.IntWalk.u8_in _ (by omega))) ?_
    refine wl (ro_indexAddrA (et := 5) (k := 1) rfl rfl ar_205 (rfl) ((by decide))) ?_
    refine wl_put rfl rfl rfl sz_5 h5 ((by simp)) (rfl) (fun w4 h5 F4 => ?_)
    replace hF := hF.thenDrew.thenO F4 (by first | exact .inr (by omega) | exact .inl rfl | exact .inl (by assumption) | assumption)
    replace hR := hR.hbput ((Fram.refl (one b5) _).thenDrew.thenO F4 (.inl rfl))
    refine wl_nil (x_then (hK13 _ _ ?_))
    clear hK13 K13
    refine c_seq (fun K14 hK14 => ?_)
    refine c_seq (fun K15 hK15 => ?_)
    obtain ⟨R_, z_, op⟩ := hR.open hfA
    have hG := op.B
    have hC := hR.cb
    have khG := hR.ta
    have khC := hR.tc
    refine c_reg ?_ -- region 11 fn.go:139
    refine wl (ro_move rfl) ?_
    refine wl (ro_nilCheck rfl) ?_
    refine wl (ro_fieldAddr (k := 5) rfl fo_199_5) ?_
    refine wl (ro_loadB rfl sc_193 hG (op.row 5 (by decide))) ?_
    refine wl (ro_lenL rfl se_193) ?_
    refine wl (ro_move rfl) ?_
    have hOU := op.ups.o
    refine wl_nil (x_then (hK15 _ _ ?_))
    clear hK15 K15
    refine c_block ?_
    -- loop@r12: live slots [0, 5, 38, 39, 40]
    refine c_loopG (fun m a u2 => ∃ i, m = (fsAt S1 f.j).ups.length - i ∧ i ≤ (fsAt S1 f.j).ups.length ∧ (∀ k y, k < i → (fsAt S1 f.j).ups[k]? = some y → decide (y = (k1, d2)) = false) ∧ Fram (tg ow cpT) w u2 ∧ CM E u2 ow1 O S1 A ∧ Own u2.heap (.slice z_.ua (fsAt S1 f.j).ups.length z_.uc) 205 2 (fsAt S1 f.j).ups.length (rws upc (fsAt S1 f.j).ups) ∧ Blk u2.heap b5 (upc (k1, d2)) 205 ∧ ∃ e, a = Fr 66 (upds e [(0, fptr E f.j), (5, ptr b5), (38, .slice z_.ua (fsAt S1 f.j).ups.length z_.uc), (39, i64c (fsAt S1 f.j).ups.length), (40, i64c i)]) []) _ ⟨0, rfl, by omega, fun k y q ↦ by omega, hF, hR, hOU, h5, kp _ ⟨rfl, rfl, rfl, rfl, rfl, trivial⟩⟩ ?_
    clear hF hR hOU h5
    rintro m a u2 ⟨i, rfl, hi, hbef, hF, hR, hOU, h5, e, rfl⟩
    refine c_seq (fun K16 hK16 => ?_)
    refine c_reg ?_ -- region 12 fn.go:139
    refine wl (ro_cmp rfl rfl rfl) ?_
    refine wl_nil (x_then (hK16 _ _ ?_))
    clear hK16 K16
    refine forget [(0, _), (5, _), (38, _), (39, _), (40, _), (41, _)] ⟨rfl, rfl, rfl, rfl, rfl, rfl, trivial⟩ (fun e => ?_)
    refine c_seq (fun K17 hK17 => ?_)
    refine wc_cond rfl (fun hc41 => ?_) (fun hc41 => ?_)
    · try simp only [decide_eq_true_eq, decide_eq_false_iff_not, Bool.not_eq_true', Bool.not_eq_false', Bool.not_eq_eq_eq_not, Bool.not_true, Bool.not_false, beq_iff_eq, bne_iff_ne, ne_eq, beq_eq_false_iff_ne, bne_eq_false_iff_eq, gt_iff_lt, ge_iff_le, Int.not_lt, Int.not_le] at hc41
      obtain ⟨y, hy⟩ : ∃ y, (fsAt S1 f.j).ups[i]? = some y := ⟨_, List.getElem?_eq_getElem (by omega)⟩
      obtain ⟨gu, capu, lu, eu, hU, hu1, hu2, hu3, hu4⟩ := hOU.pos (by omega)
      have hrow : (lu.drop (0 + i * 2)).take 2 = upc y := by
        rw [Nat.zero_add, ← rws_at upc_len hy, ← hu4, List.drop_take, List.take_take]
        congr 1
        have : i * 2 + 2 ≤ (fsAt S1 f.j).ups.length * 2 := by omega
        omega
      rw [eu]
      refine c_skip (x_then (hK17 _ _ ?_))
      clear hK17 K17
      refine forget [(0, _), (5, _), (38, _), (39, _), (40, _)] ⟨rfl, rfl, rfl, rfl, rfl, trivial⟩ (fun e => ?_)
      refine c_seq (fun K18 hK18 => ?_)
      refine c_block ?_
      refine c_seq (fun K19 hK19 => ?_)
      have khU : True := trivial
      refine c_reg ?_ -- region 13 fn.go:139
      refine wl (ro_move rfl) ?_
      refine wl (ro_indexAddr (et := 205) (k := 2) rfl rfl se_193 rfl (by omega)) ?_
      refine wl (ro_loadAggB rfl ag_205 (hU) (rfl) (hrow)) ?_
      refine wl_new (ze_205) (fun b8 w5 hbb8 h8 F5 => ?_)
      have hbsb8 := Nat.le_trans hF.size hbb8
      have hneb5b8 : b5 < b8 := Nat.lt_of_lt_of_le h5.lt hbb8
      have hnegub8 : gu < b8 := Nat.lt_of_lt_of_le hU.lt hbb8
      have kh8 := hR.df b8 hbb8
      replace hF := hF.thenDrew.thenN F5
      replace hR := hR.thruN ((Fram.refl none' _).thenDrew.thenN F5)
      replace h5 := F5.blkN h5
      replace hU := F5.blkN hU
      refine wl (ro_assign rfl) ?_
      refine wl_puta rfl rfl ((upc_one _)) sz_205 (rfl) h8 ((by simp)) (rfl) (fun w6 h8 F6 => ?_)
      replace hF := hF.thenDrew.thenO F6 (by first | exact .inr (by omega) | exact .inl rfl | exact .inl (by assumption) | assumption)
      replace hR := hR.hbput ((Fram.refl (one b8) _).thenDrew.thenO F6 (.inl rfl))
      replace h5 := F6.blkO h5 (by first | omega | exact ow_ne (by assumption) (by assumption) (by omega))
      replace hU := F6.blkO hU (by first | omega | exact ow_ne (by assumption) (by assumption) (by omega))
      refine wl_nil (x_then (hK19 _ _ ?_))
      clear hK19 K19
      refine forget [(0, _), (5, _), (7, _), (8, _), (38, _), (39, _), (40, _)] ⟨rfl, rfl, rfl, rfl, rfl, rfl, rfl, trivial⟩ (fun e => ?_)
      refine c_seq (fun K20 hK20 => ?_)
      refine c_reg ?_ -- region 14 fn.go:140
      refine wl (ro_loadAggB rfl ag_205 (h8) (rfl) (rfl)) ?_
      refine wl (ro_loadAggB rfl ag_205 (h5) (rfl) (rfl)) ?_
      refine wl (ro_eqUp (a := y) (c := (k1, d2)) rfl rfl) ?_
      refine wl_nil (x_then (hK20 _ _ ?_))
      clear hK20 K20
      refine wc_cond rfl (fun hc47 => ?_) (fun hc47 => ?_)
      · try simp only [decide_eq_true_eq, decide_eq_false_iff_not, Bool.not_eq_true', Bool.not_eq_false', Bool.not_eq_eq_eq_not, Bool.not_true, Bool.not_false, beq_iff_eq, bne_iff_ne, ne_eq, beq_eq_false_iff_ne, bne_eq_false_iff_eq, gt_iff_lt, ge_iff_le, Int.not_lt, Int.not_le] at hc47
        have hpos : posP (fun e => decide (e = (k1, d2))) (fsAt S1 f.j).ups = some i := posP_at hbef hy (by rw [hc47]; simp)
        have ha : addUp f.j (k1, d2) pp S1 = (i, S1) := by unfold addUp; rw [hpos]
        refine c_seq (fun K21 hK21 => ?_)
        refine c_reg ?_ -- region 15 fn.go:141
        refine wl (ro_move rfl) ?_
        refine wl (ro_assign rfl) ?_
        refine wl_nil (x_then (hK21 _ _ ?_))
        clear hK21 K21
        refine c_ret (x_blkR (x_thenR (x_thenR (x_blkR (x_thenR ?_)))))
        refine bp_ret Tryz.results256 rfl ?_
        rw [e1, ha]
        exact ⟨rfl, _, hX, hF, hR⟩
      · try simp only [decide_eq_true_eq, decide_eq_false_iff_not, Bool.not_eq_true', Bool.not_eq_false', Bool.not_eq_eq_eq_not, Bool.not_true, Bool.not_false, beq_iff_eq, bne_iff_ne, ne_eq, beq_eq_false_iff_ne, bne_eq_false_iff_eq, gt_iff_lt, ge_iff_le, Int.not_lt, Int.not_le] at hc47
        refine c_skip (x_blk (x_then (hK18 _ _ ?_)))
        clear hK18 K18
        refine c_reg ?_ -- region 16 fn.go:139
        refine wl (ro_arith rfl rfl rfl (Go.IntWalk.i64_in _ (by omega))) ?_
        refine wl (ro_move rfl) ?_
        refine wl_nil (x_then ?_)
        rw [eu]
        exact ⟨(fsAt S1 f.j).ups.length - (i + 1), by omega, i + 1, rfl, by omega, fun k y' hk hy' ↦ by
          rcases Nat.lt_or_ge k i with hlt | hge
          · exact hbef k y' hlt hy'
          · have : k = i := by omega
            subst this
            rw [hy] at hy'
            cases hy'
            exact decide_eq_false hc47, hF, hR, ⟨hOU.1, .inr ⟨gu, capu, lu, rfl, hU, hu1, hu2, hu3, hu4⟩⟩, h5, kp _ ⟨rfl, rfl, rfl, rfl, rfl, trivial⟩⟩
    · try simp only [decide_eq_true_eq, decide_eq_false_iff_not, Bool.not_eq_true', Bool.not_eq_false', Bool.not_eq_eq_eq_not, Bool.not_true, Bool.not_false, beq_iff_eq, bne_iff_ne, ne_eq, beq_eq_false_iff_ne, bne_eq_false_iff_eq, gt_iff_lt, ge_iff_le, Int.not_lt, Int.not_le] at hc41
      have hi9 : i = (fsAt S1 f.j).ups.length := by omega
      have hpos : posP (fun e => decide (e = (k1, d2))) (fsAt S1 f.j).ups = none := posP_non (fun k y hy ↦ hbef k y (by have := (List.getElem?_eq_some_iff.1 hy).1; omega) hy)
      have ha : addUp f.j (k1, d2) pp S1 = ((fsAt S1 f.j).ups.length, S1.modify f.j fun f => { f with ups := f.ups ++ [(k1, d2)], upos := f.upos ++ [pp] }) := by unfold addUp; rw [hpos]
      refine c_exit (x_thenX (x_thenX (x_blkX (x_then (hK14 _ _ ?_)))))
      clear hK17 K17 hK14 K14
      refine forget [(0, _), (5, _)] ⟨rfl, rfl, trivial⟩ (fun e => ?_)
      refine c_seq (fun K22 hK22 => ?_)
      obtain ⟨R_, z_, op⟩ := hR.open hfA
      have hG := op.B
      have hC := hR.cb
      have khG := hR.ta
      have khC := hR.tc
      have hob : ∀ c, own1 (.slice z_.ua (fsAt S1 f.j).ups.length z_.uc) c → c ≠ E.gb ∧ c ≠ b5 := fun c y ↦ ⟨fun e ↦ by have h1 := op.ups.t _ y; have h2 := hR.ta; have := op.j; rw [e] at h1; omega, fun e ↦ by have h1 := op.ups.t _ y; rw [e] at h1; omega⟩
      have hF9 := hF
      have hne59 : b5 ≠ E.gb := fun e ↦ by have h2 := hR.ta; rw [e] at kh5; omega
      refine c_piL 10 [(0, false), (1, false), (2, false), (3, false), (4, false), (5, false), (6, true), (7, true), (8, false), (9, false)] (fun u => Blk u.heap E.gb (rws fnc R_) 199 ∧ Blk u.heap b5 (upc (k1, d2)) 205) mixed (by kernel_rfl) rfl (by kernel_rfl) (po_then (po_bp)) (⟨hG, h5⟩) ?_ -- region 17 fn.go:144
      refine ql_ro rfl (fun w hS => ro_move rfl) ?_
      refine ql_ro rfl (fun w hS => ro_move rfl) ?_
      refine ql_ro rfl (fun w hS => ro_nilCheck rfl) ?_
      refine ql_ro rfl (fun w hS => ro_fieldAddr (k := 5) rfl fo_199_5) ?_
      refine ql_ro rfl (fun w hS => ro_loadB rfl sc_193 (hS.1) (op.row 5 (by decide))) ?_
      refine ql_ro rfl (fun w hS => ro_loadAggB rfl ag_205 (hS.2) (rfl) (rfl)) ?_
      refine ql_bsapp (t := 193) (et := 205) (k := 2) (m := (fsAt S1 f.j).ups.length) (cs := upc (k1, d2)) rfl rfl rfl rfl rfl rfl se_193 zx_205 by_205 rfl rfl rfl (upc_one _) (op.ups.o.fram ((Fram.refl none' _).thenDrew) (fun _ _ h ↦ h)) (by omega) (by omega) (fun w1 F ↦ ⟨F.blkN hG, F.blkN h5⟩) (fun w1 F ↦ ⟨F.blkF hG (fun q ↦ (hob _ q).1 rfl), F.blkF h5 (fun q ↦ (hob _ q).2 rfl)⟩) ?_
      intro v' u9 hon G1 hnb
      obtain ⟨va, vc, rfl⟩ := hon.form
      replace hG := G1.blkF hG (fun q ↦ (hob _ q).1 rfl)
      skip
      refine ql_ro rfl (fun w hS => ro_nilCheck rfl) ?_
      refine ql_ro rfl (fun w hS => ro_fieldAddr (k := 5) rfl fo_199_5) ?_
      refine ql_put rfl rfl rfl rfl sz_193 hG ((by show _ < (rws fnc R_).length; rw [rws_len fnc_len, op.l]; have := op.j; omega)) (rfl) (fun w7 hG F7 => ?_)
      have hF3 := (F7)
      refine x_then (hK22 _ _ ?_)
      clear hK22 K22
      refine forget [(0, _)] ⟨rfl, trivial⟩ (fun e => ?_)
      refine c_seq (fun K23 hK23 => ?_)
      refine c_reg ?_ -- region 18 fn.go:145
      refine wl (ro_move rfl) ?_
      refine wl (ro_nilCheck rfl) ?_
      refine wl (ro_fieldAddr (k := 5) rfl fo_199_5) ?_
      refine wl (ro_loadB rfl sc_193 (hG) ((by rw [List.getElem?_set_self (by rw [rws_len fnc_len, op.l]; have := op.j; omega)]))) ?_
      refine wl (ro_lenL rfl se_193) ?_
      refine wl (ro_arith rfl rfl rfl (Go.IntWalk.i64_in _ (by omega))) ?_
      refine wl (ro_assign rfl) ?_
      refine wl_nil (x_then (hK23 _ _ ?_))
      clear hK23 K23
      refine c_ret ?_
      refine bp_ret Tryz.results256 rfl ?_
      rw [e1, ha]
      refine ⟨?_, ZP.tr hX hF9 (hR.upsS hfA op (d := (k1, d2)) ?_ (fun k hk ↦ by rw [fsAt_mod hjS1, if_neg hk]) ((Fram.refl none' _).thenDrew) hon G1 hnb hF3 hG)⟩
      · show Value.int .i64 _ = Value.int .i64 _
        congr 1
        omega
      · rw [fsAt_mod hjS1, if_pos rfl]
  · skip
    have hsl : slV p.L nm = i64c s := by unfold slV; rw [hlk]
    have hs12 := lookA_lt hlk
    obtain ⟨R_, z_, op⟩ := hR.open hfA
    have hG := op.B
    have hC := hR.cb
    have khG := hR.ta
    have khC := hR.tc
    refine c_reg ?_ -- region 4 fn.go:130
    refine wl (ro_move rfl) ?_
    refine wl (ro_nilCheck rfl) ?_
    refine wl (ro_fieldAddr (k := 1) rfl fo_199_1) ?_
    refine wl (ro_loadB rfl sc_128 (hG) ((op.row 1 (by decide)).trans (by show some (parV E f.j) = _; rw [hpar]))) ?_
    refine wl (ro_move rfl) ?_
    refine wl_call rfl en_255 (slot255 hR hpA hn (by omega)) ?_
    rintro r0 u0 ⟨hr0, hw0⟩
    rw [hsl] at hr0
    subst hr0
    rw [hw0]
    clear hw0 u0
    refine wl (ro_assign rfl) ?_
    refine wl_nil (x_then (hK5 _ _ ?_))
    clear hK5 K5
    refine c_mid (fun a u => ∃ k1 d2 pp S1 ow1, d2 < 256 ∧ upvF (chn (f :: p :: q)) nm S = (some (addUp f.j (k1, d2) pp S1).1, (addUp f.j (k1, d2) pp S1).2) ∧ (fsAt S1 f.j).ups.length ≤ 144 ∧ f.j < S1.length ∧ Xt w ow ow1 ∧ Fram (tg ow cpT) w u ∧ CM E u ow1 O S1 A ∧ Blk u.heap b5 [u8n k1, u8n 0] 205 ∧ ow1 b5 = 66 ∧ ∃ e, a = Fr 66 (upds e [(0, fptr E f.j), (5, ptr b5), (6, i64c d2)]) []) ?_ ?_
    · skip
      refine c_seq (fun K24 hK24 => ?_)
      refine c_reg ?_ -- region 5 fn.go:131
      refine wl (ro_move rfl) ?_
      refine wl (ro_cmp rfl rfl rfl) ?_
      refine wl_nil (x_then (hK24 _ _ ?_))
      clear hK24 K24
      refine wc_condF rfl ?_
      refine c_skip (x_then ?_)
      exact ⟨1, s, _, S, _, by omega, by rw [e0, hlk], hups, hjS, hX, hF, hR, h5, kh5, kp _ ⟨rfl, rfl, rfl, trivial⟩⟩
    clear hF hX hR h5 kh5
    rintro a u ⟨k1, d2, pp, S1, ow1, hd2, e1, hups1, hjS1, hX, hF, hR, h5, kh5, e, rfl⟩
    refine c_seq (fun K25 hK25 => ?_)
    refine c_reg ?_ -- region 10 fn.go:138
    refine wl (ro_move rfl) ?_
    refine wl (ro_conv rfl sc_3 in_5 (Go.IntWalk.u8_in _ (by omega))) ?_
    refine wl (ro_indexAddrA (et := 5) (k := 1) rfl rfl ar_205 (rfl) ((by decide))) ?_
    refine wl_put rfl rfl rfl sz_5 h5 ((by simp)) (rfl) (fun w8 h5 F8 => ?_)
    replace hF := hF.thenDrew.thenO F8 (by first | exact .inr (by omega) | exact .inl rfl | exact .inl (by assumption) | assumption)
    replace hR := hR.hbput ((Fram.refl (one b5) _).thenDrew.thenO F8 (.inl rfl))
    refine wl_nil (x_then (hK25 _ _ ?_))
    clear hK25 K25
    refine c_seq (fun K26 hK26 => ?_)
    refine c_seq (fun K27 hK27 => ?_)
    obtain ⟨R_, z_, op⟩ := hR.open hfA
    have hG := op.B
    have hC := hR.cb
    have khG := hR.ta
    have khC := hR.tc
    refine c_reg ?_ -- region 11 fn.go:139
    refine wl (ro_move rfl) ?_
    refine wl (ro_nilCheck rfl) ?_
    refine wl (ro_fieldAddr (k := 5) rfl fo_199_5) ?_
    refine wl (ro_loadB rfl sc_193 hG (op.row 5 (by decide))) ?_
    refine wl (ro_lenL rfl se_193) ?_
    refine wl (ro_move rfl) ?_
    have hOU := op.ups.o
    refine wl_nil (x_then (hK27 _ _ ?_))
    clear hK27 K27
    refine c_block ?_
    -- loop@r12: live slots [0, 5, 38, 39, 40]
    refine c_loopG (fun m a u2 => ∃ i, m = (fsAt S1 f.j).ups.length - i ∧ i ≤ (fsAt S1 f.j).ups.length ∧ (∀ k y, k < i → (fsAt S1 f.j).ups[k]? = some y → decide (y = (k1, d2)) = false) ∧ Fram (tg ow cpT) w u2 ∧ CM E u2 ow1 O S1 A ∧ Own u2.heap (.slice z_.ua (fsAt S1 f.j).ups.length z_.uc) 205 2 (fsAt S1 f.j).ups.length (rws upc (fsAt S1 f.j).ups) ∧ Blk u2.heap b5 (upc (k1, d2)) 205 ∧ ∃ e, a = Fr 66 (upds e [(0, fptr E f.j), (5, ptr b5), (38, .slice z_.ua (fsAt S1 f.j).ups.length z_.uc), (39, i64c (fsAt S1 f.j).ups.length), (40, i64c i)]) []) _ ⟨0, rfl, by omega, fun k y q ↦ by omega, hF, hR, hOU, h5, kp _ ⟨rfl, rfl, rfl, rfl, rfl, trivial⟩⟩ ?_
    clear hF hR hOU h5
    rintro m a u2 ⟨i, rfl, hi, hbef, hF, hR, hOU, h5, e, rfl⟩
    refine c_seq (fun K28 hK28 => ?_)
    refine c_reg ?_ -- region 12 fn.go:139
    refine wl (ro_cmp rfl rfl rfl) ?_
    refine wl_nil (x_then (hK28 _ _ ?_))
    clear hK28 K28
    refine forget [(0, _), (5, _), (38, _), (39, _), (40, _), (41, _)] ⟨rfl, rfl, rfl, rfl, rfl, rfl, trivial⟩ (fun e => ?_)
    refine c_seq (fun K29 hK29 => ?_)
    refine wc_cond rfl (fun hc41 => ?_) (fun hc41 => ?_)
    · try simp only [decide_eq_true_eq, decide_eq_false_iff_not, Bool.not_eq_true', Bool.not_eq_false', Bool.not_eq_eq_eq_not, Bool.not_true, Bool.not_false, beq_iff_eq, bne_iff_ne, ne_eq, beq_eq_false_iff_ne, bne_eq_false_iff_eq, gt_iff_lt, ge_iff_le, Int.not_lt, Int.not_le] at hc41
      obtain ⟨y, hy⟩ : ∃ y, (fsAt S1 f.j).ups[i]? = some y := ⟨_, List.getElem?_eq_getElem (by omega)⟩
      obtain ⟨gu, capu, lu, eu, hU, hu1, hu2, hu3, hu4⟩ := hOU.pos (by omega)
      have hrow : (lu.drop (0 + i * 2)).take 2 = upc y := by
        rw [Nat.zero_add, ← rws_at upc_len hy, ← hu4, List.drop_take, List.take_take]
        congr 1
        have : i * 2 + 2 ≤ (fsAt S1 f.j).ups.length * 2 := by omega
        omega
      rw [eu]
      refine c_skip (x_then (hK29 _ _ ?_))
      clear hK29 K29
      refine forget [(0, _), (5, _), (38, _), (39, _), (40, _)] ⟨rfl, rfl, rfl, rfl, rfl, trivial⟩ (fun e => ?_)
      refine c_seq (fun K30 hK30 => ?_)
      refine c_block ?_
      refine c_seq (fun K31 hK31 => ?_)
      have khU : True := trivial
      refine c_reg ?_ -- region 13 fn.go:139
      refine wl (ro_move rfl) ?_
      refine wl (ro_indexAddr (et := 205) (k := 2) rfl rfl se_193 rfl (by omega)) ?_
      refine wl (ro_loadAggB rfl ag_205 (hU) (rfl) (hrow)) ?_
      refine wl_new (ze_205) (fun b8 w9 hbb8 h8 F9 => ?_)
      have hbsb8 := Nat.le_trans hF.size hbb8
      have hneb5b8 : b5 < b8 := Nat.lt_of_lt_of_le h5.lt hbb8
      have hnegub8 : gu < b8 := Nat.lt_of_lt_of_le hU.lt hbb8
      have kh8 := hR.df b8 hbb8
      replace hF := hF.thenDrew.thenN F9
      replace hR := hR.thruN ((Fram.refl none' _).thenDrew.thenN F9)
      replace h5 := F9.blkN h5
      replace hU := F9.blkN hU
      refine wl (ro_assign rfl) ?_
      refine wl_puta rfl rfl ((upc_one _)) sz_205 (rfl) h8 ((by simp)) (rfl) (fun w10 h8 F10 => ?_)
      replace hF := hF.thenDrew.thenO F10 (by first | exact .inr (by omega) | exact .inl rfl | exact .inl (by assumption) | assumption)
      replace hR := hR.hbput ((Fram.refl (one b8) _).thenDrew.thenO F10 (.inl rfl))
      replace h5 := F10.blkO h5 (by first | omega | exact ow_ne (by assumption) (by assumption) (by omega))
      replace hU := F10.blkO hU (by first | omega | exact ow_ne (by assumption) (by assumption) (by omega))
      refine wl_nil (x_then (hK31 _ _ ?_))
      clear hK31 K31
      refine forget [(0, _), (5, _), (7, _), (8, _), (38, _), (39, _), (40, _)] ⟨rfl, rfl, rfl, rfl, rfl, rfl, rfl, trivial⟩ (fun e => ?_)
      refine c_seq (fun K32 hK32 => ?_)
      refine c_reg ?_ -- region 14 fn.go:140
      refine wl (ro_loadAggB rfl ag_205 (h8) (rfl) (rfl)) ?_
      refine wl (ro_loadAggB rfl ag_205 (h5) (rfl) (rfl)) ?_
      refine wl (ro_eqUp (a := y) (c := (k1, d2)) rfl rfl) ?_
      refine wl_nil (x_then (hK32 _ _ ?_))
      clear hK32 K32
      refine wc_cond rfl (fun hc47 => ?_) (fun hc47 => ?_)
      · try simp only [decide_eq_true_eq, decide_eq_false_iff_not, Bool.not_eq_true', Bool.not_eq_false', Bool.not_eq_eq_eq_not, Bool.not_true, Bool.not_false, beq_iff_eq, bne_iff_ne, ne_eq, beq_eq_false_iff_ne, bne_eq_false_iff_eq, gt_iff_lt, ge_iff_le, Int.not_lt, Int.not_le] at hc47
        have hpos : posP (fun e => decide (e = (k1, d2))) (fsAt S1 f.j).ups = some i := posP_at hbef hy (by rw [hc47]; simp)
        have ha : addUp f.j (k1, d2) pp S1 = (i, S1) := by unfold addUp; rw [hpos]
        refine c_seq (fun K33 hK33 => ?_)
        refine c_reg ?_ -- region 15 fn.go:141
        refine wl (ro_move rfl) ?_
        refine wl (ro_assign rfl) ?_
        refine wl_nil (x_then (hK33 _ _ ?_))
        clear hK33 K33
        refine c_ret (x_blkR (x_thenR (x_thenR (x_blkR (x_thenR ?_)))))
        refine bp_ret Tryz.results256 rfl ?_
        rw [e1, ha]
        exact ⟨rfl, _, hX, hF, hR⟩
      · try simp only [decide_eq_true_eq, decide_eq_false_iff_not, Bool.not_eq_true', Bool.not_eq_false', Bool.not_eq_eq_eq_not, Bool.not_true, Bool.not_false, beq_iff_eq, bne_iff_ne, ne_eq, beq_eq_false_iff_ne, bne_eq_false_iff_eq, gt_iff_lt, ge_iff_le, Int.not_lt, Int.not_le] at hc47
        refine c_skip (x_blk (x_then (hK30 _ _ ?_)))
        clear hK30 K30
        refine c_reg ?_ -- region 16 fn.go:139
        refine wl (ro_arith rfl rfl rfl (Go.IntWalk.i64_in _ (by omega))) ?_
        refine wl (ro_move rfl) ?_
        refine wl_nil (x_then ?_)
        rw [eu]
        exact ⟨(fsAt S1 f.j).ups.length - (i + 1), by omega, i + 1, rfl, by omega, fun k y' hk hy' ↦ by
          rcases Nat.lt_or_ge k i with hlt | hge
          · exact hbef k y' hlt hy'
          · have : k = i := by omega
            subst this
            rw [hy] at hy'
            cases hy'
            exact decide_eq_false hc47, hF, hR, ⟨hOU.1, .inr ⟨gu, capu, lu, rfl, hU, hu1, hu2, hu3, hu4⟩⟩, h5, kp _ ⟨rfl, rfl, rfl, rfl, rfl, trivial⟩⟩
    · try simp only [decide_eq_true_eq, decide_eq_false_iff_not, Bool.not_eq_true', Bool.not_eq_false', Bool.not_eq_eq_eq_not, Bool.not_true, Bool.not_false, beq_iff_eq, bne_iff_ne, ne_eq, beq_eq_false_iff_ne, bne_eq_false_iff_eq, gt_iff_lt, ge_iff_le, Int.not_lt, Int.not_le] at hc41
      have hi9 : i = (fsAt S1 f.j).ups.length := by omega
      have hpos : posP (fun e => decide (e = (k1, d2))) (fsAt S1 f.j).ups = none := posP_non (fun k y hy ↦ hbef k y (by have := (List.getElem?_eq_some_iff.1 hy).1; omega) hy)
      have ha : addUp f.j (k1, d2) pp S1 = ((fsAt S1 f.j).ups.length, S1.modify f.j fun f => { f with ups := f.ups ++ [(k1, d2)], upos := f.upos ++ [pp] }) := by unfold addUp; rw [hpos]
      refine c_exit (x_thenX (x_thenX (x_blkX (x_then (hK26 _ _ ?_)))))
      clear hK29 K29 hK26 K26
      refine forget [(0, _), (5, _)] ⟨rfl, rfl, trivial⟩ (fun e => ?_)
      refine c_seq (fun K34 hK34 => ?_)
      obtain ⟨R_, z_, op⟩ := hR.open hfA
      have hG := op.B
      have hC := hR.cb
      have khG := hR.ta
      have khC := hR.tc
      have hob : ∀ c, own1 (.slice z_.ua (fsAt S1 f.j).ups.length z_.uc) c → c ≠ E.gb ∧ c ≠ b5 := fun c y ↦ ⟨fun e ↦ by have h1 := op.ups.t _ y; have h2 := hR.ta; have := op.j; rw [e] at h1; omega, fun e ↦ by have h1 := op.ups.t _ y; rw [e] at h1; omega⟩
      have hF9 := hF
      have hne59 : b5 ≠ E.gb := fun e ↦ by have h2 := hR.ta; rw [e] at kh5; omega
      refine c_piL 10 [(0, false), (1, false), (2, false), (3, false), (4, false), (5, false), (6, true), (7, true), (8, false), (9, false)] (fun u => Blk u.heap E.gb (rws fnc R_) 199 ∧ Blk u.heap b5 (upc (k1, d2)) 205) mixed (by kernel_rfl) rfl (by kernel_rfl) (po_then (po_bp)) (⟨hG, h5⟩) ?_ -- region 17 fn.go:144
      refine ql_ro rfl (fun w hS => ro_move rfl) ?_
      refine ql_ro rfl (fun w hS => ro_move rfl) ?_
      refine ql_ro rfl (fun w hS => ro_nilCheck rfl) ?_
      refine ql_ro rfl (fun w hS => ro_fieldAddr (k := 5) rfl fo_199_5) ?_
      refine ql_ro rfl (fun w hS => ro_loadB rfl sc_193 (hS.1) (op.row 5 (by decide))) ?_
      refine ql_ro rfl (fun w hS => ro_loadAggB rfl ag_205 (hS.2) (rfl) (rfl)) ?_
      refine ql_bsapp (t := 193) (et := 205) (k := 2) (m := (fsAt S1 f.j).ups.length) (cs := upc (k1, d2)) rfl rfl rfl rfl rfl rfl se_193 zx_205 by_205 rfl rfl rfl (upc_one _) (op.ups.o.fram ((Fram.refl none' _).thenDrew) (fun _ _ h ↦ h)) (by omega) (by omega) (fun w1 F ↦ ⟨F.blkN hG, F.blkN h5⟩) (fun w1 F ↦ ⟨F.blkF hG (fun q ↦ (hob _ q).1 rfl), F.blkF h5 (fun q ↦ (hob _ q).2 rfl)⟩) ?_
      intro v' u9 hon G1 hnb
      obtain ⟨va, vc, rfl⟩ := hon.form
      replace hG := G1.blkF hG (fun q ↦ (hob _ q).1 rfl)
      skip
      refine ql_ro rfl (fun w hS => ro_nilCheck rfl) ?_
      refine ql_ro rfl (fun w hS => ro_fieldAddr (k := 5) rfl fo_199_5) ?_
      refine ql_put rfl rfl rfl rfl sz_193 hG ((by show _ < (rws fnc R_).length; rw [rws_len fnc_len, op.l]; have := op.j; omega)) (rfl) (fun w11 hG F11 => ?_)
      have hF3 := (F11)
      refine x_then (hK34 _ _ ?_)
      clear hK34 K34
      refine forget [(0, _)] ⟨rfl, trivial⟩ (fun e => ?_)
      refine c_seq (fun K35 hK35 => ?_)
      refine c_reg ?_ -- region 18 fn.go:145
      refine wl (ro_move rfl) ?_
      refine wl (ro_nilCheck rfl) ?_
      refine wl (ro_fieldAddr (k := 5) rfl fo_199_5) ?_
      refine wl (ro_loadB rfl sc_193 (hG) ((by rw [List.getElem?_set_self (by rw [rws_len fnc_len, op.l]; have := op.j; omega)]))) ?_
      refine wl (ro_lenL rfl se_193) ?_
      refine wl (ro_arith rfl rfl rfl (Go.IntWalk.i64_in _ (by omega))) ?_
      refine wl (ro_assign rfl) ?_
      refine wl_nil (x_then (hK35 _ _ ?_))
      clear hK35 K35
      refine c_ret ?_
      refine bp_ret Tryz.results256 rfl ?_
      rw [e1, ha]
      refine ⟨?_, ZP.tr hX hF9 (hR.upsS hfA op (d := (k1, d2)) ?_ (fun k hk ↦ by rw [fsAt_mod hjS1, if_neg hk]) ((Fram.refl none' _).thenDrew) hon G1 hnb hF3 hG)⟩
      · show Value.int .i64 _ = Value.int .i64 _
        congr 1
        omega
      · rw [fsAt_mod hjS1, if_pos rfl]
theorem upvalue256 : ∀ {q : List ZAct} {f : ZAct}, (f :: q) <:+ A → ChP E (f :: q) → UpC E O A f q
  | [], f, hs, hc => upv0 (hs.subset List.mem_cons_self) hc
  | p :: q, f, hs, hc => upv1 (hs.subset List.mem_cons_self) (hs.subset (by simp)) hc.1 hc.2.1 (upvalue256 (List.IsSuffix.trans (List.suffix_cons _ _) hs) hc.2.2)
theorem varF_eq {l u g j : Nat} {L : List Str} {r : Chn} {nm : Str} {S : Fns} : varF l u g ((j, L) :: r) nm S = match lookA (vis L) nm with
    | some s => ((l, s), S)
    | none => match upvF ((j, L) :: r) nm S with
      | (some x, S1) => ((u, x), S1)
      | (none, S1) => ((g, (conF j (vStr nm) S1).1), (conF j (vStr nm) S1).2) := rfl
set_option maxHeartbeats 8000000 in
theorem variable230 (hR : CM E w ow O S (f :: q)) {nm : Str} {l u g : Nat} (hn : nm ≠ []) (hch : ChP E (f :: q)) (hc : ChOK S f.j (chn q)) (hf : Fit S f.j (chn q) []) (hb : BD S f.j (chn q)) (hL : f.L.length ≤ 12) (hcl : f.code.length ≤ 50000) (ht : tot S ≤ 60000) :
    Ret Tryz.prog 230 [fptr E f.j, Go.Proofs.Qxb6500568aGreatDoor.S nm, u8n l, u8n u, u8n g] w (fun r w' => r = .tuple #[] ∧ ZP E w ow O (varF l u g (chn (f :: q)) nm S).2 ({ f with code := f.code ++ [(varF l u g (chn (f :: q)) nm S).1] } :: q) w') := by
  have hF : Fram (tg ow cpT) w w := Fram.refl _ _
  have hX : Xt w ow ow := Xt.refl _ _
  have e0 : varF l u g (chn (f :: q)) nm S = match lookA (vis f.L) nm with
    | some s => ((l, s), S)
    | none => match upvF (chn (f :: q)) nm S with
      | (some x, S1) => ((u, x), S1)
      | (none, S1) => ((g, (conF f.j (vStr nm) S1).1), (conF f.j (vStr nm) S1).2) := rfl
  refine ret_of Tryz.func230 rfl Tryz.ntmps230 rfl ?_
  refine c_seq (fun K1 hK1 => ?_)
  rcases hlk : lookA (vis f.L) nm with _ | s
  · skip
    have hsl : slV f.L nm = icv (-1) := by unfold slV; rw [hlk]
    refine c_reg ?_ -- region 0 fn.go:150
    refine wl (ro_move rfl) ?_
    refine wl (ro_move rfl) ?_
    refine wl_call rfl en_255 (slot255 hR List.mem_cons_self hn (by omega)) ?_
    rintro r0 u0 ⟨hr0, hw0⟩
    rw [hsl] at hr0
    subst hr0
    rw [hw0]
    clear hw0 u0
    refine wl (ro_assign rfl) ?_
    refine wl_nil (x_then (hK1 _ _ ?_))
    clear hK1 K1
    refine c_seq (fun K2 hK2 => ?_)
    refine c_seq (fun K3 hK3 => ?_)
    refine c_reg ?_ -- region 1 fn.go:151
    refine wl (ro_move rfl) ?_
    refine wl (ro_cmp rfl rfl rfl) ?_
    refine wl_nil (x_then (hK3 _ _ ?_))
    clear hK3 K3
    refine wc_condF rfl ?_
    refine c_skip (x_then (hK2 _ _ ?_))
    clear hK2 K2
    refine forget [(0, _), (1, _), (3, _), (4, _)] ⟨rfl, rfl, rfl, rfl, trivial⟩ (fun e => ?_)
    refine c_seq (fun K4 hK4 => ?_)
    rcases hu9 : upvF (chn (f :: q)) nm S with ⟨_ | u9, S9⟩
    · skip
      have e1 : varF l u g (chn (f :: q)) nm S = ((g, (conF f.j (vStr nm) S9).1), (conF f.j (vStr nm) S9).2) := by
        rw [e0, hlk]
        simp only
        rw [hu9]
      obtain ⟨b1, b2, b3⟩ := upvF_bd (r := chn q) (j := f.j) (L := f.L) (S := S) (nm := nm) hb hc hf
      have m1 := (upvF_ok (r := chn q) (j := f.j) (L := f.L) (S := S) (nm := nm) hc hf).1
      rw [show upvF ((f.j, f.L) :: chn q) nm S = _ from hu9] at b1 b2 b3 m1
      have b1 : BD S9 f.j (chn q) := b1
      have b2 : tot S9 ≤ tot S + 2 * (chn q).length := b2
      have hjS9 : f.j < S9.length := by rw [m1.len]; exact hf.ltj
      have hrl := hf.rlen hb.n
      have hk9 := ks_tot S9 f.j
      refine c_reg ?_ -- region 3 fn.go:155
      refine wl (ro_move rfl) ?_
      refine wl (ro_move rfl) ?_
      refine wl_call rfl en_256 (upvalue256 (List.suffix_refl _) hch hR hn hc hf hb) ?_
      rintro r0 u8 ⟨hr0, ow8, x8, f8, r8⟩
      rw [hu9] at hr0 r8
      have r8 : CM E u8 ow8 O S9 (f :: q) := r8
      subst hr0
      have hs8 := hF.size
      replace hF := cp_trans hX hF f8
      replace hX := hX.trans hs8 x8
      replace hR := r8
      refine wl (ro_assign rfl) ?_
      refine wl_nil (x_then (hK4 _ _ ?_))
      clear hK4 K4
      refine c_seq (fun K5 hK5 => ?_)
      refine c_seq (fun K6 hK6 => ?_)
      refine c_reg ?_ -- region 4 fn.go:156
      refine wl (ro_move rfl) ?_
      refine wl (ro_cmp rfl rfl rfl) ?_
      refine wl_nil (x_then (hK6 _ _ ?_))
      clear hK6 K6
      refine wc_condF rfl ?_
      refine c_skip (x_then (hK5 _ _ ?_))
      clear hK5 K5
      refine forget [(0, _), (1, _), (4, _)] ⟨rfl, rfl, rfl, trivial⟩ (fun e => ?_)
      refine c_seq (fun K7 hK7 => ?_)
      refine c_reg ?_ -- region 6 fn.go:160
      refine wl (ro_move rfl) ?_
      refine wl (ro_move rfl) ?_
      refine wl_call rfl en_229 (text229 hR.dr hjS9 (by omega)) ?_
      rintro _ u1 ⟨rfl, ow1, x1, f1, r1⟩
      have hs1 := hF.size
      replace hF := cp_trans hX hF f1
      replace hX := hX.trans hs1 x1
      replace hR := r1
      refine wl (ro_assign rfl) ?_
      refine wl_nil (x_then (hK7 _ _ ?_))
      clear hK7 K7
      refine c_reg ?_ -- region 7 fn.go:161
      refine wl (ro_move rfl) ?_
      refine wl (ro_move rfl) ?_
      refine wl (ro_move rfl) ?_
      refine wl (ro_build rfl bld_203_0_1) ?_
      refine wl_em (is := [(g, (conF f.j (vStr nm) S9).1)]) (eo_bsI1 rfl se_196 zx_203) rfl hR rfl (by simp; omega) ?_
      intro u2 ow2 x2 f2 r2
      have hs2 := hF.size
      replace hF := cp_trans' hX hF f2
      replace hX := hX.trans hs2 x2
      replace hR := r2
      refine wl_nil ?_
      refine bp_end Tryz.results230 rfl ?_
      rw [e1]; exact ⟨rfl, _, hX, hF, hR⟩
    · skip
      have e1 : varF l u g (chn (f :: q)) nm S = ((u, u9), S9) := by
        rw [e0, hlk]
        simp only
        rw [hu9]
      obtain ⟨b1, b2, b3⟩ := upvF_bd (r := chn q) (j := f.j) (L := f.L) (S := S) (nm := nm) hb hc hf
      have m1 := (upvF_ok (r := chn q) (j := f.j) (L := f.L) (S := S) (nm := nm) hc hf).1
      rw [show upvF ((f.j, f.L) :: chn q) nm S = _ from hu9] at b1 b2 b3 m1
      have b1 : BD S9 f.j (chn q) := b1
      have b2 : tot S9 ≤ tot S + 2 * (chn q).length := b2
      have hjS9 : f.j < S9.length := by rw [m1.len]; exact hf.ltj
      have hrl := hf.rlen hb.n
      have hk9 := ks_tot S9 f.j
      refine c_reg ?_ -- region 3 fn.go:155
      refine wl (ro_move rfl) ?_
      refine wl (ro_move rfl) ?_
      refine wl_call rfl en_256 (upvalue256 (List.suffix_refl _) hch hR hn hc hf hb) ?_
      rintro r0 u8 ⟨hr0, ow8, x8, f8, r8⟩
      rw [hu9] at hr0 r8
      have r8 : CM E u8 ow8 O S9 (f :: q) := r8
      subst hr0
      have hs8 := hF.size
      replace hF := cp_trans hX hF f8
      replace hX := hX.trans hs8 x8
      replace hR := r8
      refine wl (ro_assign rfl) ?_
      refine wl_nil (x_then (hK4 _ _ ?_))
      clear hK4 K4
      refine c_seq (fun K8 hK8 => ?_)
      refine c_seq (fun K9 hK9 => ?_)
      refine c_reg ?_ -- region 4 fn.go:156
      refine wl (ro_move rfl) ?_
      refine wl (ro_cmp rfl rfl rfl) ?_
      refine wl_nil (x_then (hK9 _ _ ?_))
      clear hK9 K9
      refine wc_condT rfl ?_
      refine c_seq (fun K10 hK10 => ?_)
      refine c_reg ?_ -- region 5 fn.go:157
      refine wl (ro_move rfl) ?_
      refine wl (ro_move rfl) ?_
      refine wl (ro_move rfl) ?_
      refine wl (ro_conv rfl sc_3 in_201 (Go.IntWalk.u16_in _ (by
  have h1 : u9 < (fsAt S9 f.j).ups.length := b3 u9 rfl
  obtain ⟨-, -, -, -, -, d, hd, hu⟩ := b1.f f.j
  have := hu.len
  omega))) ?_
      refine wl (ro_build rfl bld_203_0_1) ?_
      refine wl_em (is := [(u, u9)]) (eo_bsI1 rfl se_196 zx_203) rfl hR rfl (by simp; omega) ?_
      intro u3 ow3 x3 f3 r3
      have hs3 := hF.size
      replace hF := cp_trans' hX hF f3
      replace hX := hX.trans hs3 x3
      replace hR := r3
      refine wl_nil (x_then (hK10 _ _ ?_))
      clear hK10 K10
      refine c_ret (x_thenR ?_)
      refine bp_ret Tryz.results230 rfl ?_
      rw [e1]; exact ⟨rfl, _, hX, hF, hR⟩
  · skip
    have hsl : slV f.L nm = i64c s := by unfold slV; rw [hlk]
    have hs12 := lookA_lt hlk
    refine c_reg ?_ -- region 0 fn.go:150
    refine wl (ro_move rfl) ?_
    refine wl (ro_move rfl) ?_
    refine wl_call rfl en_255 (slot255 hR List.mem_cons_self hn (by omega)) ?_
    rintro r0 u0 ⟨hr0, hw0⟩
    rw [hsl] at hr0
    subst hr0
    rw [hw0]
    clear hw0 u0
    refine wl (ro_assign rfl) ?_
    refine wl_nil (x_then (hK1 _ _ ?_))
    clear hK1 K1
    refine c_seq (fun K11 hK11 => ?_)
    refine c_seq (fun K12 hK12 => ?_)
    refine c_reg ?_ -- region 1 fn.go:151
    refine wl (ro_move rfl) ?_
    refine wl (ro_cmp rfl rfl rfl) ?_
    refine wl_nil (x_then (hK12 _ _ ?_))
    clear hK12 K12
    refine wc_condT rfl ?_
    refine c_seq (fun K13 hK13 => ?_)
    refine c_reg ?_ -- region 2 fn.go:152
    refine wl (ro_move rfl) ?_
    refine wl (ro_move rfl) ?_
    refine wl (ro_move rfl) ?_
    refine wl (ro_conv rfl sc_3 in_201 (Go.IntWalk.u16_in _ (by omega))) ?_
    refine wl (ro_build rfl bld_203_0_1) ?_
    refine wl_em (is := [(l, s)]) (eo_bsI1 rfl se_196 zx_203) rfl hR rfl (by simp; omega) ?_
    intro u4 ow4 x4 f4 r4
    have hs4 := hF.size
    replace hF := cp_trans' hX hF f4
    replace hX := hX.trans hs4 x4
    replace hR := r4
    refine wl_nil (x_then (hK13 _ _ ?_))
    clear hK13 K13
    refine c_ret (x_thenR ?_)
    refine bp_ret Tryz.results230 rfl ?_
    rw [e0, hlk]; exact ⟨rfl, _, hX, hF, hR⟩
end
end Go.Proofs.Qxb6500568aGreatDoor
