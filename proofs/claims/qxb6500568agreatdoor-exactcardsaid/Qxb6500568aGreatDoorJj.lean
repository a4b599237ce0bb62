import Derived.Test.Qxb6500568aGreatDoorJi
/- The image laid. -/
namespace Go.Proofs.Qxb6500568aGreatDoor
open Ieee
set_option linter.unusedVariables false
set_option linter.unusedSimpArgs false
set_option linter.unusedSectionVars false

section
variable {P : Program} {n : Nat} {e : Nat → Option Value} {ds : List Deferred} {w : World} {ops : Array Oper} {Q : Exit → Act → World → Prop} {Sw : World → Prop} {last i : Nat} {r : List (Nat × Bool)} {d : Nat} {ty : TypeId} {ps : String} {af : Array Edge}
theorem ql_appS {t u et m : Nat} {x y : Operand} {v : Value} {xs : List Value} {s : List UInt8} (hi : ops[i]? = some ⟨some d, .call ⟨.builtin .append, #[x, y], #[t, u]⟩, ty, ps, af, none⟩) (hx : evO n e x = some v) (hy : evO n e y = some (S s)) (ht : selB P t et 1 = true) (hu : strB P u = true) (hz : (P.info? et).bind (·.zero) = some (.int .u8 0))
    (hby : (P.info? et).any (fun i => i.bytes == 1) = true) (hown : Own w.heap v et 1 m xs) (hmax : m + s.length ≤ 1000000) (hS : ∀ w1, Fram (own1 v) w w1 → Sw w1)
    (K : ∀ v' w1, Own w1.heap v' et 1 (m + s.length) (xs ++ s.map u8c) → Fram (own1 v) w w1 → nob v v' w → WQ P ops Q Sw last r (Fr n (upd e d v') ds) w1) : WQ P ops Q Sw last ((i, true) :: r) (Fr n e ds) w := by
  obtain ⟨v', w1, h1, h2, h3, h4⟩ := app_str (P := P) (n := n) (e := e) hx hy ht hu hz hby hown hmax
  exact ql_eo hi h1 (hS _ h3) (K v' w1 h2 h3 h4)
end
section
variable {E : ZEnv} {w u u' : World} {ow : Nat → Nat} {O : List Nat} {S : Fns} {bs new : Str}
/-- the buffer's turn is all that the image does to the compiler. -/
theorem CM.lay (h : CM E w ow O S []) {V : Value} {ow' : Nat → Nat} (x1 : Xt w ow ow') (f : Fram (lyF E ow) w u) (hC : Blk u.heap E.cb [E.sp, E.dp, E.nv, .slice (some ⟨E.gb, 0, none⟩) 13 13, i64c (mx O), V] 94) (hd : ∀ b, u.heap.size ≤ b → ow' b = 66) : CM { E with bv := V } u ow' O S [] := by
  obtain ⟨R, h1, h2, h3⟩ := h.F
  obtain ⟨Gp, n1, n2⟩ := h.N
  have hn : ∀ b, ow b ≠ 190 → ow b ≠ 302 → b < w.heap.size → ¬ lyF E ow b := fun b q1 q2 _ z => z.elim (fun z => q1 (by rw [z]; exact h.tc)) (fun z => q2 z)
  have hnf : ∀ {k : Nat}, k < 13 → ∀ b, fnT k (ow b) ∨ ow b = 301 → b < w.heap.size → ¬ lyF E ow b := fun {k} hk b q l => hn b (by unfold fnT at q; omega) (by unfold fnT at q; omega) l
  refine ⟨hC, by show ow' E.cb = 190; rw [x1 _ h.cb.lt]; exact h.tc, by show ow' E.gb = 191; rw [x1 _ h2.lt]; exact h.ta, ⟨Gp, n1.far f (fun b q l => hn b (by omega) (by omega) l) x1, n2⟩, ⟨R, h1, h2.fram f (hn _ (by rw [h.ta]; decide) (by rw [h.ta]; decide) h2.lt), fun j r hr => ?_⟩, h.un, h.mem, hd⟩
  obtain ⟨m, q⟩ := h3 j r hr
  have q1 := q.far f (hnf (k := j) (by have := (List.getElem?_eq_some_iff.1 hr).1; omega)) x1
  obtain ⟨i1, i2⟩ := q1.i (fun f hf => by cases hf)
  obtain ⟨rows, p1, p2⟩ := q1.k.lps
  refine ⟨m, ⟨q1.k.loc, q1.k.ups, q1.k.ks, q1.k.code, rows, p1, ?_⟩, fun ho => ?_, (fun f hf => by cases hf), fun _ => ⟨i1, i2⟩⟩
  · rw [i1] at p2 ⊢
    exact p2
  · have o := q1.o ho
    exact ⟨o.c, o.par, o.np, o.ns, o.ups, o.ks, o.nums, o.strs⟩
theorem take_flat {α : Type} {f : α → Str} {l : List α} {i : Nat} {x : α} (h : l[i]? = some x) : (l.take (i + 1)).flatMap f = (l.take i).flatMap f ++ f x := by
  rw [List.take_add_one, h, Option.toList_some, List.flatMap_append]
  simp
theorem flat_le {α : Type} (f : α → Str) (l : List α) (i : Nat) : ((l.take i).flatMap f).length ≤ (l.flatMap f).length := by
  conv => rhs; rw [← List.take_append_drop i l, List.flatMap_append, List.length_append]
  omega
set_option maxHeartbeats 32000000 in
theorem lay37 (hR : CM E w ow O S []) {n0 : Nat} {xs0 : List Value} (hV0 : OwT w ow 302 E.bv 5 1 n0 xs0) (hO : ∀ j, j < S.length → j ∈ O) (hmx : mx O = S.length) (h13 : S.length ≤ 13) (hfok : ∀ k, FOK (fsAt S k)) (himg : (img S).length ≤ 32768) :
    Ret Tryz.prog 37 [ptr E.cb] w (fun r w' => r = Go.Proofs.Qxb6500568aGreatDoor.S (img S) ∧ ZLB E w ow O w' (img S)) := by
  have hC := hR.cb
  have htc := hR.tc
  have hta := hR.ta
  obtain ⟨va0, vc0, e0⟩ := hV0.form
  rw [e0] at hC hV0
  have hgc : E.gb ≠ E.cb := fun e => by rw [e, htc] at hta; omega
  have hcl := hC.lt
  have hib : ∀ i, ((S.take i).flatMap fby).length + 1 ≤ 32768 := fun i => by
    have h1 := flat_le fby S i
    have h2 : (img S).length = 1 + (S.flatMap fby).length := by unfold img; rw [List.length_cons]; omega
    omega
  refine ret_of Tryz.func37 rfl Tryz.ntmps37 rfl ?_
  refine c_seq (fun K1 hK1 => ?_)
  refine c_reg ?_ -- region 0 comp.go:64
  refine wl (ro_assign rfl) ?_
  refine wl_nil (x_then (hK1 _ _ ?_))
  clear hK1 K1
  refine forget [(0, _)] ⟨rfl, trivial⟩ (fun e => ?_)
  refine c_seq (fun K2 hK2 => ?_)
  refine c_reg ?_ -- region 1 comp.go:65
  refine wl (ro_move rfl) ?_
  refine wl (ro_move rfl) ?_
  refine wl (ro_nilCheck rfl) ?_
  refine wl (ro_fieldAddr (k := 5) rfl fo_94_5) ?_
  refine wl (ro_loadB rfl sc_70 (by assumption) rfl) ?_
  refine wl (ro_sliceH (h := 0) rfl rfl se_70 rfl (by omega)) ?_
  refine wl (ro_nilCheck rfl) ?_
  refine wl (ro_fieldAddr (k := 5) rfl fo_94_5) ?_
  refine wl_put rfl rfl rfl sz_70 hC (by simp) (rfl) (fun w1 hC F1 => ?_)
  have hL : ZLB E w ow O w1 [] := ⟨_, cut66 w1 ow, fun b hb ↦ cut66_xt _ _ b (Nat.lt_of_lt_of_le hb (F1).size), (F1).mono (fun b _ y ↦ .inl y), hC, by
    have h9 := (hV0.take (Nat.zero_le _)).far (F1) (fun b y _ z ↦ by have z : b = E.cb := z; rw [z, htc] at y; omega) (Xt.refl _ _)
    rw [Nat.zero_mul, List.take_zero] at h9
    exact h9.cut, cut66_df _ _⟩
  refine wl_nil (x_then (hK2 _ _ ?_))
  clear hK2 K2
  refine forget [(0, _)] ⟨rfl, trivial⟩ (fun e => ?_)
  refine c_seq (fun K3 hK3 => ?_)
  have hL0 := hL
  obtain ⟨V1, ow1, x1, f1, hC1, hV1, hd1⟩ := hL0.ex
  refine c_reg ?_ -- region 2 comp.go:66
  refine wl (ro_move rfl) ?_
  refine wl (ro_move rfl) ?_
  refine wl (ro_nilCheck rfl) ?_
  refine wl (ro_fieldAddr (k := 4) rfl fo_94_4) ?_
  refine wl (ro_loadB rfl sc_3 (hC1) rfl) ?_
  refine wl (ro_convB rfl sc_3 in_5) ?_
  refine wl_pt (new := [by8 (mx O)]) (eo_by1 rfl se_70 zx_5) rfl hL rfl (by simp) ?_
  intro u2 hL2 k2
  obtain ⟨V2, ow2, x2, f2, hC2, hV2, hd2⟩ := hL2.ex
  skip
  refine wl_nil (x_then (hK3 _ _ ?_))
  clear hK3 K3
  refine c_seq (fun K4 hK4 => ?_)
  refine c_seq (fun K5 hK5 => ?_)
  refine c_reg ?_ -- region 3 comp.go:67
  refine wl (ro_move rfl) ?_
  refine wl (ro_nilCheck rfl) ?_
  refine wl (ro_fieldAddr (k := 4) rfl fo_94_4) ?_
  refine wl (ro_loadB rfl sc_3 (hC2) rfl) ?_
  refine wl (ro_move rfl) ?_
  refine wl_nil (x_then (hK5 _ _ ?_))
  clear hK5 K5
  refine c_block ?_
  -- loop@r4: live slots [0, 31, 32]
  refine c_loopG (fun m a u => ∃ i, m = S.length - i ∧ i ≤ S.length ∧ ZLB E w ow O u (by8 S.length :: (S.take i).flatMap fby) ∧ ∃ e, a = Fr 161 (upds e [(0, ptr E.cb), (31, i64c (mx O)), (32, i64c i)]) []) _ ⟨0, rfl, by omega, by rw [← hmx]; exact hL2, kp _ ⟨rfl, rfl, rfl, trivial⟩⟩ ?_
  clear hL hL2 k2 V1 x1 f1 hC1 hV1 hd1 hL0 V2 x2 f2 hC2 hV2 hd2
  rintro m a u ⟨i, rfl, hi, hL, e, rfl⟩
  refine c_seq (fun K6 hK6 => ?_)
  refine c_reg ?_ -- region 4 comp.go:67
  refine wl (ro_cmp rfl rfl rfl) ?_
  refine wl_nil (x_then (hK6 _ _ ?_))
  clear hK6 K6
  refine forget [(0, _), (31, _), (32, _), (33, _)] ⟨rfl, rfl, rfl, rfl, trivial⟩ (fun e => ?_)
  refine c_seq (fun K7 hK7 => ?_)
  refine wc_cond rfl (fun hc33 => ?_) (fun hc33 => ?_)
  · try simp only [decide_eq_true_eq, decide_eq_false_iff_not, Bool.not_eq_true', Bool.not_eq_false', Bool.not_eq_eq_eq_not, Bool.not_true, Bool.not_false, beq_iff_eq, bne_iff_ne, ne_eq, beq_eq_false_iff_ne, bne_eq_false_iff_eq, gt_iff_lt, ge_iff_le, Int.not_lt, Int.not_le] at hc33
    have hi' : i < S.length := by omega
    have hio := hO i hi'
    obtain ⟨R, r, m9, hl13, hr, hGw, hFA, hrow, -⟩ := hR.row (j := i) (by omega)
    have hFo := hFA.o hio
    obtain ⟨-, hFi⟩ := hFA.i (fun f hf ↦ by cases hf)
    obtain ⟨hFc, hFl⟩ := hFi hio
    have hk := hFA.k
    obtain ⟨ua, uc, eu⟩ := hk.ups.form
    obtain ⟨ka, kc, ek⟩ := hk.ks.form
    obtain ⟨ca, cc, ec⟩ := hk.code.form
    have hku := hk.ups
    have hkk := hk.ks
    have hkc := hk.code
    rw [eu] at hku
    rw [ek] at hkk
    rw [ec] at hkc
    rw [hFo.ups] at hku eu
    rw [hFo.ks] at hkk ek
    rw [hFc] at hkc ec
    have hrow2 : (fnc r)[2]? = some (i64c (fsAt S i).np) := by show some r.np = _; rw [hFo.np]
    have hrow4 : (fnc r)[4]? = some (i64c (fsAt S i).ns) := by show some r.ns = _; rw [hFo.ns]
    have hrow5 : (fnc r)[5]? = some (.slice ua (fsAt S i).ups.length uc) := by show some r.ups = _; rw [eu]
    have hrow6 : (fnc r)[6]? = some (.slice ka (fsAt S i).ks.length kc) := by show some r.ks = _; rw [ek]
    have hrow9 : (fnc r)[9]? = some (.slice ca (fsAt S i).code.length cc) := by show some r.code = _; rw [ec]
    have hoff : ∀ {u : World} {tag : Nat} {v : Value} {e k n : Nat} {xs : List Value}, Fram (lyF E ow) w u → OwT w ow tag v e k n xs → tag ≠ 190 → tag ≠ 302 → Own u.heap v e k n xs := fun {u tag v e k n xs} f o q1 q2 ↦ o.o.fram f (fun b y z ↦ by
      have hy := o.t b y
      rcases z with z | z
      · rw [z, htc] at hy; exact q1 hy.symm
      · exact q2 (by rw [← hy, z]))
    have hgu : ∀ {u : World}, Fram (lyF E ow) w u → Blk u.heap E.gb (rws fnc R) 199 := fun {u} f ↦ hGw.fram f (fun z ↦ by
      rcases z with z | z
      · exact hgc z
      · rw [hta] at z; omega)
    have hbf : ∀ {u : World} {b : Nat} {l : List Value} {t : TypeId}, Fram (lyF E ow) w u → Blk w.heap b l t → ow b ≠ 190 → ow b ≠ 302 → Blk u.heap b l t := fun {u b l t} f h q1 q2 ↦ h.fram f (fun z ↦ by
      rcases z with z | z
      · rw [z, htc] at q1; exact q1 rfl
      · exact q2 z)
    have hfb : (fby (fsAt S i)).length + ((S.take i).flatMap fby).length + 1 ≤ 32768 := by
      have h1 := hib (i + 1)
      rw [take_flat (x := fsAt S i) (by unfold fsAt; rw [List.getD_eq_getElem?_getD, List.getElem?_eq_getElem hi']; rfl), List.length_append] at h1
      omega
    obtain ⟨pre, hpre⟩ : ∃ z9, z9 = by8 S.length :: (S.take i).flatMap fby := ⟨_, rfl⟩
    rw [← hpre] at hL
    have hprl : pre.length = ((S.take i).flatMap fby).length + 1 := by rw [hpre]; rfl
    rw [fby_len] at hfb
    unfold fb at hfb
    have hkks := ks_sum (fsAt S i).ks
    obtain ⟨hns12, hnp3, -, hKOK, hOps, dd, hdd, hUOK⟩ := hfok i
    have hul := hUOK.len
    refine c_skip (x_then (hK7 _ _ ?_))
    clear hK7 K7
    refine forget [(0, _), (31, _), (32, _)] ⟨rfl, rfl, rfl, trivial⟩ (fun e => ?_)
    refine c_seq (fun K8 hK8 => ?_)
    refine c_block ?_
    refine c_seq (fun K9 hK9 => ?_)
    refine c_reg ?_ -- region 5 comp.go:67
    refine wl (ro_move rfl) ?_
    refine wl (ro_assign rfl) ?_
    refine wl_nil (x_then (hK9 _ _ ?_))
    clear hK9 K9
    refine forget [(0, _), (3, _), (31, _), (32, _)] ⟨rfl, rfl, rfl, rfl, trivial⟩ (fun e => ?_)
    refine c_seq (fun K10 hK10 => ?_)
    obtain ⟨V1, ow1, x1, f1, hC1, hV1, hd1⟩ := hL.ex
    have hG := hgu f1
    refine c_reg ?_ -- region 6 comp.go:68
    refine wl (ro_move rfl) ?_
    refine wl (ro_nilCheck rfl) ?_
    refine wl (ro_fieldAddr (k := 3) rfl fo_94_3) ?_
    refine wl (ro_loadB rfl sc_92 (hC1) rfl) ?_
    refine wl (ro_move rfl) ?_
    refine wl (ro_indexAddr (et := 199) (k := 11) rfl rfl se_92 (rfl) ((by omega))) ?_
    refine wl (ro_assign rfl) ?_
    refine wl_nil (x_then (hK10 _ _ ?_))
    clear hK10 K10
    refine forget [(0, _), (4, _), (31, _), (32, _)] ⟨rfl, rfl, rfl, rfl, trivial⟩ (fun e => ?_)
    refine c_seq (fun K11 hK11 => ?_)
    rw [show 0 + i * 11 = i * 11 from Nat.zero_add _]
    refine c_piL9 18 [(0, false), (1, false), (2, false), (3, false), (4, false), (5, false), (6, false), (7, false), (8, false), (9, false), (10, false), (11, false), (12, false), (13, false), (14, false), (15, false), (16, false), (17, true)] (fun u => Blk u.heap E.gb (rws fnc R) 199) mixed (by kernel_rfl) rfl (by kernel_rfl) (po_then (po_blk (po_then (po_then (po_blk (po_then (po_bp))))))) (hG) ?_ -- region 7 comp.go:69
    refine ql_ro rfl (fun w hS => ro_move rfl) ?_
    refine ql_ro rfl (fun w hS => ro_move rfl) ?_
    refine ql_ro rfl (fun w hS => ro_nilCheck rfl) ?_
    refine ql_ro rfl (fun w hS => ro_fieldAddr (k := 2) rfl fo_199_2) ?_
    refine ql_ro rfl (fun w hS => ro_loadB rfl sc_3 (hS) ((hrow 2 (by decide)).trans hrow2)) ?_
    refine ql_ro rfl (fun w hS => ro_convB rfl sc_3 in_5) ?_
    refine ql_ro rfl (fun w hS => ro_move rfl) ?_
    refine ql_ro rfl (fun w hS => ro_nilCheck rfl) ?_
    refine ql_ro rfl (fun w hS => ro_fieldAddr (k := 4) rfl fo_199_4) ?_
    refine ql_ro rfl (fun w hS => ro_loadB rfl sc_3 (hS) ((hrow 4 (by decide)).trans hrow4)) ?_
    refine ql_ro rfl (fun w hS => ro_convB rfl sc_3 in_5) ?_
    refine ql_ro rfl (fun w hS => ro_move rfl) ?_
    refine ql_ro rfl (fun w hS => ro_nilCheck rfl) ?_
    refine ql_ro rfl (fun w hS => ro_fieldAddr (k := 5) rfl fo_199_5) ?_
    refine ql_ro rfl (fun w hS => ro_loadB rfl sc_193 (hS) ((hrow 5 (by decide)).trans hrow5)) ?_
    refine ql_ro rfl (fun w hS => ro_lenL rfl se_193) ?_
    refine ql_ro rfl (fun w hS => ro_convB rfl sc_3 in_5) ?_
    refine ql_eo rfl (eo_by3 rfl rfl rfl se_70 zx_5) ((Fram.alloc none' _ _).blkN hG) ?_
    skip
    refine ql_lastC rfl rfl en_81 (put81 (new := [by8 (fsAt S i).np, by8 (fsAt S i).ns, by8 (fsAt S i).ups.length]) (hL.thruN ((Fram.refl none' _).thenDrew.thenN (Fram.alloc none' _ _))) (Blk.new _ ([by8 (fsAt S i).np, by8 (fsAt S i).ns, by8 (fsAt S i).ups.length].map u8c) 5) rfl rfl (by show pre.length + 3 ≤ _; omega)) ?_
    rintro _ u3 ⟨rfl, hL3, k3⟩
    obtain ⟨p1, hp1⟩ : ∃ z9, z9 = pre ++ [by8 (fsAt S i).np, by8 (fsAt S i).ns, by8 (fsAt S i).ups.length] := ⟨_, rfl⟩
    rw [← hp1] at hL3
    have hp1l : p1.length = pre.length + 3 := by rw [hp1, List.length_append]; rfl
    obtain ⟨V3, ow3, x3, f3, hC3, hV3, hd3⟩ := hL3.ex
    have hG3 := hgu f3
    refine x_then (hK11 _ _ ?_)
    clear hK11 K11
    refine c_seq (fun K12 hK12 => ?_)
    refine c_seq (fun K13 hK13 => ?_)
    refine c_reg ?_ -- region 8 comp.go:70
    refine wl (ro_move rfl) ?_
    refine wl (ro_nilCheck rfl) ?_
    refine wl (ro_fieldAddr (k := 5) rfl fo_199_5) ?_
    refine wl (ro_loadB rfl sc_193 (hG3) ((hrow 5 (by decide)).trans hrow5)) ?_
    refine wl (ro_lenL rfl se_193) ?_
    refine wl (ro_move rfl) ?_
    refine wl_nil (x_then (hK13 _ _ ?_))
    clear hK13 K13
    refine c_block ?_
    -- loop@r9: live slots [0, 4, 31, 32, 63, 64, 65]
    refine c_loopG (fun m a u => ∃ k, m = (fsAt S i).ups.length - k ∧ k ≤ (fsAt S i).ups.length ∧ ZLB E w ow O u (p1 ++ ((fsAt S i).ups.take k).flatMap uby) ∧ ∃ e, a = Fr 161 (upds e [(0, ptr E.cb), (4, .pointer (some ⟨E.gb, i * 11, none⟩)), (31, i64c (mx O)), (32, i64c i), (63, .slice ua (fsAt S i).ups.length uc), (64, i64c (fsAt S i).ups.length), (65, i64c k)]) []) _ ⟨0, rfl, by omega, by rw [List.take_zero, List.flatMap_nil, List.append_nil]; exact hL3, kp _ ⟨rfl, rfl, rfl, rfl, rfl, rfl, rfl, trivial⟩⟩ ?_
    clear hL hL3 k3 V1 x1 f1 hC1 hV1 hd1 V3 x3 f3 hC3 hV3 hd3 hG hG3
    rintro m a u ⟨k, rfl, hkl, hL, e, rfl⟩
    refine c_seq (fun K14 hK14 => ?_)
    refine c_reg ?_ -- region 9 comp.go:70
    refine wl (ro_cmp rfl rfl rfl) ?_
    refine wl_nil (x_then (hK14 _ _ ?_))
    clear hK14 K14
    refine forget [(0, _), (4, _), (31, _), (32, _), (63, _), (64, _), (65, _), (66, _)] ⟨rfl, rfl, rfl, rfl, rfl, rfl, rfl, rfl, trivial⟩ (fun e => ?_)
    refine c_seq (fun K15 hK15 => ?_)
    refine wc_cond rfl (fun hc66 => ?_) (fun hc66 => ?_)
    · try simp only [decide_eq_true_eq, decide_eq_false_iff_not, Bool.not_eq_true', Bool.not_eq_false', Bool.not_eq_eq_eq_not, Bool.not_true, Bool.not_false, beq_iff_eq, bne_iff_ne, ne_eq, beq_eq_false_iff_ne, bne_eq_false_iff_eq, gt_iff_lt, ge_iff_le, Int.not_lt, Int.not_le] at hc66
      have hk' : k < (fsAt S i).ups.length := by omega
      obtain ⟨x, hx⟩ : ∃ x, (fsAt S i).ups[k]? = some x := ⟨_, List.getElem?_eq_getElem hk'⟩
      obtain ⟨gu, cu, lu, e5, hBu, q1, q2, q3, q4, q5⟩ := hku.at upc_len hx
      injection e5 with e51 e52 e53
      subst e51
      subst e53
      obtain ⟨V1, ow1, x1, f1, hC1, hV1, hd1⟩ := hL.ex
      have hBu1 := hbf f1 hBu (by rw [q4]; omega) (by rw [q4]; omega)
      have hF : Fram none' u u := Fram.refl _ _
      have hfk := flat_le uby (fsAt S i).ups k
      rw [flat_len (f := uby) (c := 2) (fun _ => rfl) (fsAt S i).ups] at hfk
      have hxu : x.1 < 256 ∧ x.2 < 256 := by
        rcases hUOK.2 x (List.mem_of_getElem? hx) with ⟨z1, z2, z3⟩ | ⟨z1, z2⟩ <;> omega
      refine c_skip (x_then (hK15 _ _ ?_))
      clear hK15 K15
      refine forget [(0, _), (4, _), (31, _), (32, _), (63, _), (64, _), (65, _)] ⟨rfl, rfl, rfl, rfl, rfl, rfl, rfl, trivial⟩ (fun e => ?_)
      refine c_seq (fun K16 hK16 => ?_)
      refine c_block ?_
      refine c_seq (fun K17 hK17 => ?_)
      refine c_reg ?_ -- region 10 comp.go:70
      refine wl (ro_indexAddr (et := 205) (k := 2) rfl rfl se_193 (rfl) ((by omega))) ?_
      refine wl (ro_loadAggB rfl ag_205 (hBu1) (rfl) (q5 k x hx)) ?_
      refine wl_new (ze_205) (fun b6 w2 hbb6 h6 F2 => ?_)
      have hnegub6 : gu < b6 := Nat.lt_of_lt_of_le hBu1.lt hbb6
      have hbsb6 := Nat.le_trans hF.size hbb6
      replace hBu1 := F2.blkN hBu1
      replace hF := hF.thenDrew.thenN F2
      refine wl_puta rfl rfl ((upc_one _)) sz_205 (rfl) h6 ((by simp)) (rfl) (fun w3 h6 F3 => ?_)
      replace hBu1 := F3.blkO hBu1 (by omega)
      replace hF := hF.thenDrew.thenO F3 (by first | exact .inr (by omega) | exact .inl rfl | exact .inl (by assumption) | assumption)
      refine wl_nil (x_then (hK17 _ _ ?_))
      clear hK17 K17
      refine c_reg ?_ -- region 11 comp.go:71
      refine wl (ro_move rfl) ?_
      refine wl (ro_sliceA0 rfl ar_205) ?_
      refine wl_call rfl en_81 (put81 (new := uby x) (hL.thruN hF) h6 (by show _ = [u8c (by8 x.1), u8c (by8 x.2)]; rw [← u8_by8 hxu.1, ← u8_by8 hxu.2]; rfl) rfl (by rw [List.length_append]; show _ + 2 ≤ _; omega)) ?_
      rintro _ u4 ⟨rfl, hL4, k4⟩
      rw [List.append_assoc, ← take_flat hx] at hL4
      refine wl_nil (x_blk (x_then (hK16 _ _ ?_)))
      clear hK16 K16
      refine c_reg ?_ -- region 12 comp.go:70
      refine wl (ro_arith rfl rfl rfl (Go.IntWalk.i64_in _ (by omega))) ?_
      refine wl (ro_move rfl) ?_
      refine wl_nil (x_then ?_)
      exact ⟨_, by omega, k + 1, rfl, by omega, hL4, kp _ ⟨rfl, rfl, rfl, rfl, rfl, rfl, rfl, trivial⟩⟩
    · try simp only [decide_eq_true_eq, decide_eq_false_iff_not, Bool.not_eq_true', Bool.not_eq_false', Bool.not_eq_eq_eq_not, Bool.not_true, Bool.not_false, beq_iff_eq, bne_iff_ne, ne_eq, beq_eq_false_iff_ne, bne_eq_false_iff_eq, gt_iff_lt, ge_iff_le, Int.not_lt, Int.not_le] at hc66
      obtain rfl : k = (fsAt S i).ups.length := by omega
      rw [List.take_length] at hL
      have hp2l : (p1 ++ (fsAt S i).ups.flatMap uby).length = pre.length + 3 + 2 * (fsAt S i).ups.length := by rw [List.length_append, flat_len (f := uby) (c := 2) (fun _ => rfl)]; omega
      obtain ⟨p2, hp2⟩ : ∃ z9, z9 = p1 ++ (fsAt S i).ups.flatMap uby := ⟨_, rfl⟩
      rw [← hp2] at hL hp2l
      refine c_exit (x_thenX (x_thenX (x_blkX (x_then (hK12 _ _ ?_)))))
      clear hK15 K15 hK12 K12
      refine forget [(0, _), (4, _), (31, _), (32, _)] ⟨rfl, rfl, rfl, rfl, trivial⟩ (fun e => ?_)
      refine c_seq (fun K18 hK18 => ?_)
      obtain ⟨V3, ow3, x3, f3, hC3, hV3, hd3⟩ := hL.ex
      have hG3 := hgu f3
      refine c_reg ?_ -- region 13 comp.go:73
      refine wl (ro_move rfl) ?_
      refine wl (ro_move rfl) ?_
      refine wl (ro_nilCheck rfl) ?_
      refine wl (ro_fieldAddr (k := 6) rfl fo_199_6) ?_
      refine wl (ro_loadB rfl sc_83 (hG3) ((hrow 6 (by decide)).trans hrow6)) ?_
      refine wl (ro_lenL rfl se_83) ?_
      refine wl_call rfl en_82 (put82 hL (by omega) (by omega)) ?_
      rintro _ u3 ⟨rfl, hL3, k3⟩
      obtain ⟨p3, hp3⟩ : ∃ z9, z9 = p2 ++ by16 (fsAt S i).ks.length := ⟨_, rfl⟩
      rw [← hp3] at hL3
      have hp3l : p3.length = p2.length + 2 := by rw [hp3, List.length_append]; rfl
      clear V3 x3 f3 hC3 hV3 hd3 hG3
      obtain ⟨V3, ow4, x3, f3, hC3, hV3, hd3⟩ := hL3.ex
      have hG3 := hgu f3
      refine wl_nil (x_then (hK18 _ _ ?_))
      clear hK18 K18
      refine c_seq (fun K19 hK19 => ?_)
      refine c_seq (fun K20 hK20 => ?_)
      refine c_reg ?_ -- region 14 comp.go:74
      refine wl (ro_move rfl) ?_
      refine wl (ro_nilCheck rfl) ?_
      refine wl (ro_fieldAddr (k := 6) rfl fo_199_6) ?_
      refine wl (ro_loadB rfl sc_83 (hG3) ((hrow 6 (by decide)).trans hrow6)) ?_
      refine wl (ro_lenL rfl se_83) ?_
      refine wl (ro_move rfl) ?_
      refine wl_nil (x_then (hK20 _ _ ?_))
      clear hK20 K20
      refine c_block ?_
      -- loop@r15: live slots [0, 4, 31, 32, 83, 84, 85]
      refine c_loopG (fun m a u => ∃ k, m = (fsAt S i).ks.length - k ∧ k ≤ (fsAt S i).ks.length ∧ ZLB E w ow O u (p3 ++ ((fsAt S i).ks.take k).flatMap kby) ∧ ∃ e, a = Fr 161 (upds e [(0, ptr E.cb), (4, .pointer (some ⟨E.gb, i * 11, none⟩)), (31, i64c (mx O)), (32, i64c i), (83, .slice ka (fsAt S i).ks.length kc), (84, i64c (fsAt S i).ks.length), (85, i64c k)]) []) _ ⟨0, rfl, by omega, by rw [List.take_zero, List.flatMap_nil, List.append_nil]; exact hL3, kp _ ⟨rfl, rfl, rfl, rfl, rfl, rfl, rfl, trivial⟩⟩ ?_
      clear hL hL3 k3 V3 x3 f3 hC3 hV3 hd3 hG3
      rintro m a u ⟨k, rfl, hkl, hL, e, rfl⟩
      refine c_seq (fun K21 hK21 => ?_)
      refine c_reg ?_ -- region 15 comp.go:74
      refine wl (ro_cmp rfl rfl rfl) ?_
      refine wl_nil (x_then (hK21 _ _ ?_))
      clear hK21 K21
      refine forget [(0, _), (4, _), (31, _), (32, _), (83, _), (84, _), (85, _), (86, _)] ⟨rfl, rfl, rfl, rfl, rfl, rfl, rfl, rfl, trivial⟩ (fun e => ?_)
      refine c_seq (fun K22 hK22 => ?_)
      refine wc_cond rfl (fun hc86 => ?_) (fun hc86 => ?_)
      · try simp only [decide_eq_true_eq, decide_eq_false_iff_not, Bool.not_eq_true', Bool.not_eq_false', Bool.not_eq_eq_eq_not, Bool.not_true, Bool.not_false, beq_iff_eq, bne_iff_ne, ne_eq, beq_eq_false_iff_ne, bne_eq_false_iff_eq, gt_iff_lt, ge_iff_le, Int.not_lt, Int.not_le] at hc86
        have hk' : k < (fsAt S i).ks.length := by omega
        obtain ⟨x, hx⟩ : ∃ x, (fsAt S i).ks[k]? = some x := ⟨_, List.getElem?_eq_getElem hk'⟩
        obtain ⟨gu, cu, lu, e5, hBu, q1, q2, q3, q4, q5⟩ := hkk.at pvc_len hx
        injection e5 with e51 e52 e53
        subst e51
        subst e53
        obtain ⟨V1, ow1, x1, f1, hC1, hV1, hd1⟩ := hL.ex
        have hBu1 := hbf f1 hBu (by rw [q4]; omega) (by rw [q4]; omega)
        have hF : Fram none' u u := Fram.refl _ _
        have hfk := flat_le kby (fsAt S i).ks (k + 1)
        rw [kflat_len (fsAt S i).ks, take_flat hx, List.length_append, kby_len] at hfk
        refine c_skip (x_then (hK22 _ _ ?_))
        clear hK22 K22
        refine forget [(0, _), (4, _), (31, _), (32, _), (83, _), (84, _), (85, _)] ⟨rfl, rfl, rfl, rfl, rfl, rfl, rfl, trivial⟩ (fun e => ?_)
        refine c_seq (fun K23 hK23 => ?_)
        refine c_block ?_
        refine c_seq (fun K24 hK24 => ?_)
        refine c_reg ?_ -- region 16 comp.go:74
        refine wl (ro_indexAddr (et := 119) (k := 3) rfl rfl se_83 (rfl) ((by omega))) ?_
        refine wl (ro_loadAggB rfl ag_119 (hBu1) (rfl) (q5 k x hx)) ?_
        refine wl_new (ze_119) (fun b8 w4 hbb8 h8 F4 => ?_)
        have hnegub8 : gu < b8 := Nat.lt_of_lt_of_le hBu1.lt hbb8
        have hbsb8 := Nat.le_trans hF.size hbb8
        replace hBu1 := F4.blkN hBu1
        replace hF := hF.thenDrew.thenN F4
        refine wl_puta rfl rfl ((pvc_one _)) sz_119 (rfl) h8 ((by simp)) (rfl) (fun w5 h8 F5 => ?_)
        replace hBu1 := F5.blkO hBu1 (by omega)
        replace hF := hF.thenDrew.thenO F5 (by first | exact .inr (by omega) | exact .inl rfl | exact .inl (by assumption) | assumption)
        refine wl_nil (x_then (hK24 _ _ ?_))
        clear hK24 K24
        refine forget [(0, _), (4, _), (8, _), (31, _), (32, _), (83, _), (84, _), (85, _)] ⟨rfl, rfl, rfl, rfl, rfl, rfl, rfl, rfl, trivial⟩ (fun e => ?_)
        refine c_seq (fun K25 hK25 => ?_)
        refine c_reg ?_ -- region 17 comp.go:75
        refine wl (ro_fieldAddr (k := 0) rfl fo_119_0) ?_
        refine wl (ro_loadB rfl sc_3 (h8) rfl) ?_
        refine wl (ro_cmp rfl rfl rfl) ?_
        refine wl_nil (x_then (hK25 _ _ ?_))
        clear hK25 K25
        refine wc_cond rfl (fun hc91 => ?_) (fun hc91 => ?_)
        · try simp only [decide_eq_true_eq, decide_eq_false_iff_not, Bool.not_eq_true', Bool.not_eq_false', Bool.not_eq_eq_eq_not, Bool.not_true, Bool.not_false, beq_iff_eq, bne_iff_ne, ne_eq, beq_eq_false_iff_ne, bne_eq_false_iff_eq, gt_iff_lt, ge_iff_le, Int.not_lt, Int.not_le] at hc91
          have hT : x.T = 2 := by omega
          have hkb : kb x = 9 := by unfold kb; rw [if_pos hT]
          obtain ⟨p4, hp4⟩ : ∃ z9, z9 = p3 ++ ((fsAt S i).ks.take k).flatMap kby := ⟨_, rfl⟩
          rw [← hp4] at hL
          have hp4l : p4.length = p3.length + (((fsAt S i).ks.take k).flatMap kby).length := by rw [hp4, List.length_append]
          have h8c : b8 ≠ E.cb := by have := f1.size; omega
          refine c_seq (fun K26 hK26 => ?_)
          refine c_reg ?_ -- region 18 comp.go:76
          refine wl (ro_move rfl) ?_
          refine wl_pt (new := [1]) (eo_by1 rfl se_70 zx_5) rfl (hL.thruN hF) rfl (by show _ + 1 ≤ _; omega) ?_
          intro u2 hL2 k2
          replace h8 := k2 _ _ _ rfl h8c h8
          skip
          refine wl_nil (x_then (hK26 _ _ ?_))
          clear hK26 K26
          refine forget [(0, _), (4, _), (8, _), (31, _), (32, _), (83, _), (84, _), (85, _)] ⟨rfl, rfl, rfl, rfl, rfl, rfl, rfl, rfl, trivial⟩ (fun e => ?_)
          refine c_seq (fun K27 hK27 => ?_)
          refine c_reg ?_ -- region 19 comp.go:77
          refine wl (ro_move rfl) ?_
          refine wl_nil (x_then (hK27 _ _ ?_))
          clear hK27 K27
          refine c_block ?_
          -- loop@r20: live slots [0, 4, 8, 31, 32, 83, 84, 85, 95]
          refine c_loopG (fun m a u => ∃ j, m = 8 - j ∧ j ≤ 8 ∧ ZLB E w ow O u (p4 ++ 1 :: (List.range j).map (fun i => by8 (x.N / 256 ^ i))) ∧ Blk u.heap b8 (pvc x) 119 ∧ ∃ e, a = Fr 161 (upds e [(0, ptr E.cb), (4, .pointer (some ⟨E.gb, i * 11, none⟩)), (8, ptr b8), (31, i64c (mx O)), (32, i64c i), (83, .slice (some ⟨gu, 0, none⟩) (fsAt S i).ks.length kc), (84, i64c (fsAt S i).ks.length), (85, i64c k), (95, i64c j)]) []) _ ⟨0, rfl, by omega, hL2, h8, kp _ ⟨rfl, rfl, rfl, rfl, rfl, rfl, rfl, rfl, rfl, trivial⟩⟩ ?_
          clear hL hL2 k2 h8
          rintro m a u7 ⟨j, rfl, hj8, hL, h8, e, rfl⟩
          refine c_seq (fun K28 hK28 => ?_)
          refine c_reg ?_ -- region 20 comp.go:77
          refine wl (ro_cmp rfl rfl rfl) ?_
          refine wl_nil (x_then (hK28 _ _ ?_))
          clear hK28 K28
          refine forget [(0, _), (4, _), (8, _), (31, _), (32, _), (83, _), (84, _), (85, _), (95, _), (96, _)] ⟨rfl, rfl, rfl, rfl, rfl, rfl, rfl, rfl, rfl, rfl, trivial⟩ (fun e => ?_)
          refine c_seq (fun K29 hK29 => ?_)
          refine wc_cond rfl (fun hc96 => ?_) (fun hc96 => ?_)
          · try simp only [decide_eq_true_eq, decide_eq_false_iff_not, Bool.not_eq_true', Bool.not_eq_false', Bool.not_eq_eq_eq_not, Bool.not_true, Bool.not_false, beq_iff_eq, bne_iff_ne, ne_eq, beq_eq_false_iff_ne, bne_eq_false_iff_eq, gt_iff_lt, ge_iff_le, Int.not_lt, Int.not_le] at hc96
            have hj' : j < 8 := by omega
            refine c_skip (x_then (hK29 _ _ ?_))
            clear hK29 K29
            refine forget [(0, _), (4, _), (8, _), (31, _), (32, _), (83, _), (84, _), (85, _), (95, _)] ⟨rfl, rfl, rfl, rfl, rfl, rfl, rfl, rfl, rfl, trivial⟩ (fun e => ?_)
            refine c_seq (fun K30 hK30 => ?_)
            refine c_block ?_
            refine c_seq (fun K31 hK31 => ?_)
            refine c_reg ?_ -- region 21 comp.go:77
            refine wl (ro_move rfl) ?_
            refine wl (ro_assign rfl) ?_
            refine wl_nil (x_then (hK31 _ _ ?_))
            clear hK31 K31
            refine c_reg ?_ -- region 22 comp.go:78
            refine wl (ro_move rfl) ?_
            refine wl (ro_fieldAddr (k := 1) rfl fo_119_1) ?_
            refine wl (ro_loadB rfl sc_117 (h8) rfl) ?_
            refine wl (ro_move rfl) ?_
            refine wl (ro_arith rfl rfl rfl (Go.IntWalk.i64_in _ (by omega))) ?_
            refine wl (ro_shrU (b := 8 * j) rfl rfl (by omega)) ?_
            refine wl (ro_convB rfl sc_117 in_5) ?_
            refine wl_pt (new := [by8 (x.N / 256 ^ j)]) (by rw [show (256 : Nat) = 2 ^ 8 from rfl, ← Nat.pow_mul]; exact eo_by1 rfl se_70 zx_5) rfl hL rfl (by rw [List.length_append, List.length_cons, List.length_map, List.length_range]; show _ + 1 ≤ _; omega) ?_
            intro u2 hL2 k2
            replace h8 := k2 _ _ _ rfl h8c h8
            rw [List.append_assoc, List.cons_append, show (List.range j).map (fun i => by8 (x.N / 256 ^ i)) ++ [by8 (x.N / 256 ^ j)] = (List.range (j + 1)).map (fun i => by8 (x.N / 256 ^ i)) by rw [List.range_succ, List.map_append]; rfl] at hL2
            skip
            refine wl_nil (x_blk (x_then (hK30 _ _ ?_)))
            clear hK30 K30
            refine c_reg ?_ -- region 23 comp.go:77
            refine wl (ro_arith rfl rfl rfl (Go.IntWalk.i64_in _ (by omega))) ?_
            refine wl (ro_move rfl) ?_
            refine wl_nil (x_then ?_)
            exact ⟨_, by omega, j + 1, rfl, by omega, hL2, h8, kp _ ⟨rfl, rfl, rfl, rfl, rfl, rfl, rfl, rfl, rfl, trivial⟩⟩
          · try simp only [decide_eq_true_eq, decide_eq_false_iff_not, Bool.not_eq_true', Bool.not_eq_false', Bool.not_eq_eq_eq_not, Bool.not_true, Bool.not_false, beq_iff_eq, bne_iff_ne, ne_eq, beq_eq_false_iff_ne, bne_eq_false_iff_eq, gt_iff_lt, ge_iff_le, Int.not_lt, Int.not_le] at hc96
            obtain rfl : j = 8 := by omega
            have hL : ZLB E w ow O u7 (p4 ++ kby x) := by unfold kby; rw [if_pos hT]; exact hL
            rw [hp4, List.append_assoc, ← take_flat hx] at hL
            refine c_exit (x_thenX (x_thenX (x_blkX (x_blk (x_then (hK23 _ _ ?_))))))
            clear hK29 K29 hK23 K23
            refine c_reg ?_ -- region 26 comp.go:74
            refine wl (ro_arith rfl rfl rfl (Go.IntWalk.i64_in _ (by omega))) ?_
            refine wl (ro_move rfl) ?_
            refine wl_nil (x_then ?_)
            exact ⟨_, by omega, k + 1, rfl, by omega, hL, kp _ ⟨rfl, rfl, rfl, rfl, rfl, rfl, rfl, trivial⟩⟩
        · try simp only [decide_eq_true_eq, decide_eq_false_iff_not, Bool.not_eq_true', Bool.not_eq_false', Bool.not_eq_eq_eq_not, Bool.not_true, Bool.not_false, beq_iff_eq, bne_iff_ne, ne_eq, beq_eq_false_iff_ne, bne_eq_false_iff_eq, gt_iff_lt, ge_iff_le, Int.not_lt, Int.not_le] at hc91
          have hT : x.T ≠ 2 := by omega
          have hkb : kb x = 2 + x.S.length := by unfold kb; rw [if_neg hT]
          obtain ⟨p4, hp4⟩ : ∃ z9, z9 = p3 ++ ((fsAt S i).ks.take k).flatMap kby := ⟨_, rfl⟩
          rw [← hp4] at hL
          have hp4l : p4.length = p3.length + (((fsAt S i).ks.take k).flatMap kby).length := by rw [hp4, List.length_append]
          have h8c : b8 ≠ E.cb := by have := f1.size; omega
          refine c_seq (fun K32 hK32 => ?_)
          refine c_reg ?_ -- region 24 comp.go:81
          refine wl (ro_move rfl) ?_
          refine wl (ro_fieldAddr (k := 2) rfl fo_119_2) ?_
          refine wl (ro_loadB rfl sc_9 (h8) rfl) ?_
          refine wl (ro_lenS rfl st_9) ?_
          refine wl (ro_convB rfl sc_3 in_5) ?_
          refine wl_pt (new := [2, by8 x.S.length]) (eo_by2 rfl rfl se_70 zx_5) rfl (hL.thruN hF) rfl (by show _ + 2 ≤ _; omega) ?_
          intro u2 hL2 k2
          replace h8 := k2 _ _ _ rfl h8c h8
          clear V1 x1 f1 hC1 hV1 hd1
          obtain ⟨V1, ow1, x1, f1, hC1, hV1, hd1⟩ := hL2.ex
          obtain ⟨va, vc, rfl⟩ := hV1.form
          have hVc : ¬ own1 (.slice va (p4 ++ [2, by8 x.S.length]).length vc) E.cb := fun y => by
            rcases hV1.o.2 with ⟨z1, z2⟩ | ⟨g, cap, l, z1, z2, -⟩
            · injection z1 with za; subst za; cases y
            · injection z1 with za; subst za; cases y
              exact absurd (Blk.uniq z2 hC1).2 (by decide)
          skip
          refine wl_nil (x_then (hK32 _ _ ?_))
          clear hK32 K32
          refine c_piL 10 [(0, false), (1, false), (2, false), (3, false), (4, false), (5, false), (6, false), (7, true), (8, false), (9, false)] (fun u => Blk u.heap E.cb [E.sp, E.dp, E.nv, .slice (some ⟨E.gb, 0, none⟩) 13 13, i64c (mx O), .slice va (p4 ++ [2, by8 x.S.length]).length vc] 94 ∧ Blk u.heap b8 (pvc x) 119) mixed (by kernel_rfl) rfl (by kernel_rfl) (po_blk (po_then (po_then (po_blk (po_then (po_blk (po_then (po_then (po_blk (po_then (po_bp))))))))))) (⟨hC1, h8⟩) ?_ -- region 25 comp.go:82
          refine ql_ro rfl (fun w hS => ro_move rfl) ?_
          refine ql_ro rfl (fun w hS => ro_move rfl) ?_
          refine ql_ro rfl (fun w hS => ro_nilCheck rfl) ?_
          refine ql_ro rfl (fun w hS => ro_fieldAddr (k := 5) rfl fo_94_5) ?_
          refine ql_ro rfl (fun w hS => ro_loadB rfl sc_70 (hS.1) rfl) ?_
          refine ql_ro rfl (fun w hS => ro_fieldAddr (k := 2) rfl fo_119_2) ?_
          refine ql_ro rfl (fun w hS => ro_loadB rfl sc_9 (hS.2) rfl) ?_
          refine ql_appS (et := 5) (m := (p4 ++ [2, by8 x.S.length]).length) rfl rfl rfl se_70 st_9 (by kernel_rfl) by_5 (hV1.o.fram (Fram.refl none' _).thenDrew (fun _ _ h => h)) (by rw [List.length_append]; show _ + 2 + _ ≤ _; omega) (fun w1 F ↦ ⟨F.blkF hC1 hVc, F.blkF h8 (fun y ↦ by
              rcases hV1.o.2 with ⟨z1, z2⟩ | ⟨g, cap, l, z1, z2, -⟩
              · injection z1 with za; subst za; cases y
              · injection z1 with za; subst za; cases y
                exact absurd (Blk.uniq z2 h8).2 (by decide))⟩) ?_
          intro v' u3 hon G1 hnb
          have hC3 := G1.blkF hC1 hVc
          obtain ⟨va', vc', rfl⟩ := hon.form
          refine ql_ro rfl (fun w hS => ro_nilCheck rfl) ?_
          refine ql_ro rfl (fun w hS => ro_fieldAddr (k := 5) rfl fo_94_5) ?_
          refine ql_put rfl rfl rfl rfl sz_70 hC3 (by simp) (rfl) (fun w6 hC3 F6 => ?_)
          have hF3 := (F6)
          have hL3 := (hL2.grow (new := x.S) x1 f1 hV1 hC1 hon ((Fram.refl (own1 (.slice va (p4 ++ [2, by8 x.S.length]).length vc)) _).thenDrew.trans' G1 (fun _ _ h ↦ h)) hnb hF3 hC3).1
          have hL : ZLB E w ow O w6 (p4 ++ kby x) := by unfold kby; rw [if_neg hT]; rw [List.append_assoc] at hL3; exact hL3
          rw [hp4, List.append_assoc, ← take_flat hx] at hL
          refine x_blk (x_then (hK23 _ _ ?_))
          clear hK23 K23
          refine c_reg ?_ -- region 26 comp.go:74
          refine wl (ro_arith rfl rfl rfl (Go.IntWalk.i64_in _ (by omega))) ?_
          refine wl (ro_move rfl) ?_
          refine wl_nil (x_then ?_)
          exact ⟨_, by omega, k + 1, rfl, by omega, hL, kp _ ⟨rfl, rfl, rfl, rfl, rfl, rfl, rfl, trivial⟩⟩
      · try simp only [decide_eq_true_eq, decide_eq_false_iff_not, Bool.not_eq_true', Bool.not_eq_false', Bool.not_eq_eq_eq_not, Bool.not_true, Bool.not_false, beq_iff_eq, bne_iff_ne, ne_eq, beq_eq_false_iff_ne, bne_eq_false_iff_eq, gt_iff_lt, ge_iff_le, Int.not_lt, Int.not_le] at hc86
        obtain rfl : k = (fsAt S i).ks.length := by omega
        rw [List.take_length] at hL
        have hp5l : (p3 ++ (fsAt S i).ks.flatMap kby).length = p3.length + ((fsAt S i).ks.map kb).sum := by rw [List.length_append, kflat_len]
        obtain ⟨p5, hp5⟩ : ∃ z9, z9 = p3 ++ (fsAt S i).ks.flatMap kby := ⟨_, rfl⟩
        rw [← hp5] at hL hp5l
        refine c_exit (x_thenX (x_thenX (x_blkX (x_then (hK19 _ _ ?_)))))
        clear hK22 K22 hK19 K19
        refine forget [(0, _), (4, _), (31, _), (32, _)] ⟨rfl, rfl, rfl, rfl, trivial⟩ (fun e => ?_)
        refine c_seq (fun K33 hK33 => ?_)
        obtain ⟨V3, ow3, x3, f3, hC3, hV3, hd3⟩ := hL.ex
        have hG3 := hgu f3
        refine c_reg ?_ -- region 27 comp.go:85
        refine wl (ro_move rfl) ?_
        refine wl (ro_move rfl) ?_
        refine wl (ro_nilCheck rfl) ?_
        refine wl (ro_fieldAddr (k := 9) rfl fo_199_9) ?_
        refine wl (ro_loadB rfl sc_196 (hG3) ((hrow 9 (by decide)).trans hrow9)) ?_
        refine wl (ro_lenL rfl se_196) ?_
        refine wl_call rfl en_82 (put82 hL (by omega) (by omega)) ?_
        rintro _ u3 ⟨rfl, hL3, k3⟩
        obtain ⟨p6, hp6⟩ : ∃ z9, z9 = p5 ++ by16 (fsAt S i).code.length := ⟨_, rfl⟩
        rw [← hp6] at hL3
        have hp6l : p6.length = p5.length + 2 := by rw [hp6, List.length_append]; rfl
        clear V3 x3 f3 hC3 hV3 hd3 hG3
        obtain ⟨V3, ow4, x3, f3, hC3, hV3, hd3⟩ := hL3.ex
        have hG3 := hgu f3
        refine wl_nil (x_then (hK33 _ _ ?_))
        clear hK33 K33
        refine forget [(0, _), (4, _), (31, _), (32, _)] ⟨rfl, rfl, rfl, rfl, trivial⟩ (fun e => ?_)
        refine c_seq (fun K34 hK34 => ?_)
        refine c_reg ?_ -- region 28 comp.go:86
        refine wl (ro_move rfl) ?_
        refine wl (ro_nilCheck rfl) ?_
        refine wl (ro_fieldAddr (k := 9) rfl fo_199_9) ?_
        refine wl (ro_loadB rfl sc_196 (hG3) ((hrow 9 (by decide)).trans hrow9)) ?_
        refine wl (ro_lenL rfl se_196) ?_
        refine wl (ro_move rfl) ?_
        refine wl_nil (x_then (hK34 _ _ ?_))
        clear hK34 K34
        refine c_block ?_
        -- loop@r29: live slots [0, 31, 32, 136, 137, 138]
        refine c_loopG (fun m a u => ∃ k, m = (fsAt S i).code.length - k ∧ k ≤ (fsAt S i).code.length ∧ ZLB E w ow O u (p6 ++ ((fsAt S i).code.take k).flatMap iby) ∧ ∃ e, a = Fr 161 (upds e [(0, ptr E.cb), (31, i64c (mx O)), (32, i64c i), (136, .slice ca (fsAt S i).code.length cc), (137, i64c (fsAt S i).code.length), (138, i64c k)]) []) _ ⟨0, rfl, by omega, by rw [List.take_zero, List.flatMap_nil, List.append_nil]; exact hL3, kp _ ⟨rfl, rfl, rfl, rfl, rfl, rfl, trivial⟩⟩ ?_
        clear hL hL3 k3 V3 x3 f3 hC3 hV3 hd3 hG3
        rintro m a u ⟨k, rfl, hkl, hL, e, rfl⟩
        refine c_seq (fun K35 hK35 => ?_)
        refine c_reg ?_ -- region 29 comp.go:86
        refine wl (ro_cmp rfl rfl rfl) ?_
        refine wl_nil (x_then (hK35 _ _ ?_))
        clear hK35 K35
        refine forget [(0, _), (31, _), (32, _), (136, _), (137, _), (138, _), (139, _)] ⟨rfl, rfl, rfl, rfl, rfl, rfl, rfl, trivial⟩ (fun e => ?_)
        refine c_seq (fun K36 hK36 => ?_)
        refine wc_cond rfl (fun hc139 => ?_) (fun hc139 => ?_)
        · try simp only [decide_eq_true_eq, decide_eq_false_iff_not, Bool.not_eq_true', Bool.not_eq_false', Bool.not_eq_eq_eq_not, Bool.not_true, Bool.not_false, beq_iff_eq, bne_iff_ne, ne_eq, beq_eq_false_iff_ne, bne_eq_false_iff_eq, gt_iff_lt, ge_iff_le, Int.not_lt, Int.not_le] at hc139
          have hk' : k < (fsAt S i).code.length := by omega
          obtain ⟨x, hx⟩ : ∃ x, (fsAt S i).code[k]? = some x := ⟨_, List.getElem?_eq_getElem hk'⟩
          obtain ⟨gu, cu, lu, e5, hBu, q1, q2, q3, q4, q5⟩ := hkc.at inc_len hx
          injection e5 with e51 e52 e53
          subst e51
          subst e53
          obtain ⟨V1, ow1, x1, f1, hC1, hV1, hd1⟩ := hL.ex
          have hBu1 := hbf f1 hBu (by rw [q4]; omega) (by rw [q4]; omega)
          have hF : Fram none' u u := Fram.refl _ _
          have hfk := flat_le iby (fsAt S i).code k
          rw [flat_len (f := iby) (c := 3) (fun _ => rfl) (fsAt S i).code] at hfk
          have hxu := hOps x (List.mem_of_getElem? hx)
          refine c_skip (x_then (hK36 _ _ ?_))
          clear hK36 K36
          refine forget [(0, _), (31, _), (32, _), (136, _), (137, _), (138, _)] ⟨rfl, rfl, rfl, rfl, rfl, rfl, trivial⟩ (fun e => ?_)
          refine c_seq (fun K37 hK37 => ?_)
          refine c_block ?_
          refine c_seq (fun K38 hK38 => ?_)
          refine c_reg ?_ -- region 30 comp.go:86
          refine wl (ro_indexAddr (et := 203) (k := 2) rfl rfl se_196 (rfl) ((by omega))) ?_
          refine wl (ro_loadAggB rfl ag_203 (hBu1) (rfl) (q5 k x hx)) ?_
          refine wl_new (ze_203) (fun b11 w7 hbb11 h11 F7 => ?_)
          have hnegub11 : gu < b11 := Nat.lt_of_lt_of_le hBu1.lt hbb11
          have hbsb11 := Nat.le_trans hF.size hbb11
          replace hBu1 := F7.blkN hBu1
          replace hF := hF.thenDrew.thenN F7
          refine wl_puta rfl rfl ((inc_one _)) sz_203 (rfl) h11 ((by simp)) (rfl) (fun w8 h11 F8 => ?_)
          replace hBu1 := F8.blkO hBu1 (by omega)
          replace hF := hF.thenDrew.thenO F8 (by first | exact .inr (by omega) | exact .inl rfl | exact .inl (by assumption) | assumption)
          refine wl_nil (x_then (hK38 _ _ ?_))
          clear hK38 K38
          refine c_reg ?_ -- region 31 comp.go:87
          refine wl (ro_move rfl) ?_
          refine wl (ro_fieldAddr (k := 0) rfl fo_203_0) ?_
          refine wl (ro_loadB rfl sc_5 (h11) ((by show some (u8n x.1) = some (u8c (by8 x.1)); rw [u8_by8 hxu.1]))) ?_
          refine wl (ro_fieldAddr (k := 1) rfl fo_203_1) ?_
          refine wl (ro_loadB rfl sc_201 (h11) rfl) ?_
          refine wl (ro_convB rfl sc_201 in_5) ?_
          refine wl (ro_fieldAddr (k := 1) rfl fo_203_1) ?_
          refine wl (ro_loadB rfl sc_201 (h11) rfl) ?_
          refine wl (ro_shrN (b := 8) rfl rfl (by decide)) ?_
          refine wl (ro_convB rfl sc_201 in_5) ?_
          refine wl_pt (new := iby x) (eo_by3 rfl rfl rfl se_70 zx_5) rfl (hL.thruN hF) rfl (by rw [List.length_append]; show _ + 3 ≤ _; omega) ?_
          intro u2 hL2 k2
          rw [List.append_assoc, ← take_flat hx] at hL2
          skip
          refine wl_nil (x_blk (x_then (hK37 _ _ ?_)))
          clear hK37 K37
          refine c_reg ?_ -- region 32 comp.go:86
          refine wl (ro_arith rfl rfl rfl (Go.IntWalk.i64_in _ (by omega))) ?_
          refine wl (ro_move rfl) ?_
          refine wl_nil (x_then ?_)
          exact ⟨_, by omega, k + 1, rfl, by omega, hL2, kp _ ⟨rfl, rfl, rfl, rfl, rfl, rfl, trivial⟩⟩
        · try simp only [decide_eq_true_eq, decide_eq_false_iff_not, Bool.not_eq_true', Bool.not_eq_false', Bool.not_eq_eq_eq_not, Bool.not_true, Bool.not_false, beq_iff_eq, bne_iff_ne, ne_eq, beq_eq_false_iff_ne, bne_eq_false_iff_eq, gt_iff_lt, ge_iff_le, Int.not_lt, Int.not_le] at hc139
          obtain rfl : k = (fsAt S i).code.length := by omega
          rw [List.take_length] at hL
          have hL : ZLB E w ow O u (by8 S.length :: (S.take (i + 1)).flatMap fby) := by
            rw [take_flat (x := fsAt S i) (by unfold fsAt; rw [List.getD_eq_getElem?_getD, List.getElem?_eq_getElem hi']; rfl)]
            rw [hp6, hp5, hp3, hp2, hp1, hpre] at hL
            rw [show fby (fsAt S i) = [by8 (fsAt S i).np, by8 (fsAt S i).ns, by8 (fsAt S i).ups.length] ++ (fsAt S i).ups.flatMap uby ++ by16 (fsAt S i).ks.length ++ (fsAt S i).ks.flatMap kby ++ by16 (fsAt S i).code.length ++ (fsAt S i).code.flatMap iby from rfl]
            simpa only [List.append_assoc, List.cons_append, List.nil_append] using hL
          refine c_exit (x_thenX (x_thenX (x_blkX (x_blk (x_then (hK8 _ _ ?_))))))
          clear hK36 K36 hK8 K8
          refine c_reg ?_ -- region 33 comp.go:67
          refine wl (ro_arith rfl rfl rfl (Go.IntWalk.i64_in _ (by omega))) ?_
          refine wl (ro_move rfl) ?_
          refine wl_nil (x_then ?_)
          exact ⟨_, by omega, i + 1, rfl, by omega, hL, kp _ ⟨rfl, rfl, rfl, trivial⟩⟩
  · try simp only [decide_eq_true_eq, decide_eq_false_iff_not, Bool.not_eq_true', Bool.not_eq_false', Bool.not_eq_eq_eq_not, Bool.not_true, Bool.not_false, beq_iff_eq, bne_iff_ne, ne_eq, beq_eq_false_iff_ne, bne_eq_false_iff_eq, gt_iff_lt, ge_iff_le, Int.not_lt, Int.not_le] at hc33
    obtain rfl : i = S.length := by omega
    rw [List.take_length] at hL
    have hL : ZLB E w ow O u (img S) := hL
    obtain ⟨V1, ow1, x1, f1, hC1, hV1, hd1⟩ := hL.ex
    obtain ⟨gv, cv, lv, e5, hBv, q1, q2, q3, q4⟩ := hV1.o.pos (by unfold img; rw [List.length_cons]; omega)
    subst e5
    refine c_exit (x_thenX (x_thenX (x_blkX (x_then (hK4 _ _ ?_)))))
    clear hK7 K7 hK4 K4
    refine forget [(0, _)] ⟨rfl, trivial⟩ (fun e => ?_)
    refine c_seq (fun K39 hK39 => ?_)
    refine c_reg ?_ -- region 34 comp.go:90
    refine wl (ro_move rfl) ?_
    refine wl (ro_nilCheck rfl) ?_
    refine wl (ro_fieldAddr (k := 5) rfl fo_94_5) ?_
    refine wl (ro_loadB rfl sc_70 (hC1) rfl) ?_
    refine wl (ro_toS rfl se_70 (by kernel_rfl) st_9 hBv rfl (fun k y hy ↦ by
  have h1 : (lv.take ((img S).length * 1))[k]? = some (u8c y) := by rw [q4, List.getElem?_map, hy]; rfl
  have h2 := (List.getElem?_eq_some_iff.1 h1).1
  rw [List.getElem?_take_of_lt (by rw [List.length_take] at h2; omega)] at h1
  exact h1)) ?_
    refine wl (ro_assign rfl) ?_
    refine wl_nil (x_then (hK39 _ _ ?_))
    clear hK39 K39
    refine c_ret ?_
    refine bp_ret Tryz.results37 rfl ?_
    exact ⟨rfl, hL⟩
end
end Go.Proofs.Qxb6500568aGreatDoor
