import Derived.Test.Qxb6500568aGreatDoorZg
/- The compiler: jump and its patcher. -/
namespace Go.Proofs.Qxb6500568aGreatDoor
open Ieee
set_option linter.unusedVariables false
set_option linter.unusedSimpArgs false
set_option linter.unusedSectionVars false

theorem en_237 : Enters Tryz.prog 237 := enters_of Tryz.func237 (by kernel_rfl) (by kernel_rfl)
theorem en_139 : Enters Tryz.prog 139 := enters_of Tryz.func139 (by kernel_rfl) (by kernel_rfl)
theorem en_257 : Enters Tryz.prog 257 := enters_of Tryz.func257 (by kernel_rfl) (by kernel_rfl)
theorem en_232 : Enters Tryz.prog 232 := enters_of Tryz.func232 (by kernel_rfl) (by kernel_rfl)
section
variable {E : ZEnv} {w : World} {ow : Nat → Nat} {O : List Nat} {S : Fns} {f : ZAct} {q : List ZAct}

variable {ow' : Nat → Nat} {A : List ZAct} {j : Nat} {r : ZRow} {m : ZFn}
/-- blocks that belong to nobody get a tag. -/
theorem OwT.rt {tag : Nat} {v : Value} {e k n : Nat} {xs : List Value} (h : OwT w ow tag v e k n xs) (hE : ∀ b, b < w.heap.size → ow b ≠ 66 → ow' b = ow b) (ht : tag ≠ 66) : OwT w ow' tag v e k n xs := ⟨h.o, fun b hb => by
  have := h.t b hb
  rw [hE b (h.o.lt hb) (by rw [this]; exact ht)]; exact this⟩
theorem LpM.rt (hE : ∀ b, b < w.heap.size → ow b ≠ 66 → ow' b = ow b) : ∀ {l : List (Nat × List Nat)} {rows : List Value}, LpM E w ow j l rows → LpM E w ow' j l rows
  | [], rows, h => h
  | (b, br) :: rest, rows, ⟨rows', v, vals, h1, h2, h3, h4⟩ => ⟨rows', v, vals, h1, h2.rt hE (by omega), fun i p hp => by
    obtain ⟨u, q1, b2, b5, e, k1, k2, k3, k4⟩ := h3 i p hp
    exact ⟨u, q1, b2, b5, e, k1, by rw [hE _ k1.lt (by omega)]; exact k2, k3, by rw [hE _ k3.lt (by omega)]; exact k4⟩, LpM.rt hE h4⟩
theorem CM.rt (h : CM E w ow O S A) (hE : ∀ b, b < w.heap.size → ow b ≠ 66 → ow' b = ow b) (hd : ∀ b, w.heap.size ≤ b → ow' b = 66) : CM E w ow' O S A := by
  obtain ⟨R, h1, h2, h3⟩ := h.F
  obtain ⟨Gp, n1, n2⟩ := h.N
  have ta := h.ta
  have tc := h.tc
  refine ⟨h.cb, by rw [hE _ h.cb.lt (by omega)]; exact h.tc, by rw [hE _ h2.lt (by omega)]; exact h.ta, ⟨Gp, n1.rt hE (by omega), n2⟩, ⟨R, h1, h2, fun j r hr => ?_⟩, h.un, h.mem, hd⟩
  obtain ⟨m, q⟩ := h3 j r hr
  obtain ⟨rows, p1, p2⟩ := q.k.lps
  refine ⟨m, ⟨q.k.loc.rt hE (by omega), q.k.ups.rt hE (by omega), q.k.ks.rt hE (by omega), q.k.code.rt hE (by omega), rows, p1.rt hE (by omega), p2.rt hE⟩, fun ho => ?_, q.a, q.i⟩
  have o := q.o ho
  obtain ⟨b, q1, q2, q3⟩ := o.nums
  obtain ⟨b', k1, k2, k3⟩ := o.strs
  exact ⟨o.c, o.par, o.np, o.ns, o.ups, o.ks, ⟨b, q1, q2, by rw [hE _ q2.lt (by omega)]; exact q3⟩, ⟨b', k1, k2, by rw [hE _ k2.lt (by omega)]; exact k3⟩⟩
/-- the jump at place p lands at x. -/
def setX (c : Cod) (p x : Nat) : Cod := c.modify p fun i => (i.1, x)
set_option maxHeartbeats 4000000 in
theorem jump195 (hR : CM E w ow O S (f :: q)) {oc : Nat} (hc : f.code.length ≤ 50000) :
    Ret Tryz.prog 195 [fptr E f.j, u8n oc] w (fun r w' => ∃ ow', Xt w ow ow' ∧ Fram (tg ow cpT) w w' ∧ CM E w' ow' O S ({ f with code := f.code ++ [(oc, 65535)] } :: q) ∧ Pat E w' ow' f.j f.code.length r) := by
  have hF : Fram (tg ow cpT) w w := Fram.refl _ _
  have hX : Xt w ow ow := Xt.refl _ _
  refine ret_of Tryz.func195 rfl Tryz.ntmps195 rfl ?_
  refine c_seq (fun K1 hK1 => ?_)
  refine c_reg ?_ -- region 0 fn.go:60
  refine wl_box rfl rfl (fun b2 w1 hbb2 h2 F1 => ?_)
  have hbsb2 := Nat.le_trans hF.size hbb2
  have kh2 := hR.df b2 hbb2
  replace hF := hF.thenDrew.thenN F1
  replace hR := hR.thruN ((Fram.refl none' _).thenDrew.thenN F1)
  refine wl (ro_assign rfl) ?_
  refine wl_nil (x_then (hK1 _ _ ?_))
  clear hK1 K1
  refine forget [(1, _), (2, _)] ⟨rfl, rfl, trivial⟩ (fun e => ?_)
  refine c_seq (fun K2 hK2 => ?_)
  obtain ⟨R_, z_, op⟩ := hR.open (f := f) (by simp)
  have hG := op.B
  have hC := hR.cb
  have khG := hR.ta
  have khC := hR.tc
  refine c_reg ?_ -- region 1 fn.go:61
  refine wl (ro_loadB rfl sc_128 (h2) rfl) ?_
  refine wl (ro_nilCheck rfl) ?_
  refine wl (ro_fieldAddr (k := 9) rfl fo_199_9) ?_
  refine wl (ro_loadB rfl sc_196 hG (op.row 9 (by decide))) ?_
  refine wl (ro_lenL rfl se_196) ?_
  refine wl_new (ze_3) (fun b5 w2 hbb5 h5 F2 => ?_)
  have hbsb5 := Nat.le_trans hF.size hbb5
  have hneb2b5 : b2 < b5 := Nat.lt_of_lt_of_le h2.lt hbb5
  have hneE.gbb5 : E.gb < b5 := Nat.lt_of_lt_of_le hG.lt hbb5
  have hneE.cbb5 : E.cb < b5 := Nat.lt_of_lt_of_le hC.lt hbb5
  have kh5 := hR.df b5 hbb5
  replace hF := hF.thenDrew.thenN F2
  replace hR := hR.thruN ((Fram.refl none' _).thenDrew.thenN F2)
  replace h2 := F2.blkN h2
  replace hG := F2.blkN hG
  replace hC := F2.blkN hC
  refine wl_put rfl rfl rfl sz_3 h5 (by simp) (rfl) (fun w3 h5 F3 => ?_)
  replace hF := hF.thenDrew.thenO F3 (by first | exact .inr (by omega) | exact .inl rfl | exact .inl (by assumption) | assumption)
  replace hR := hR.hbput ((Fram.refl (one b5) _).thenDrew.thenO F3 (.inl rfl))
  replace h2 := F3.blkO h2 (by first | omega | exact ow_ne (by assumption) (by assumption) (by omega))
  replace hG := F3.blkO hG (by first | omega | exact ow_ne (by assumption) (by assumption) (by omega))
  replace hC := F3.blkO hC (by first | omega | exact ow_ne (by assumption) (by assumption) (by omega))
  refine wl_nil (x_then (hK2 _ _ ?_))
  clear hK2 K2
  refine forget [(1, _), (2, _), (5, _)] ⟨rfl, rfl, rfl, trivial⟩ (fun e => ?_)
  refine c_seq (fun K3 hK3 => ?_)
  refine c_reg ?_ -- region 2 fn.go:62
  refine wl (ro_loadB rfl sc_128 (by assumption) rfl) ?_
  refine wl (ro_move rfl) ?_
  refine wl (ro_build rfl bld_203_0_1) ?_
  refine wl_em (is := [(oc, 65535)]) (eo_bsI1 rfl se_196 zx_203) rfl hR rfl (by simp; omega) ?_
  intro u4 ow4 x4 f4 r4
  obtain ⟨h2, kh2⟩ := cp_loc' x4 f4 h2 kh2
  obtain ⟨h5, kh5⟩ := cp_loc' x4 f4 h5 kh5
  have hs4 := hF.size
  replace hF := cp_trans' hX hF f4
  replace hX := hX.trans hs4 x4
  replace hR := r4
  refine wl_nil (x_then (hK3 _ _ ?_))
  clear hK3 K3
  refine forget [(2, _), (5, _)] ⟨rfl, rfl, trivial⟩ (fun e => ?_)
  refine c_seq (fun K4 hK4 => ?_)
  refine c_reg ?_ -- region 3 fn.go:63
  refine wl (ro_makeFunc (caps := [.tmp 2, .tmp 5]) rfl) ?_
  refine wl (ro_assign rfl) ?_
  refine wl_nil (x_then (hK4 _ _ ?_))
  clear hK4 K4
  refine c_ret ?_
  refine bp_ret Tryz.results195 rfl ?_
  have hsw := hF.size
  refine ⟨ot (ot ow4 b2 301) b5 301, fun b hb ↦ ?_, hF, hR.rt (fun b hb q ↦ ?_) (fun b hb ↦ ?_), b2, b5, rfl, h2, ?_, h5, ot_self _ _ _⟩
  · rw [ot_old (by omega), ot_old (by omega)]; exact hX b hb
  · rw [ot_old (fun e ↦ q (by rw [e]; exact kh5)), ot_old (fun e ↦ q (by rw [e]; exact kh2))]
  · have := h2.lt
    have := h5.lt
    rw [ot_old (by omega), ot_old (by omega)]; exact hR.df b hb
  · rw [ot_old (by omega), ot_self]
theorem rwsE_set {α : Type} {enc : α → List Value} {k : Nat} (hk : ∀ x, (enc x).length = k) {R : List α} {j o : Nat} {r r' : α} {v : Value} (h : R[j]? = some r) (ho : o < k) (he : enc r' = (enc r).set o v) : (rws enc R).set (j * k + o) v = rws enc (R.set j r') := by
  have hj := (List.getElem?_eq_some_iff.1 h).1
  have hl : j * k + o < R.length * k := by
    have := Nat.mul_le_mul_right k (show j + 1 ≤ R.length from hj)
    rw [Nat.add_mul] at this; omega
  rw [set_td (by rw [rws_len hk]; exact hl)]
  exact rws_put hk h rfl (by omega) (by rw [he, set_td (by rw [hk]; exact ho)])
theorem ZOp.same {R : List ZRow} {z : ZSl} (op : ZOp E w ow O S A f R z) {H : Array Obj} {o : Nat} {v : Value} (hB : Blk H E.gb (rws fnc R) 199) (ho : o < 11) (hv : (fnc (mkR E S f z))[o]? = some v) : Blk H E.gb ((rws fnc R).set (f.j * 11 + o) v) 199 := by
  have h := op.row o ho
  rw [hv] at h
  have : (rws fnc R).set (f.j * 11 + o) v = rws fnc R := by
    obtain ⟨hl, he⟩ := List.getElem?_eq_some_iff.1 h
    rw [← he]; exact List.set_getElem_self hl
  rw [this]; exact hB
theorem modify_setL {α : Type} {l : List α} {i : Nat} {x : α} (h : l[i]? = some x) (g : α → α) : l.modify i g = l.set i (g x) := by
  refine List.ext_getElem? fun k => ?_
  rw [List.getElem?_modify, List.getElem?_set]
  by_cases e : i = k
  · subst e
    rw [if_pos rfl, if_pos (List.getElem?_eq_some_iff.1 h).1, h]; simp
  · rw [if_neg e]; simp [e]
theorem setX_len (c : Cod) (p x : Nat) : (setX c p x).length = c.length := by unfold setX; exact List.length_modify _ _ _
set_option maxHeartbeats 4000000 in
theorem patch237F (hR : CM E w ow O S (f :: q)) {p : Nat} {v : Value} (hP : Pat E w ow f.j p v) (hp : p < f.code.length) (hc : f.code.length ≤ 60000) :
    CallsV Tryz.prog v [] w (fun r w' => r = .tuple #[] ∧ ∃ ow', Xt w ow ow' ∧ Fram (fun b => ow b = 260 + f.j) w w' ∧ CM E w' ow' O S ({ f with code := setX f.code p f.code.length } :: q)) := by
  obtain ⟨b2, b5, rfl, h2, k2, h5, k5⟩ := hP.ex
  refine ⟨237, [], [ptr b2, ptr b5], rfl, en_237, ?_⟩
  show Ret Tryz.prog 237 [ptr b2, ptr b5] w _
  obtain ⟨R_, z_, op⟩ := hR.open (f := f) (by simp)
  have hG := op.B
  obtain ⟨gc, capc, lc, e1, hC, q1, q2, q3, q4⟩ := op.code.o.pos (by omega)
  have hrw : (fnc (mkR E S f z_))[9]? = some (.slice (some ⟨gc, 0, none⟩) f.code.length capc) := by show some (Value.slice z_.ca f.code.length z_.cc) = _; rw [e1]
  have hgt : ow gc = 260 + f.j := op.code.t gc (by rw [e1]; rfl)
  have hta := hR.ta
  have hjj := op.j
  have hgg : gc ≠ E.gb := fun e => by rw [e] at hgt; omega
  obtain ⟨i0, hi0⟩ : ∃ i0, f.code[p]? = some i0 := ⟨_, List.getElem?_eq_getElem hp⟩
  refine ret_of Tryz.func237 rfl Tryz.ntmps237 rfl ?_
  refine c_piL 13 [(0, false), (1, false), (2, false), (3, false), (4, false), (5, false), (6, false), (7, false), (8, false), (9, false), (10, false), (11, false), (12, false)] (SameH _) mixed (by kernel_rfl) rfl (by kernel_rfl) (po_bp) (sameH_now _ _) ?_ -- region 0 fn.go:63
  refine ql_ro rfl (fun w hS => ro_loadB rfl sc_128 (Blk.of_heap h2 hS) rfl) ?_
  refine ql_ro rfl (fun w hS => ro_nilCheck rfl) ?_
  refine ql_ro rfl (fun w hS => ro_fieldAddr (k := 9) rfl fo_199_9) ?_
  refine ql_ro rfl (fun w hS => ro_loadB rfl sc_196 (Blk.of_heap hG hS) ((op.row 9 (by decide)).trans hrw)) ?_
  refine ql_ro rfl (fun w hS => ro_loadB rfl sc_3 (Blk.of_heap h5 hS) rfl) ?_
  refine ql_ro rfl (fun w hS => ro_loadB rfl sc_128 (Blk.of_heap h2 hS) rfl) ?_
  refine ql_ro rfl (fun w hS => ro_nilCheck rfl) ?_
  refine ql_ro rfl (fun w hS => ro_fieldAddr (k := 9) rfl fo_199_9) ?_
  refine ql_ro rfl (fun w hS => ro_loadB rfl sc_196 (Blk.of_heap hG hS) ((op.row 9 (by decide)).trans hrw)) ?_
  refine ql_ro rfl (fun w hS => ro_lenL rfl se_196) ?_
  refine ql_ro rfl (fun w hS => ro_conv rfl sc_3 in_201 (Go.IntWalk.u16_in _ (by omega))) ?_
  refine ql_ro rfl (fun w hS => ro_indexAddr (et := 203) (k := 2) rfl rfl se_196 rfl (by omega)) ?_
  refine ql_ro rfl (fun w hS => ro_fieldAddr (k := 1) rfl fo_203_1) ?_
  refine ql_put rfl rfl rfl rfl sz_201 hC ((by rw [q3]; omega)) (rfl) (fun w1 hC F1 => ?_)
  have hF3 := (F1)
  replace hG := hF3.blkO hG (fun e ↦ hgg e.symm)
  refine ?_
  refine bp_end Tryz.results237 rfl ?_
  have hz := hR.codeS (c' := setX f.code p f.code.length) (va := some ⟨gc, 0, none⟩) (vc := capc) op ((Fram.refl none' w).thenDrew) ?_ (hF3.mono (fun b _ e ↦ ?_)) ?_ (Fram.refl _ _) ?_
  · obtain ⟨ow', x1, x2, x3⟩ := hz
    exact ⟨rfl, ow', x1, ((Fram.refl none' w).thenDrew.wide (G := fun b ↦ ow b = 260 + f.j)).trans' hF3 (fun c _ e ↦ by have e : c = gc := e; rw [e]; exact hgt), x3⟩
  · rw [setX_len]
    refine ⟨by rw [rws_len inc_len, setX_len], .inr ⟨gc, capc, _, rfl, hC, q1, q2, by rw [List.length_set]; exact q3, ?_⟩⟩
    rw [List.take_set, q4, Nat.zero_add]
    rw [rwsE_set inc_len (r' := (i0.1, f.code.length)) hi0 (by decide) rfl]
    congr 1
    exact (modify_setL hi0 (fun i : Nat × Nat ↦ (i.1, f.code.length))).symm
  · have e : b = gc := e
    show Value.ownBlock _ = some b
    rw [e1, e]; rfl
  · rw [setX_len, e1]; exact fun b q ↦ .inl q
  · rw [setX_len]
    exact op.same hG (by decide) hrw
theorem CallsV.mono {P : Program} {v : Value} {vs : List Value} {R R' : Value → World → Prop} (h : CallsV P v vs w R) (k : ∀ r w', R r w' → R' r w') : CallsV P v vs w R' := by
  obtain ⟨g, bs, cs, e, hf, hc⟩ := h
  exact ⟨g, bs, cs, e, hf, Calls.mono hc (fun en w' ⟨v, e, hv⟩ => ⟨v, e, k v w' hv⟩)⟩
theorem patch237 (hR : CM E w ow O S (f :: q)) {p : Nat} {v : Value} (hP : Pat E w ow f.j p v) (hp : p < f.code.length) (hc : f.code.length ≤ 60000) :
    CallsV Tryz.prog v [] w (fun r w' => r = .tuple #[] ∧ ZP E w ow O S ({ f with code := setX f.code p f.code.length } :: q) w') :=
  (patch237F hR hP hp hc).mono (fun r w' ⟨h1, ow', h2, h3, h4⟩ => ⟨h1, ow', h2, h3.mono (fun b _ e => by have := (hR.mem f (by simp)).2; show cpT (ow b); rw [e]; unfold cpT; omega), h4⟩)
end
end Go.Proofs.Qxb6500568aGreatDoor
