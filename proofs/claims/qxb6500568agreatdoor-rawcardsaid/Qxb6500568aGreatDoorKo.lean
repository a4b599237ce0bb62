import Derived.Test.Qxb6500568aGreatDoorKn
import Derived.Test.Qxb6500568aGreatDoorGn
/- Panics; the stack's push and pop. -/
namespace Go.Proofs.Qxb6500568aGreatDoor
open Ieee
set_option linter.unusedVariables false
set_option linter.unusedSimpArgs false
set_option linter.unusedSectionVars false

theorem ro_subN {P : Program} {n : Nat} {e : Nat → Option Value} {w : World} {t t' : TypeId} {x y : Operand} {m k r : Nat} (hx : evO n e x = some (i64c m)) (hy : evO n e y = some (i64c k)) (h : r + k = m) (hm : m < 9223372036854775808) : RO P n e w (.binOp .sub t x y t') (i64c r) := by
  have e : ((m : Int) - (k : Int)) = ((r : Nat) : Int) := by omega
  have := ro_arith (P := P) (w := w) (op := .sub) (t := t) (t' := t') hx hy rfl (Go.IntWalk.i64_in _ (by omega))
  rw [e] at this
  exact this
/-- an error value flies. -/
def Thr (v : PV) (w : World) (pv : Value) (w' : World) : Prop := ∃ b, pv = .iface 332 (ptr b) ∧ Blk w'.heap b (pvc v) 335 ∧ Fram none' w w' ∧ w.heap.size ≤ b
theorem stop240 {w : World} {e : Nat} : RetP Tryz.prog 240 [i64c e] w (fun _ _ => False) (fun pv w' => pv = .iface 336 (i64c e) ∧ w' = w) := by
  refine retp_of Tryz.func240 rfl Tryz.ntmps240 rfl ?_
  refine c_reg ?_ -- region 0 exec.go:18
  refine wl (ro_move rfl) ?_
  refine wl (ro_mkIface rfl (by kernel_rfl)) ?_
  refine wl_panic rfl ?_
  exact bpp_pan ⟨rfl, rfl⟩
theorem raise259 {w : World} {s : Str} : RetP Tryz.prog 259 [S s] w (fun _ _ => False) (Thr (vStr s) w) := by
  refine retp_of Tryz.func259 rfl Tryz.ntmps259 rfl ?_
  refine c_reg ?_ -- region 0 exec.go:15
  refine wl (ro_move rfl) ?_
  refine wl (ro_build rfl bld_119_0_2) ?_
  refine wl (ro_build rfl bld_335_0) ?_
  refine wl_box (cs := (pvc (vStr s))) rfl rfl (fun b5 w1 hbb5 h5 F1 => ?_)
  refine wl (ro_mkIface rfl (by kernel_rfl)) ?_
  refine wl_panic rfl ?_
  exact bpp_pan ⟨b5, rfl, h5, F1, hbb5⟩
theorem throw287 {w : World} {v : PV} : RetP Tryz.prog 287 [pv v] w (fun _ _ => False) (Thr v w) := by
  have hF : Fram none' w w := Fram.refl _ _
  refine retp_of Tryz.func287 rfl Tryz.ntmps287 rfl ?_
  refine c_seq (fun K1 hK1 => ?_)
  refine c_reg ?_ -- region 0 exec.go:12
  refine wl_box (cs := (pvc v)) rfl rfl (fun b1 w1 hbb1 h1 F1 => ?_)
  have hbsb1 := Nat.le_trans hF.size hbb1
  replace hF := hF.thenDrew.thenN F1
  refine wl_nil (x_then (hK1 _ _ ?_))
  clear hK1 K1
  refine c_reg ?_ -- region 1 exec.go:12
  refine wl (ro_loadAggB rfl ag_119 (by assumption) rfl rfl) ?_
  refine wl (ro_build rfl bld_335_0) ?_
  refine wl_box (cs := (pvc v)) rfl rfl (fun b4 w2 hbb4 h4 F2 => ?_)
  have hbsb4 := Nat.le_trans hF.size hbb4
  have hneb1b4 : b1 < b4 := Nat.lt_of_lt_of_le h1.lt hbb4
  replace hF := hF.thenDrew.thenN F2
  replace h1 := F2.blkN h1
  refine wl (ro_mkIface rfl (by kernel_rfl)) ?_
  refine wl_panic rfl ?_
  exact bpp_pan ⟨b4, rfl, h4, hF, by omega⟩
section
variable {C : VC} {w w' u : World} {ow ow' : Nat → Nat} {V : VS} {e fuel t : Nat} {out : Str} {T : List Tb} {Vv : Nat → Value} {U : Nat → Nat → Value} {L : VL} {x : VTh} {G : Nat → Prop}
/-- the machine's lists turned, its tables not. -/
theorem VW.turn (h : VW C w ow V e fuel out T Vv U) {V' : VS} {e' fuel' : Nat} {out' : Str} {Vv' : Nat → Value} {U' : Nat → Nat → Value} {L' : VL} (x1 : Xt w ow ow') (f : Fram (tg ow vmT) w u) (hnm : NmV C u ow') (op : VOp C.E u ow' L' Vv' U') (vl : VSL C.F L' V' fuel' out' e') (hp : Vv' 2 = Vv 2) (hf : fuel' ≤ fuel) (hc : V'.clos.length ≤ 24) (he : e' ≤ 300) : VW C u ow' V' e' fuel' out' T Vv' U' :=
  ⟨⟨L', op, vl⟩, h.tb.far f (fun b q _ z => vm_rt z q) x1, hnm, hp.trans h.hp, Nat.lt_of_le_of_lt hf h.fu, h.co, hc, he⟩
/-- the number layer lies apart from the machine's own lists. -/
theorem NmV.off (h : NmV C w ow) (f : Fram G w u) (x1 : Xt w ow ow') (hn : ∀ b, ow b = 412 ∨ ow b = 413 → b < w.heap.size → ¬ G b) : NmV C u ow' := by
  obtain ⟨bb, l, h1, h2, h3, h4, h5⟩ := h
  exact ⟨bb, l, h1.fram f (hn _ (.inl h4) h1.lt), h2.fram f (hn _ (.inr h5) h2.lt), h3, by rw [x1 _ h1.lt]; exact h4, by rw [x1 _ h2.lt]; exact h5⟩
theorem VW.eUp (h : VW C w ow V e fuel out T Vv U) {e' : Nat} (he : e ≤ e') (h3 : e' ≤ 300) : VW C w ow V e' fuel out T Vv U := by
  obtain ⟨L, op, vl⟩ := h.ex
  obtain ⟨cl, ux, c1, c2, c3, c4⟩ := vl.c
  exact ⟨⟨L, op, ⟨vl.p, vl.pb, ⟨cl, ux, c1, c2, c3.le he, by omega⟩, vl.e, by have := vl.eb; omega, vl.o, vl.t, vl.sb, vl.n, vl.f, vl.z, by have := vl.ec; omega⟩⟩, h.tb, h.nm, h.hp, h.fu, h.co, h.cb, h3⟩
/-- a list of a thread grown. -/
theorem VW.grT {i n' : Nat} {v' : Value} {xs' : List Value} {u1 u2 : World} {V' : VS} (h : VW C w ow V e fuel out T Vv U) (op : VOp C.E w ow L Vv U) (ht : t < 5) (hi : thI i) (hon : Own u1.heap v' (thE i).1 (thE i).2 n' xs') (G1 : Fram (own1 (U t i)) w u1) (hnb : nob (U t i) v' w) (fr : Fram (one C.E.tb) u1 u2)
    (hB : Blk u2.heap C.E.tb (rws (thc L (up1 U t (up1 (U t) i v'))) (List.range 5)) 269) (vl' : VSL C.F { L with T := up1 L.T t (up1 (L.T t) i (n', xs')) } V' fuel out e) (hcl : V'.clos = V.clos) :
    ∃ ow', Xt w ow ow' ∧ Fram (fun b => b = C.E.tb ∨ ow b = 420 + 10 * i + t) w u2 ∧ VW C u2 ow' V' e fuel out T Vv (up1 U t (up1 (U t) i v')) := by
  have ha := op.u t ht i hi
  have f2 : Fram (fun b => b = C.E.tb ∨ ow b = 420 + 10 * i + t) w u2 := (G1.mono (fun b hb y => .inr (ha.t b y))).trans' fr (fun b _ y => .inl y)
  obtain ⟨ow1, x1, f1, o1⟩ := op.growT ht hi hon G1 hnb fr hB
  have htt := op.tt
  refine ⟨ow1, x1, f2, h.turn x1 f1 (h.nm.off f2 x1 (fun b q _ z => ?_)) o1 vl' rfl (Nat.le_refl _) (by rw [hcl]; exact h.cb) h.eb⟩
  unfold thI at hi
  rcases z with z | z
  · rw [z, htt] at q; omega
  · omega
/-- a thread's row turned, list i cut. -/
theorem VW.cuT {i n' : Nat} {v' : Value} {xs' : List Value} {V' : VS} (h : VW C w ow V e fuel out T Vv U) (op : VOp C.E w ow L Vv U) (ht : t < 5) (hi : thI i) (fr : Fram (one C.E.tb) w u)
    (hB : Blk u.heap C.E.tb (rws (thc L (up1 U t (up1 (U t) i v'))) (List.range 5)) 269) (hO : OwT w ow (420 + 10 * i + t) v' (thE i).1 (thE i).2 n' xs') (vl' : VSL C.F { L with T := up1 L.T t (up1 (L.T t) i (n', xs')) } V' fuel out e) (hcl : V'.clos = V.clos) :
    VW C u ow V' e fuel out T Vv (up1 U t (up1 (U t) i v')) := by
  have htt := op.tt
  have f1 : Fram (tg ow vmT) w u := fr.mono (fun b _ z => by have z : b = C.E.tb := z; show vmT (ow b); rw [z, htt]; unfold vmT; omega)
  refine h.turn (Xt.refl _ _) f1 (h.nm.off fr (Xt.refl _ _) (fun b q _ z => by have z : b = C.E.tb := z; rw [z, htt] at q; omega)) (op.allT (L' := { L with T := up1 L.T t (up1 (L.T t) i (n', xs')) }) fr hB (fun j hj k hk => ?_) rfl rfl rfl rfl) vl' rfl (Nat.le_refl _) (by rw [hcl]; exact h.cb) h.eb
  by_cases hjt : j = t
  · subst hjt
    by_cases hki : k = i
    · subst hki
      show OwT w ow _ (up1 U j _ j k) _ _ (up1 L.T j _ j k).1 (up1 L.T j _ j k).2
      rw [up1_self, up1_self, up1_self, up1_self]
      exact hO
    · show OwT w ow _ (up1 U j _ j k) _ _ (up1 L.T j _ j k).1 (up1 L.T j _ j k).2
      rw [up1_self, up1_ne hki, up1_self, up1_ne hki]
      exact op.u j hj k hk
  · show OwT w ow _ (up1 U t _ j k) _ _ (up1 L.T t _ j k).1 (up1 L.T t _ j k).2
    rw [up1_ne hjt, up1_ne hjt]
    exact op.u j hj k hk
/-- a thread's row turned in its state. -/
theorem VW.stT {n : Nat} (h : VW C w ow V e fuel out T Vv U) (op : VOp C.E w ow L Vv U) (vl : VSL C.F L V fuel out e) (hx : V.ths[t]? = some x) (fr : Fram (one C.E.tb) w u) (hB : Blk u.heap C.E.tb (vrs (up1 (thc L U) t [i64c n, i64c x.fn, U t 2, U t 3, U t 4])) 269) :
    VW C u ow (V.setT t { x with st := n }) e fuel out T Vv U := by
  have htt := op.tt
  have f1 : Fram (tg ow vmT) w u := fr.mono (fun b _ z => by have z : b = C.E.tb := z; show vmT (ow b); rw [z, htt]; unfold vmT; omega)
  refine h.turn (Xt.refl _ _) f1 (h.nm.off fr (Xt.refl _ _) (fun b q _ z => by have z : b = C.E.tb := z; rw [z, htt] at q; omega)) (op.hd (L' := { L with h := up1 L.h t (i64c n, i64c x.fn) }) fr ?_ rfl rfl rfl rfl rfl) (vl.st hx n) rfl (Nat.le_refl _) h.cb h.eb
  show Blk _ _ (vrs (thc _ U)) 269
  rw [thc_h]
  exact hB
/-- a list of a thread written in place. -/
theorem VW.wrT {i n' : Nat} {xs' : List Value} {V' : VS} (h : VW C w ow V e fuel out T Vv U) (op : VOp C.E w ow L Vv U) (ht : t < 5) (hi : thI i) (f : Fram (fun b => ow b = 420 + 10 * i + t) w u) (hO : OwT u ow (420 + 10 * i + t) (U t i) (thE i).1 (thE i).2 n' xs')
    (vl' : VSL C.F { L with T := up1 L.T t (up1 (L.T t) i (n', xs')) } V' fuel out e) (hcl : V'.clos = V.clos) : VW C u ow V' e fuel out T Vv U :=
  h.turn (Xt.refl _ _) (f.mono (fun b _ z => by show vmT (ow b); rw [z]; unfold thI at hi; unfold vmT; omega)) (h.nm.off f (Xt.refl _ _) (fun b q _ z => by unfold thI at hi; omega)) (op.wrT ht hi f hO) vl' rfl (Nat.le_refl _) (by rw [hcl]; exact h.cb) h.eb
/-- a list of the machine written in place. -/
theorem VW.wrA {i n' e' : Nat} {xs' : List Value} {V' : VS} {out' : Str} (h : VW C w ow V e fuel out T Vv U) (op : VOp C.E w ow L Vv U) (hi : vmI i) (f : Fram (fun b => ow b = 400 + i) w u) (hO : OwT u ow (400 + i) (Vv i) (vmE i).1 (vmE i).2 n' xs')
    (vl' : VSL C.F { L with A := up1 L.A i (n', xs') } V' fuel out' e') (hc : V'.clos.length ≤ 24) (he : e' ≤ 300) : VW C u ow V' e' fuel out' T Vv U :=
  h.turn (Xt.refl _ _) (f.mono (fun b _ z => by show vmT (ow b); rw [z]; unfold vmI at hi; unfold vmT; omega)) (h.nm.off f (Xt.refl _ _) (fun b q _ z => by unfold vmI at hi; omega)) (op.wrA hi f hO) vl' rfl (Nat.le_refl _) hc he
/-- a list of the machine grown. -/
theorem VW.grA {i n' e' : Nat} {v' : Value} {xs' : List Value} {u1 u2 : World} {V' : VS} {out' : Str} (h : VW C w ow V e fuel out T Vv U) (op : VOp C.E w ow L Vv U) (hi : vmI i) (h2 : 2 < i) (hon : Own u1.heap v' (vmE i).1 (vmE i).2 n' xs') (G1 : Fram (own1 (Vv i)) w u1) (hnb : nob (Vv i) v' w) (fr : Fram (one C.E.mb) u1 u2)
    (hB : Blk u2.heap C.E.mb (mbc C.E (up1 Vv i v') L) 89) (vl' : VSL C.F { L with A := up1 L.A i (n', xs') } V' fuel out' e') (hc : V'.clos.length ≤ 24) (he : e' ≤ 300) :
    ∃ ow', Xt w ow ow' ∧ Fram (fun b => b = C.E.mb ∨ ow b = 400 + i) w u2 ∧ VW C u2 ow' V' e' fuel out' T (up1 Vv i v') U := by
  have ha := op.a i hi
  have f2 : Fram (fun b => b = C.E.mb ∨ ow b = 400 + i) w u2 := (G1.mono (fun b hb y => .inr (ha.t b y))).trans' fr (fun b _ y => .inl y)
  obtain ⟨ow1, x1, f1, o1⟩ := op.growA hi hon G1 hnb fr hB
  have htt := op.tm
  refine ⟨ow1, x1, f2, h.turn x1 f1 (h.nm.off f2 x1 (fun b q _ z => ?_)) o1 vl' (up1_ne (by omega)) (Nat.le_refl _) hc he⟩
  unfold vmI at hi
  rcases z with z | z
  · rw [z, htt] at q; omega
  · omega
/-- the fuel turned. -/
theorem VW.fuT {n : Nat} (h : VW C w ow V e fuel out T Vv U) (op : VOp C.E w ow L Vv U) (vl : VSL C.F L V fuel out e) (hn : n ≤ fuel) (fr : Fram (one C.E.mb) w u) (hB : Blk u.heap C.E.mb (mbc C.E Vv { L with fu := i64c n }) 89) : VW C u ow V e n out T Vv U := by
  have htm := op.tm
  exact h.turn (Xt.refl _ _) (fr.mono (fun b _ z => by have z : b = C.E.mb := z; show vmT (ow b); rw [z, htm]; unfold vmT; omega)) (h.nm.off fr (Xt.refl _ _) (fun b q _ z => by have z : b = C.E.mb := z; rw [z, htm] at q; omega)) (op.own (L' := { L with fu := i64c n }) fr hB rfl rfl rfl op.nt) (vl.fuT n) rfl hn h.cb h.eb
theorem rowT (vl : VSL C.F L V fuel out e) (hx : V.ths[t]? = some x) {i : Nat} {v' : Value} (hi : i = 2 ∨ i = 3 ∨ i = 4) {H : Array Obj} (hB : Blk H C.E.tb (vrs (up1 (thc L U) t ((thr5 x U t).set i v'))) 269) : Blk H C.E.tb (rws (thc L (up1 U t (up1 (U t) i v'))) (List.range 5)) 269 := by
  rw [thc_up hi, VOp.rw5 vl hx]
  exact hB
/-- cells in a row of some block. -/
def WinB (w : World) (b o : Nat) (cs : List Value) : Prop := ∃ l t, Blk w.heap b l t ∧ (l.drop o).take cs.length = cs
theorem WinB.fram {b o : Nat} {cs : List Value} (h : WinB w b o cs) (f : Fram G w u) (hn : ¬ G b) : WinB u b o cs := by
  obtain ⟨l, t, h1, h2⟩ := h
  exact ⟨l, t, h1.fram f hn, h2⟩
theorem take_win {α : Type} {l l' : List α} {N o m : Nat} (h : l.take N = l'.take N) (hm : o + m ≤ N) : (l.drop o).take m = (l'.drop o).take m := by
  have e1 : ∀ q : List α, (q.drop o).take m = ((q.take N).drop o).take m := fun q => by
    rw [List.drop_take, List.take_take]
    congr 1
    omega
  rw [e1 l, e1 l', h]
set_option maxHeartbeats 4000000 in
theorem push151 (h : VW C w ow V e fuel out T Vv U) (hx : V.ths[t]? = some x) {b : Nat} {vs : List PV} (hB : Blk w.heap b (rws pvc vs) 119) (hlen : x.stack.length + vs.length ≤ 100000) :
    Ret Tryz.prog 151 [tptr C t, .slice (some ⟨b, 0, none⟩) vs.length vs.length] w (fun r w' => r = .tuple #[] ∧ ∃ v2 ow', Xt w ow ow' ∧ Fram (fun b => b = C.E.tb ∨ ow b = 440 + t) w w' ∧ VW C w' ow' (V.setT t { x with stack := x.stack ++ vs }) e fuel out T Vv (up1 U t (up1 (U t) 2 v2)) ∧
      ∀ ab ao cs, WinB w ab ao cs → ab ≠ C.E.tb → (own1 (U t 2) ab → ao + cs.length ≤ x.stack.length * 3) → WinB w' ab ao cs ∧ (own1 v2 ab → own1 (U t 2) ab ∨ w.heap.size ≤ ab)) := by
  obtain ⟨L, op, vl⟩ := h.ex
  have ht := h.lt hx
  have hT := op.trow vl hx
  have hS := op.sk vl hx ht
  have htt := op.tt
  obtain ⟨g2, c2, e2⟩ := hS.form
  unfold thr5 at hT
  rw [e2] at hT
  have hoT : ¬ own1 (U t 2) C.E.tb := fun y => by have := hS.t _ y; rw [htt] at this; omega
  refine ret_of Tryz.func151 rfl Tryz.ntmps151 rfl ?_
  refine c_reg ?_ -- region 0 exec.go:21
  refine wl (ro_move rfl) ?_
  refine wl (ro_move rfl) ?_
  refine wl (ro_nilCheck rfl) ?_
  refine wl (ro_fieldAddr (k := 2) rfl fo_269_2) ?_
  refine wl (ro_loadB rfl sc_83 (hT) (vt_get rfl ht (by decide))) ?_
  refine wl (ro_move rfl) ?_
  refine wl_appF (t := 83) (et := 119) (k := 3) (m := x.stack.length) (news := rws pvc vs) (by rw [← e2]; rfl) rfl se_83 zx_119 by_119 rfl hS.o hB (by rw [List.drop_zero, ← rws_len pvc_len]; exact List.take_length) (rws_len pvc_len _) (rws_oneC pvc_one _) (by omega) (by omega) ?_
  intro v' u1 hon G1 hnb' hfi
  obtain ⟨wa, wc, rfl⟩ := hon.form
  replace hT := G1.blkF hT hoT
  have hF : Fram (one C.E.tb) u1 u1 := Fram.refl _ _
  refine wl (ro_nilCheck rfl) ?_
  refine wl (ro_fieldAddr (k := 2) rfl fo_269_2) ?_
  refine wl_put rfl rfl rfl sz_83 hT (vt_len rfl ht (by decide)) (rfl) (fun w1 hT F1 => ?_)
  replace hF := hF.thenDrew.thenO F1 (by first | exact .inr (by omega) | exact .inl rfl | exact .inl (by assumption) | assumption)
  replace hT := vt_put rfl ht (by decide) hT
  refine wl_nil ?_
  refine bp_end Tryz.results151 rfl ?_
  refine ⟨rfl, .slice wa (x.stack.length + vs.length) wc, ?_⟩
  have hon0 := hon
  have hon : Own u1.heap (.slice wa (x.stack.length + vs.length) wc) 119 3 (x.stack ++ vs).length (rws pvc (x.stack ++ vs)) := by rw [rws_app, List.length_append]; exact hon0
  obtain ⟨ow', x1, f1, hv1⟩ := h.grT op ht (i := 2) (by unfold thI; omega) hon G1 hnb' hF (rowT vl hx (.inl rfl) (by unfold thr5; exact hT)) (vl.stk hx (x.stack ++ vs) (by rw [List.length_append]; exact hlen)) rfl
  refine ⟨ow', x1, f1, hv1, fun ab ao cs hw hne hle ↦ ⟨?_, fun q ↦ hnb' ab q⟩⟩
  have hw1 : WinB u1 ab ao cs := by
    obtain ⟨l, ty, hb1, hb2⟩ := hw
    by_cases ho : own1 (U t 2) ab
    · rcases hfi with hfi | hfi
      · obtain ⟨k1, k2⟩ := hon0
        rcases k2 with ⟨k2, -⟩ | ⟨g', cap', l', k2, k3, k4, k5, k6, k7⟩
        · rw [k2] at hfi
          have ho : (U t 2).ownBlock = some ab := ho
          rw [ho] at hfi
          cases hfi
        · rw [k2] at hfi
          have ho : (U t 2).ownBlock = some ab := ho
          rw [ho] at hfi
          injection hfi with hfi
          subst hfi
          rcases hS.o.2 with ⟨m2, -⟩ | ⟨g9, cap9, l9, m2, m3, m4, m5, m6, m7⟩
          · rw [m2] at ho; cases ho
          · rw [m2] at ho
            injection ho with ho
            subst ho
            have he : l = l9 := (hb1.uniq m3).1
            subst he
            refine ⟨l', 119, k3, ?_⟩
            refine Eq.trans ?_ hb2
            refine (take_win (N := x.stack.length * 3) ?_ (hle (by show (U t 2).ownBlock = _; rw [m2]; rfl))).symm
            rw [m7]
            have : l'.take (x.stack.length * 3) = (l'.take ((x.stack.length + vs.length) * 3)).take (x.stack.length * 3) := by rw [List.take_take]; congr 1; omega
            rw [this, k7, List.take_left' (by rw [rws_len pvc_len])]
      · exact ⟨l, ty, hfi.blkN hb1, hb2⟩
    · exact ⟨l, ty, G1.blkF hb1 ho, hb2⟩
  exact hw1.fram hF (fun q ↦ hne q)
set_option maxHeartbeats 4000000 in
theorem pop244 (h : VW C w ow V e fuel out T Vv U) (hx : V.ths[t]? = some x) {s' : List PV} {v : PV} (hs : x.stack = s' ++ [v]) {g c : Nat} (hU : U t 2 = .slice (some ⟨g, 0, none⟩) x.stack.length c) :
    Ret Tryz.prog 244 [tptr C t] w (fun r w' => r = pv v ∧ VW C w' ow (V.setT t { x with stack := s' }) e fuel out T Vv (up1 U t (up1 (U t) 2 (.slice (some ⟨g, 0, none⟩) s'.length c))) ∧ Fram (one C.E.tb) w w') := by
  obtain ⟨L, op, vl⟩ := h.ex
  have ht := h.lt hx
  have hT := op.trow vl hx
  have hS := op.sk vl hx ht
  have htt := op.tt
  have hl : x.stack.length = s'.length + 1 := by rw [hs]; simp
  have hlen := vl.sb t x hx
  have hv : x.stack[s'.length]? = some v := by rw [hs, List.getElem?_append_right (Nat.le_refl _), Nat.sub_self]; rfl
  obtain ⟨g', cap, l, e2, hB, q1, q2, q3, q4, q5⟩ := hS.at pvc_len hv
  rw [hU] at e2
  injection e2 with e3 e4 e5
  injection e3 with e3
  injection e3 with e3
  subst e3; subst e5
  have hne : g ≠ C.E.tb := fun z => by rw [z, htt] at q4; omega
  have hF : Fram (one C.E.tb) w w := Fram.refl _ _
  have q6 := q5 _ _ hv
  unfold thr5 at hT
  rw [hU, hl] at hT
  refine ret_of Tryz.func244 rfl Tryz.ntmps244 rfl ?_
  refine c_seq (fun K1 hK1 => ?_)
  refine c_reg ?_ -- region 0 exec.go:24
  refine wl_new (ze_119) (fun b2 w1 hbb2 h2 F1 => ?_)
  have hneC.E.tbb2 : C.E.tb < b2 := Nat.lt_of_lt_of_le hT.lt hbb2
  have hnegb2 : g < b2 := Nat.lt_of_lt_of_le hB.lt hbb2
  have hbsb2 := Nat.le_trans hF.size hbb2
  replace hT := F1.blkN hT
  replace hB := F1.blkN hB
  replace hF := hF.thenDrew.thenN F1
  refine wl_nil (x_then (hK1 _ _ ?_))
  clear hK1 K1
  refine forget [(0, _), (2, _)] ⟨rfl, rfl, trivial⟩ (fun e => ?_)
  refine c_seq (fun K2 hK2 => ?_)
  refine c_reg ?_ -- region 1 exec.go:25
  refine wl (ro_move rfl) ?_
  refine wl (ro_nilCheck rfl) ?_
  refine wl (ro_fieldAddr (k := 2) rfl fo_269_2) ?_
  refine wl (ro_loadB rfl sc_83 (hT) (vt_get rfl ht (by decide))) ?_
  refine wl (ro_lenL rfl se_83) ?_
  refine wl (ro_arith rfl rfl rfl (Go.IntWalk.i64_in _ (by omega))) ?_
  refine wl (ro_assign rfl) ?_
  refine wl_nil (x_then (hK2 _ _ ?_))
  clear hK2 K2
  refine forget [(0, _), (2, _), (3, _)] ⟨rfl, rfl, rfl, trivial⟩ (fun e => ?_)
  refine c_seq (fun K3 hK3 => ?_)
  refine c_reg ?_ -- region 2 exec.go:26
  refine wl (ro_move rfl) ?_
  refine wl (ro_nilCheck rfl) ?_
  refine wl (ro_fieldAddr (k := 2) rfl fo_269_2) ?_
  refine wl (ro_loadB rfl sc_83 (hT) (vt_get rfl ht (by decide))) ?_
  refine wl (ro_move rfl) ?_
  refine wl (ro_indexAddr (et := 119) (k := 3) rfl rfl se_83 ((show (((s'.length + 1 : Nat) : Int) - 1) = ((s'.length : Nat) : Int) by omega)) ((by omega))) ?_
  refine wl (ro_loadAggB rfl ag_119 (hB) (rfl) (q6)) ?_
  refine wl_new (ze_119) (fun b4 w2 hbb4 h4 F2 => ?_)
  have hneC.E.tbb4 : C.E.tb < b4 := Nat.lt_of_lt_of_le hT.lt hbb4
  have hnegb4 : g < b4 := Nat.lt_of_lt_of_le hB.lt hbb4
  have hbsb4 := Nat.le_trans hF.size hbb4
  have hneb2b4 : b2 < b4 := Nat.lt_of_lt_of_le h2.lt hbb4
  replace hT := F2.blkN hT
  replace hB := F2.blkN hB
  replace hF := hF.thenDrew.thenN F2
  replace h2 := F2.blkN h2
  refine wl_puta rfl rfl ((pvc_one _)) sz_119 (rfl) h4 ((by simp)) (rfl) (fun w3 h4 F3 => ?_)
  replace hT := F3.blkO hT (by omega)
  replace hB := F3.blkO hB (by omega)
  replace hF := hF.thenDrew.thenO F3 (by first | exact .inr (by omega) | exact .inl rfl | exact .inl (by assumption) | assumption)
  replace h2 := F3.blkO h2 (by omega)
  refine wl_nil (x_then (hK3 _ _ ?_))
  clear hK3 K3
  refine forget [(0, _), (2, _), (3, _), (4, _)] ⟨rfl, rfl, rfl, rfl, trivial⟩ (fun e => ?_)
  refine c_seq (fun K4 hK4 => ?_)
  refine c_reg ?_ -- region 3 exec.go:27
  refine wl (ro_move rfl) ?_
  refine wl (ro_move rfl) ?_
  refine wl (ro_nilCheck rfl) ?_
  refine wl (ro_fieldAddr (k := 2) rfl fo_269_2) ?_
  refine wl (ro_loadB rfl sc_83 (hT) (vt_get rfl ht (by decide))) ?_
  refine wl (ro_move rfl) ?_
  refine wl (ro_sliceH (h := s'.length) rfl rfl se_83 (by omega) (by omega)) ?_
  refine wl (ro_nilCheck rfl) ?_
  refine wl (ro_fieldAddr (k := 2) rfl fo_269_2) ?_
  refine wl_put rfl rfl rfl sz_83 hT (vt_len rfl ht (by decide)) (rfl) (fun w4 hT F4 => ?_)
  replace hB := F4.blkO hB (by omega)
  replace hF := hF.thenDrew.thenO F4 (by first | exact .inr (by omega) | exact .inl rfl | exact .inl (by assumption) | assumption)
  replace h2 := F4.blkO h2 (by omega)
  replace h4 := F4.blkO h4 (by omega)
  replace hT := vt_put rfl ht (by decide) hT
  refine wl_nil (x_then (hK4 _ _ ?_))
  clear hK4 K4
  refine forget [(2, _), (4, _)] ⟨rfl, rfl, trivial⟩ (fun e => ?_)
  refine c_seq (fun K5 hK5 => ?_)
  refine c_reg ?_ -- region 4 exec.go:28
  refine wl (ro_loadAggB rfl ag_119 (h4) rfl rfl) ?_
  refine wl_puta rfl rfl ((pvc_one _)) sz_119 (rfl) h2 ((by simp)) (rfl) (fun w5 h2 F5 => ?_)
  replace hT := F5.blkO hT (by omega)
  replace hB := F5.blkO hB (by omega)
  replace hF := hF.thenDrew.thenO F5 (by first | exact .inr (by omega) | exact .inl rfl | exact .inl (by assumption) | assumption)
  replace h4 := F5.blkO h4 (by omega)
  refine wl_nil (x_then (hK5 _ _ ?_))
  clear hK5 K5
  refine c_ret ?_
  refine bq_ret (res1 Tryz.results244 (rv_c rfl ag_119 (h2) (rfl))) ?_
  refine ⟨rfl, h.cuT op ht (i := 2) (by unfold thI; omega) hF (rowT vl hx (.inl rfl) ?_) ?_ (vl.stk hx s' (by omega)) rfl, hF⟩
  · unfold thr5
    exact hT
  · rw [hU] at hS
    have := hS.take (m := s'.length) (by omega)
    rw [← rws_tk pvc_len, hs, List.take_left] at this
    exact this
end
end Go.Proofs.Qxb6500568aGreatDoor
