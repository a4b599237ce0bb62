import Derived.Test.Qxb6500568aGreatDoorJe
/- The compiler: break (the head of it written with tools/mk_zs.py). -/
namespace Go.Proofs.Qxb6500568aGreatDoor
open Ieee
set_option linter.unusedVariables false
set_option linter.unusedSimpArgs false
set_option linter.unusedSectionVars false

section
variable {E : ZEnv} {w w1 w' u1 u2 : World} {ow ow' : Nat → Nat} {O : List Nat} {S : Fns} {f : ZAct} {q A : List ZAct} {R : List ZRow} {z : ZSl}
theorem LpM.far2 {F : Nat → Prop} {j : Nat} (f : Fram F w w') (hE : Xt w ow ow') : ∀ {l : List (Nat × List Nat)} {rows : List Value}, (∀ b, ow b = 301 ∨ (∃ d, d < l.length ∧ ow b = 1000 + 13 * d + j) → b < w.heap.size → ¬ F b) → LpM E w ow j l rows → LpM E w' ow' j l rows
  | [], rows, _, h => h
  | (b, br) :: rest, rows, hn, ⟨rows', v, vals, h1, h2, h3, h4⟩ => ⟨rows', v, vals, h1, h2.far f (fun c y l => hn c (.inr ⟨rest.length, by simp, y⟩) l) hE, fun i p hp => by
    obtain ⟨u, q1, q2⟩ := h3 i p hp
    exact ⟨u, q1, q2.far f (fun c y l => hn c (.inl y) l) hE⟩, LpM.far2 f hE (fun c y l => hn c (y.elim .inl (fun ⟨d, h1, h2⟩ => .inr ⟨d, by rw [List.length_cons]; omega, h2⟩)) l) h4⟩
theorem set_smJ {α : Type} {l : List α} {i : Nat} {x : α} (h : l[i]? = some x) : l.set i x = l := by
  obtain ⟨hl, he⟩ := List.getElem?_eq_some_iff.1 h
  rw [← he]; exact List.set_getElem_self hl
/-- a break noted. -/
theorem CM.brkS (h : CM E w ow O S (f :: q)) (op : ZOp E w ow O S (f :: q) f R z) {b p gp : Nat} {br : List Nat} {rest : List (Nat × List Nat)} {rows rows' vals lp : List Value} {v pv : Value} {va : Option Addr} {vc : Nat} (hl : f.lps = (b, br) :: rest) (hpa : z.pa = some ⟨gp, 0, none⟩) (p1 : OwT w ow (280 + f.j) (.slice z.pa f.lps.length z.pc) 278 2 f.lps.length rows) (hrw : rows = rows' ++ [i64c b, v]) (hv : OwT w ow (1000 + 13 * rest.length + f.j) v 1 1 br.length vals) (hpat : ∀ (i p : Nat), br[i]? = some p → ∃ u, vals[i]? = some u ∧ Pat E w ow f.j p u) (p3 : LpM E w ow f.j rest rows') (hP : Pat E w ow f.j p pv)
    (hBp : Blk w.heap gp lp 278) (hon : Own u1.heap (.slice va (br.length + 1) vc) 1 1 (br.length + 1) (vals ++ [pv])) (G1 : Fram (own1 v) w u1) (hnb : nob v (.slice va (br.length + 1) vc) w) (fr : Fram (one gp) u1 u2) (hB : Blk u2.heap gp (lp.set (rest.length * 2 + 1) (.slice va (br.length + 1) vc)) 278) : ZP E w ow O S ({ f with lps := (b, br ++ [p]) :: rest } :: q) u2 := by
  have hj := op.j
  have hta := h.ta
  have hll : f.lps.length = rest.length + 1 := by rw [hl]; rfl
  have hgp : ow gp = 280 + f.j := p1.t gp (by rw [hpa]; rfl)
  have hu1 := G1.size
  have hu2 := fr.size
  have hgpl := hBp.lt
  have x1 : Xt w ow (cut66 u2 (nw ow w.heap.size (1000 + 13 * rest.length + f.j))) := fun c hc => by rw [cut66_xt _ _ c (by omega)]; exact nw_old (by omega)
  have x2 : OwT u2 (cut66 u2 (nw ow w.heap.size (1000 + 13 * rest.length + f.j))) (1000 + 13 * rest.length + f.j) (.slice va (br.length + 1) vc) 1 1 (br.length + 1) (vals ++ [pv]) :=
    ((hv.grow hon hnb hu1).far fr (fun c y _ e => by have e : c = gp := e; rw [e, nw_old (by omega), hgp] at y; omega) (Xt.refl _ _)).cut
  have x3 : Fram (fun b => ow b = 280 + f.j ∨ ow b = 1000 + 13 * rest.length + f.j) w u2 := (G1.mono (fun c _ y => .inr (hv.t c y))).trans' fr (fun c _ y => .inl (by have y : c = gp := y; rw [y]; exact hgp))
  have off : ∀ {tag : Nat}, tag ≠ 280 + f.j → tag ≠ 1000 + 13 * rest.length + f.j → ∀ b, ow b = tag → b < w.heap.size → ¬ (ow b = 280 + f.j ∨ ow b = 1000 + 13 * rest.length + f.j) := fun {tag} k1 k2 b y _ z => by omega
  have hfr : Fram (frF E ow f.j) w u2 := x3.mono (fun b _ y => .inr (by unfold fnT; omega))
  have hr2 : rows'.length = rest.length * 2 := by
    have := p1.o.1
    rw [hrw, List.length_append, hll] at this
    simp at this
    omega
  obtain ⟨gp', capp, lp', ep, hP', k1, k2, k3, k4⟩ := p1.o.pos (by omega)
  rw [hpa] at ep
  cases ep
  rw [(Blk.uniq hP' hBp).1] at k3 k4
  refine ⟨_, x1, h.frC hj hfr, h.head hfr x1 (cut66_df _ _) op rfl (r' := mkR E S { f with lps := (b, br ++ [p]) :: rest } z) ?_ ⟨op.loc.far x3 (off (by omega) (by omega)) x1, op.ups.far x3 (off (by omega) (by omega)) x1, op.ks.far x3 (off (by omega) (by omega)) x1, op.code.far x3 (off (by omega) (by omega)) x1, rows' ++ [i64c b, .slice va (br.length + 1) vc], ?_, ?_⟩ ⟨rfl, rfl, rfl, rfl, rfl, rfl, ⟨_, rfl, op.nums.1.fram x3 (off (by omega) (by omega) _ op.nums.2 op.nums.1.lt), by rw [x1 _ op.nums.1.lt]; exact op.nums.2⟩, ⟨_, rfl, op.strs.1.fram x3 (off (by omega) (by omega) _ op.strs.2 op.strs.1.lt), by rw [x1 _ op.strs.1.lt]; exact op.strs.2⟩⟩ (fun _ _ => rfl)⟩
  · have e9 : mkR E S { f with lps := (b, br ++ [p]) :: rest } z = mkR E S f z := by unfold mkR; rw [hl]; rfl
    rw [e9, set_smJ op.rj]
    exact op.B.fram x3 (off (by omega) (by omega) _ hta h.gl)
  · show OwT u2 _ (280 + f.j) (.slice z.pa (rest.length + 1) z.pc) 278 2 (rest.length + 1) (rows' ++ [i64c b, .slice va (br.length + 1) vc])
    rw [hpa]
    refine ⟨⟨by rw [List.length_append, hr2]; simp; omega, .inr ⟨gp, z.pc, _, rfl, hB, by omega, k2, by rw [List.length_set]; exact k3, ?_⟩⟩, fun c y => by cases y; rw [x1 _ hgpl]; exact hgp⟩
    rw [List.take_set, ← hll, k4, hrw, List.set_append_right _ _ (by omega), hr2, show rest.length * 2 + 1 - rest.length * 2 = 1 by omega]
    rfl
  · refine ⟨rows', _, vals ++ [pv], rfl, by rw [List.length_append]; exact x2, fun i p' hp => ?_, p3.far2 x3 x1 (fun c y l z => ?_)⟩
    · have hvl := hv.o.1
      rw [List.getElem?_append] at hp
      split at hp
      · rename_i hi
        obtain ⟨u, y1, y2⟩ := hpat i p' hp
        exact ⟨u, by rw [List.getElem?_append_left (by omega)]; exact y1, y2.far x3 (off (by omega) (by omega)) x1⟩
      · rename_i hi
        have hi0 : i - br.length = 0 := by
          cases hd : i - br.length with
          | zero => rfl
          | succ m => rw [hd] at hp; simp at hp
        rw [hi0] at hp
        simp at hp
        subst hp
        refine ⟨pv, ?_, hP.far x3 (off (by omega) (by omega)) x1⟩
        rw [List.getElem?_append_right (by omega), show i - vals.length = 0 by omega]; rfl
    · rcases y with y | ⟨d, h1, h2⟩
      · omega
      · omega
theorem cdF_cp (h : CM E w ow O S A) {j : Nat} (hj : j < 13) (f : Fram (cdF E ow j) w w') : Fram (tg ow cpT) w w' := f.mono (fun b _ y => y.elim (fun y => by show cpT (ow b); rw [y, h.ta]; unfold cpT; omega) (fun y => by show cpT (ow b); rw [y]; unfold cpT; omega))
end
set_option maxHeartbeats 16000000 in
theorem xs_brk {lp : Bool} : XS St.brk lp := by
  intro E w ow O S f q n hR hi hw hpa hlp hx
  obtain ⟨hn0, hK⟩ := IsS_brk.1 hi
  have hn : n < E.G.length := nd_lt (by rw [hK]; decide)
  have hlpt : lp = true := hw
  obtain ⟨⟨b, br⟩, rest, hl⟩ : ∃ x r, f.lps = x :: r := by
    cases hl : f.lps with
    | nil => exact (hlp hlpt hl).elim
    | cons x r => exact ⟨x, r, rfl⟩
  have hll : f.lps.length = rest.length + 1 := by rw [hl]; rfl
  have hb12 : b ≤ 12 := (hx.lb (b, br) (by rw [hl]; exact List.mem_cons_self)).1
  have hbrl : br.length ≤ f.code.length := (hx.lb (b, br) (by rw [hl]; exact List.mem_cons_self)).2.1
  have hlB : lpB f.lps = b := by rw [hl]; rfl
  have hrl : 3 * f.lps.length ≤ 40000 := by have := hx.lq; omega
  have hF : Fram (tg ow cpT) w w := Fram.refl _ _
  have hX : Xt w ow ow := Xt.refl _ _
  obtain ⟨gn, capn, ln_, env, hN, khN, hcapn, hrow⟩ := hR.nodes hx.g0.1
  obtain ⟨pn, hpn⟩ := hrow n hn
  have hcl : 3 * f.code.length ≤ 31000 := hx.clen
  have hL12 := hx.L
  have hjl := hx.jl
  refine ret_of Tryz.func139 rfl Tryz.ntmps139 rfl ?_
  refine c_seq (fun K1 hK1 => ?_)
  obtain ⟨R_, z_, op⟩ := hR.open (f := f) (by simp)
  have hG := op.B
  have hC := hR.cb
  have khG := hR.ta
  have khC := hR.tc
  rw [env] at hC
  refine c_reg ?_ -- region 0 stmt.go:7
  refine wl (ro_move rfl) ?_
  refine wl (ro_nilCheck rfl) ?_
  refine wl (ro_fieldAddr (k := 0) rfl fo_199_0) ?_
  refine wl (ro_loadB rfl sc_22 hG (op.row 0 (by decide))) ?_
  refine wl (ro_nilCheck rfl) ?_
  refine wl (ro_fieldAddr (k := 2) rfl fo_94_2) ?_
  refine wl (ro_loadB rfl sc_77 (hC) rfl) ?_
  refine wl (ro_move rfl) ?_
  refine wl (ro_indexAddr (et := 148) (k := 8) rfl rfl se_77 (rfl) (hn)) ?_
  refine wl (ro_loadAggB rfl ag_148 (hN) (rfl) (hpn)) ?_
  refine wl_new (ze_148) (fun b4 w1 hbb4 h4 F1 => ?_)
  have hbsb4 := Nat.le_trans hF.size hbb4
  have hnegnb4 : gn < b4 := Nat.lt_of_lt_of_le hN.lt hbb4
  have hneE.gbb4 : E.gb < b4 := Nat.lt_of_lt_of_le hG.lt hbb4
  have hneE.cbb4 : E.cb < b4 := Nat.lt_of_lt_of_le hC.lt hbb4
  have kh4 := hR.df b4 hbb4
  replace hF := hF.thenDrew.thenN F1
  replace hR := hR.thruN ((Fram.refl none' _).thenDrew.thenN F1)
  replace hN := F1.blkN hN
  replace hG := F1.blkN hG
  replace hC := F1.blkN hC
  refine wl_puta rfl rfl ((ndc_one _)) sz_148 (rfl) h4 ((by simp)) (rfl) (fun w2 h4 F2 => ?_)
  replace hF := hF.thenDrew.thenO F2 (by first | exact .inr (by omega) | exact .inl rfl | exact .inl (by assumption) | assumption)
  replace hR := hR.hbput ((Fram.refl (one b4) _).thenDrew.thenO F2 (.inl rfl))
  replace hN := F2.blkO hN (by first | omega | exact ow_ne (by assumption) (by assumption) (by omega))
  replace hG := F2.blkO hG (by first | omega | exact ow_ne (by assumption) (by assumption) (by omega))
  replace hC := F2.blkO hC (by first | omega | exact ow_ne (by assumption) (by assumption) (by omega))
  have h4 : Blk (w2).heap b4 [i64c 11, i64c (nd E.G n).A, i64c (nd E.G n).B, i64c (nd E.G n).C, i64c (nd E.G n).Nx, u64c (nd E.G n).N, Go.Proofs.Qxb6500568aGreatDoor.S (nd E.G n).S, i64c pn] 148 := by rw [← hK]; exact h4
  refine wl_nil (x_then (hK1 _ _ ?_))
  clear hK1 K1
  refine forget [(0, _), (4, _)] ⟨rfl, rfl, trivial⟩ (fun e => ?_)
  refine c_seq (fun K2 hK2 => ?_)
  refine c_reg ?_ -- region 1 stmt.go:8
  refine wl (ro_fieldAddr (k := 0) rfl fo_148_0) ?_
  refine wl (ro_loadB rfl sc_3 (by assumption) rfl) ?_
  refine wl_nil (x_then (hK2 _ _ ?_))
  clear hK2 K2
  refine c_block ?_
  refine forget [(0, _), (4, _), (22, _)] ⟨rfl, rfl, rfl, trivial⟩ (fun e => ?_)
  refine c_seq (fun K3 hK3 => ?_)
  refine c_reg ?_ -- region 2 stmt.go:9
  refine wl (ro_cmp rfl rfl rfl) ?_
  refine wl (ro_assign rfl) ?_
  refine wl_nil (x_then (hK3 _ _ ?_))
  clear hK3 K3
  refine wc_condF rfl ?_
  refine c_seq (fun K4 hK4 => ?_)
  refine c_reg ?_ -- region 5 stmt.go:12
  refine wl (ro_cmp rfl rfl rfl) ?_
  refine wl (ro_assign rfl) ?_
  refine wl_nil (x_then (hK4 _ _ ?_))
  clear hK4 K4
  refine wc_condF rfl ?_
  refine c_seq (fun K5 hK5 => ?_)
  refine c_reg ?_ -- region 12 stmt.go:19
  refine wl (ro_cmp rfl rfl rfl) ?_
  refine wl (ro_assign rfl) ?_
  refine wl_nil (x_then (hK5 _ _ ?_))
  clear hK5 K5
  refine wc_condF rfl ?_
  refine c_seq (fun K6 hK6 => ?_)
  refine c_reg ?_ -- region 16 stmt.go:23
  refine wl (ro_cmp rfl rfl rfl) ?_
  refine wl (ro_assign rfl) ?_
  refine wl_nil (x_then (hK6 _ _ ?_))
  clear hK6 K6
  refine wc_condF rfl ?_
  refine c_seq (fun K7 hK7 => ?_)
  refine c_reg ?_ -- region 18 stmt.go:25
  refine wl (ro_cmp rfl rfl rfl) ?_
  refine wl (ro_assign rfl) ?_
  refine wl_nil (x_then (hK7 _ _ ?_))
  clear hK7 K7
  refine wc_condF rfl ?_
  refine c_seq (fun K8 hK8 => ?_)
  refine c_reg ?_ -- region 21 stmt.go:28
  refine wl (ro_cmp rfl rfl rfl) ?_
  refine wl (ro_assign rfl) ?_
  refine wl_nil (x_then (hK8 _ _ ?_))
  clear hK8 K8
  refine wc_condF rfl ?_
  refine c_seq (fun K9 hK9 => ?_)
  refine c_reg ?_ -- region 23 stmt.go:30
  refine wl (ro_cmp rfl rfl rfl) ?_
  refine wl (ro_assign rfl) ?_
  refine wl_nil (x_then (hK9 _ _ ?_))
  clear hK9 K9
  refine wc_condF rfl ?_
  refine c_seq (fun K10 hK10 => ?_)
  refine c_reg ?_ -- region 25 stmt.go:32
  refine wl (ro_cmp rfl rfl rfl) ?_
  refine wl (ro_assign rfl) ?_
  refine wl_nil (x_then (hK10 _ _ ?_))
  clear hK10 K10
  refine wc_condF rfl ?_
  refine c_seq (fun K11 hK11 => ?_)
  refine c_reg ?_ -- region 27 stmt.go:34
  refine wl (ro_cmp rfl rfl rfl) ?_
  refine wl (ro_assign rfl) ?_
  refine wl_nil (x_then (hK11 _ _ ?_))
  clear hK11 K11
  refine wc_condF rfl ?_
  refine c_seq (fun K12 hK12 => ?_)
  refine c_reg ?_ -- region 29 stmt.go:36
  refine wl (ro_cmp rfl rfl rfl) ?_
  refine wl (ro_assign rfl) ?_
  refine wl_nil (x_then (hK12 _ _ ?_))
  clear hK12 K12
  refine wc_condF rfl ?_
  refine c_seq (fun K13 hK13 => ?_)
  refine c_reg ?_ -- region 33 stmt.go:40
  refine wl (ro_cmp rfl rfl rfl) ?_
  refine wl (ro_assign rfl) ?_
  refine wl_nil (x_then (hK13 _ _ ?_))
  clear hK13 K13
  refine wc_condT rfl ?_
  refine c_seq (fun K14 hK14 => ?_)
  obtain ⟨R_, z_, op⟩ := hR.open (f := f) (by simp)
  have hG := op.B
  have hC := hR.cb
  have khG := hR.ta
  have khC := hR.tc
  obtain ⟨rows, p1, p2⟩ := op.lps
  rw [show f.lps = (b, br) :: rest from hl] at p2
  obtain ⟨rows', v, vals, hrw, hv, hpat, p3⟩ := p2
  obtain ⟨gp, capp, lp9, ep, hP, k1, k2, k3, k4⟩ := p1.o.pos (by show 0 < f.lps.length; omega)
  have hgp : ow gp = 280 + f.j := p1.t gp (by rw [ep]; rfl)
  have hr2 : rows'.length = rest.length * 2 := by
    have := p1.o.1
    rw [hrw, List.length_append] at this
    have : rows'.length + 2 = f.lps.length * 2 := this
    omega
  have hrl2 : (lp9.drop (0 + rest.length * 2)).take 2 = [i64c b, v] := by
    have k4 : lp9.take (f.lps.length * 2) = rows := k4
    rw [Nat.zero_add, show (lp9.drop (rest.length * 2)).take 2 = (lp9.take (f.lps.length * 2)).drop (rest.length * 2) by rw [List.drop_take]; congr 1; omega, k4, hrw, ← hr2, List.drop_left]
  have hjj := op.j
  have hrow10 : (fnc (mkR E S f z_))[10]? = some (.slice (some ⟨gp, 0, none⟩) f.lps.length capp) := by show some (Value.slice z_.pa f.lps.length z_.pc) = _; rw [ep]
  refine c_pi [(0, false), (1, false), (2, false), (3, false), (4, false), (5, false), (6, false), (7, false), (8, false), (9, false), (10, false), (11, false)] (SameH _) mixed (by kernel_rfl) rfl (by kernel_rfl) (po_then (po_blk (po_bp))) (sameH_now _ _) ?_ -- region 34 stmt.go:41
  refine pi_ro rfl (fun w hS => ro_move rfl) ?_
  refine pi_ro rfl (fun w hS => ro_nilCheck rfl) ?_
  refine pi_ro rfl (fun w hS => ro_fieldAddr (k := 10) rfl fo_199_10) ?_
  refine pi_ro rfl (fun w hS => ro_loadB rfl sc_197 (Blk.of_heap hG hS) ((op.row 10 (by decide)).trans hrow10)) ?_
  refine pi_ro rfl (fun w hS => ro_move rfl) ?_
  refine pi_ro rfl (fun w hS => ro_nilCheck rfl) ?_
  refine pi_ro rfl (fun w hS => ro_fieldAddr (k := 10) rfl fo_199_10) ?_
  refine pi_ro rfl (fun w hS => ro_loadB rfl sc_197 (Blk.of_heap hG hS) ((op.row 10 (by decide)).trans hrow10)) ?_
  refine pi_ro rfl (fun w hS => ro_lenL rfl se_197) ?_
  refine pi_ro rfl (fun w hS => ro_arith rfl rfl rfl (Go.IntWalk.i64_in _ (by omega))) ?_
  refine pi_ro rfl (fun w hS => ro_indexAddr (et := 278) (k := 2) rfl rfl se_197 ((show (f.lps.length : Int) - 1 = (rest.length : Nat) by omega)) ((by omega))) ?_
  refine pi_ro rfl (fun w hS => ro_assign rfl) ?_
  refine pi_nil (x_then (hK14 _ _ ?_))
  clear hK14 K14
  refine c_mid (fun a u => ∃ ow1 c1, Xt w ow ow1 ∧ Fram (tg ow cpT) w u ∧ CM E u ow1 O S ({ f with code := c1 } :: q) ∧ LpC E u f.j (.slice (some ⟨gp, 0, none⟩) f.lps.length capp) ∧ c1 = f.code ++ (if b < f.L.length then [(29, b)] else []) ∧ ∃ e, a = Fr 185 (upds e [(0, fptr E f.j), (9, ptrAt gp (0 + rest.length * 2))]) []) ?_ ?_
  · skip
    refine c_seq (fun K15 hK15 => ?_)
    refine c_pi [(0, false), (1, false), (2, false), (3, false), (4, false), (5, false), (6, false), (7, false), (8, false), (9, false)] (SameH _) mixed (by kernel_rfl) rfl (by kernel_rfl) (po_then (po_then (po_blk (po_bp)))) (sameH_now _ _) ?_ -- region 35 stmt.go:42
    refine pi_ro rfl (fun w hS => ro_move rfl) ?_
    refine pi_ro rfl (fun w hS => ro_nilCheck rfl) ?_
    refine pi_ro rfl (fun w hS => ro_fieldAddr (k := 3) rfl fo_199_3) ?_
    refine pi_ro rfl (fun w hS => ro_loadB rfl sc_192 (Blk.of_heap hG hS) (op.row 3 (by decide))) ?_
    refine pi_ro rfl (fun w hS => ro_lenL rfl se_192) ?_
    refine pi_ro rfl (fun w hS => ro_move rfl) ?_
    refine pi_ro rfl (fun w hS => ro_nilCheck rfl) ?_
    refine pi_ro rfl (fun w hS => ro_fieldAddr (k := 0) rfl fo_278_0) ?_
    refine pi_ro rfl (fun w hS => ro_loadB rfl sc_3 (Blk.of_heap hP hS) (row_get hrl2 (by decide))) ?_
    refine pi_ro rfl (fun w hS => ro_cmp rfl rfl rfl) ?_
    refine pi_nil (x_then (hK15 _ _ ?_))
    clear hK15 K15
    refine wc_cond rfl (fun hc163 => ?_) (fun hc163 => ?_)
    · try simp only [decide_eq_true_eq, decide_eq_false_iff_not, Bool.not_eq_true', Bool.not_eq_false', Bool.not_eq_eq_eq_not, Bool.not_true, Bool.not_false, beq_iff_eq, bne_iff_ne, ne_eq, beq_eq_false_iff_ne, bne_eq_false_iff_eq, gt_iff_lt, ge_iff_le, Int.not_lt, Int.not_le] at hc163
      have hLp : LpC E _ f.j (.slice (some ⟨gp, 0, none⟩) f.lps.length capp) := ⟨_, hG, (op.row 10 (by decide)).trans hrow10⟩
      refine c_reg ?_ -- region 36 stmt.go:43
      refine wl (ro_move rfl) ?_
      refine wl (ro_move rfl) ?_
      refine wl (ro_nilCheck rfl) ?_
      refine wl (ro_fieldAddr (k := 0) rfl fo_278_0) ?_
      refine wl (ro_loadB rfl sc_3 (hP) (row_get hrl2 (by decide))) ?_
      refine wl (ro_conv rfl sc_3 in_201 (Go.IntWalk.u16_in _ (by omega))) ?_
      refine wl (ro_build rfl bld_203_0_1) ?_
      refine wl_emF (is := [(29, b)]) (eo_bsI1 rfl se_196 zx_203) rfl hR.dr rfl (by simp; omega) ?_
      intro u4 ow4 x4 f4 r4 hL4
      have hsz := hF.size
      have hFc := cdF_cp hR.dr hjj f4
      skip
      refine wl_nil (x_then ?_)
      exact ⟨ow4, _, hX.trans hsz x4, cp_trans' hX hF.thenDrew hFc, r4, hL4 _ hLp, by rw [if_pos (by omega)], kp _ ⟨rfl, rfl, trivial⟩⟩
    · try simp only [decide_eq_true_eq, decide_eq_false_iff_not, Bool.not_eq_true', Bool.not_eq_false', Bool.not_eq_eq_eq_not, Bool.not_true, Bool.not_false, beq_iff_eq, bne_iff_ne, ne_eq, beq_eq_false_iff_ne, bne_eq_false_iff_eq, gt_iff_lt, ge_iff_le, Int.not_lt, Int.not_le] at hc163
      refine c_skip (x_then ?_)
      exact ⟨_, f.code, hX, hF.thenDrew, hR.dr, ⟨_, hG, (op.row 10 (by decide)).trans hrow10⟩, by rw [if_neg (by omega), List.append_nil], kp _ ⟨rfl, rfl, trivial⟩⟩
  clear hF hX hR hN h4 hG hC hP
  clear p1 hv hpat p3 hrw rows rows' vals v op k1 k2 k3 k4 ep hrl2 hr2 hgp hrow10 lp9 z_ R_
  rintro a u ⟨ow1, c1, hX, hF, hR, hLp, hc1, e, rfl⟩
  have hc1l : c1.length ≤ f.code.length + 1 := by
    rw [hc1, List.length_append]
    split <;> simp
  refine c_seq (fun K16 hK16 => ?_)
  refine c_reg ?_ -- region 37 stmt.go:45
  refine wl (ro_move rfl) ?_
  refine wl_call rfl en_195 (jump195F (f := { f with code := c1 }) (oc := 21) hR (by simp only; omega)) ?_
  rintro pv u5 ⟨ow5, x5, f5, r5, hpv, hL5⟩
  have hsz5 := hF.size
  have hF5 := cp_trans' hX hF (cdF_cp hR hjj f5)
  have hX5 := hX.trans hsz5 x5
  have hLp5 := hL5 _ hLp
  clear hR hF hX
  obtain ⟨R5, z5, op5⟩ := r5.open (f := ⟨f.j, f.L, c1 ++ [(21, 65535)], f.lps⟩) (by simp)
  obtain ⟨l5, hB5, hl5⟩ := hLp5
  rw [(Blk.uniq hB5 op5.B).1] at hl5
  have hrow5 := op5.row 10 (by decide)
  have hz5 : some (Value.slice z5.pa f.lps.length z5.pc) = some (.slice (some ⟨gp, 0, none⟩) f.lps.length capp) := hrow5.symm.trans hl5
  have hz5a : z5.pa = some ⟨gp, 0, none⟩ := by injection hz5 with h; injection h
  obtain ⟨rows, p1, p2⟩ := op5.lps
  rw [show (⟨f.j, f.L, c1 ++ [(21, 65535)], f.lps⟩ : ZAct).lps = (b, br) :: rest from hl] at p2
  obtain ⟨rows', v, vals, hrw, hv, hpat, p3⟩ := p2
  obtain ⟨gp9, capp9, lp9, ep, hP, k1, k2, k3, k4⟩ := p1.o.pos (by show 0 < f.lps.length; omega)
  have hgp : ow5 gp9 = 280 + f.j := p1.t gp9 (by rw [ep]; rfl)
  have hr2 : rows'.length = rest.length * 2 := by
    have := p1.o.1
    rw [hrw, List.length_append] at this
    have : rows'.length + 2 = f.lps.length * 2 := this
    omega
  have hrl2 : (lp9.drop (0 + rest.length * 2)).take 2 = [i64c b, v] := by
    have k4 : lp9.take (f.lps.length * 2) = rows := k4
    rw [Nat.zero_add, show (lp9.drop (rest.length * 2)).take 2 = (lp9.take (f.lps.length * 2)).drop (rest.length * 2) by rw [List.drop_take]; congr 1; omega, k4, hrw, ← hr2, List.drop_left]
  rw [hz5a] at ep
  cases ep
  obtain ⟨va, vc, rfl⟩ := hv.form
  have hobg : ∀ c, own1 (.slice va br.length vc) c → c ≠ gp := fun c y e9 ↦ by have h8 := hv.t _ y; rw [e9] at h8; omega
  have hpc := hpv
  obtain ⟨q2, q5, rfl, hq2, hkq2, hq5, hkq5⟩ := hpv.ex
  refine wl (ro_assign rfl) ?_
  refine wl_nil (x_then (hK16 _ _ ?_))
  clear hK16 K16
  refine c_reg ?_ -- region 38 stmt.go:46
  refine wl (ro_move rfl) ?_
  refine wl (ro_move rfl) ?_
  refine wl (ro_nilCheck rfl) ?_
  refine wl (ro_fieldAddr (k := 1) rfl fo_278_1) ?_
  refine wl (ro_loadB rfl sc_276 (hP) (row_get hrl2 (by decide))) ?_
  refine wl (ro_move rfl) ?_
  refine wl_bsapp (t := 276) (et := 1) (k := 1) (m := br.length) (cs := [.func (.func 237) #[] #[ptr q2, ptr q5]]) rfl rfl rfl rfl se_276 zx_1 by_1 rfl rfl rfl (by simp [Value.oneCell']) hv.o (by omega) (by omega) ?_
  intro v' u9 hon G1 hnb
  obtain ⟨va', vc', rfl⟩ := hon.form
  have hP5 := hP
  replace hP := G1.blkF hP (fun y ↦ hobg _ y rfl)
  skip
  refine wl (ro_nilCheck rfl) ?_
  refine wl (ro_fieldAddr (k := 1) rfl fo_278_1) ?_
  refine wl_put rfl rfl rfl sz_276 hP ((by rw [k3]; show _ < _ * 2; have : f.lps.length ≤ z5.pc := k1; omega)) (rfl) (fun w3 hP F3 => ?_)
  have hF9 := (F3)
  refine wl_nil (x_blk ?_)
  refine bp_end Tryz.results139 rfl ?_
  rw [Nat.zero_add] at hP
  have hz := r5.brkS op5 (p := c1.length) hl hz5a p1 hrw hv hpat p3 hpc hP5 hon G1 hnb hF9 hP
  refine ⟨rfl, ZP.tr hX5 hF5 ?_⟩
  have hz : ZP E _ _ O S (⟨f.j, f.L, c1 ++ [(21, 65535)], (b, br ++ [c1.length]) :: rest⟩ :: q) _ := hz
  rw [show numsT St.brk = [] from rfl, List.append_nil]
  show ZP E _ _ O S (⟨f.j, f.L, f.code ++ (if lpB f.lps < f.L.length then [(29, lpB f.lps), (21, 65535)] else [(21, 65535)]), addB f.lps (hp f.code.length (if lpB f.lps < f.L.length then [(29, lpB f.lps), (21, 65535)] else [(21, 65535)]))⟩ :: q) _
  rw [hlB, hl]
  by_cases hbl : b < f.L.length
  · rw [if_pos hbl] at hc1 ⊢
    have e2 : addB ((b, br) :: rest) (hp f.code.length [(29, b), (21, 65535)]) = (b, br ++ [c1.length]) :: rest := by
      rw [hc1]
      show (b, br ++ hp f.code.length [(29, b), (21, 65535)]) :: rest = _
      rw [show hp f.code.length [(29, b), (21, 65535)] = [f.code.length + 1] by unfold hp; rw [if_neg (by simp)]; rfl]
      simp
    rw [e2, show f.code ++ [(29, b), (21, 65535)] = c1 ++ [(21, 65535)] by rw [hc1]; simp]
    exact hz
  · rw [if_neg hbl] at hc1 ⊢
    rw [List.append_nil] at hc1
    subst hc1
    exact hz
end Go.Proofs.Qxb6500568aGreatDoor
