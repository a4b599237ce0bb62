import Derived.Test.Qxb6500568aGreatDoorQm
/- The machine: Exec. -/
namespace Go.Proofs.Qxb6500568aGreatDoor
open Ieee
set_option linter.unusedVariables false
set_option linter.unusedSimpArgs false
set_option linter.unusedSectionVars false

/-- the state behind Exec's own work on the thread th. -/
def exS (Ps : List Proto) (th : Nat) (va vb : PV) (s0 : AS) : AS :=
  let s2 : AS := { s0 with cur := th }
  let s3 := s2.setT { s2.th with st := 4 }
  if (thA s0.ths th).st = 1 then aenter Ps (thA s0.ths th).fn [va] false s3 else apush2 va vb s3
/-- Exec's answer. -/
def ExR (C : VC) (b : AS) (n0 : Nat) (c : Nat × List Nat × Nat × Bool) (w : World) (ow : Nat → Nat) (r : Value) (w' : World) : Prop := ∃ n z ow' s1, n < n0 ∧ LI C b n z ∧ Xt w ow ow' ∧ Fram (tg ow vtT) w w' ∧ kN s1 = c ∧
  ((AMq C w' ow' s1 ∧ ((∃ v u, r = vevv 1 0 0 v u ∧ HS s1 ∧ (wfV v = true ∧ W64 v.N) ∧ aback true v s1 = z) ∨ (∃ k v, r = vevv 4 k 0 v vNil ∧ rsm (Psf C.F) k v s1 = z ∧ k < s1.ths.length ∧ ((thA s1.ths k).st = 1 ∧ (thA s1.ths k).frs = [] ∨ (thA s1.ths k).st = 2) ∧ VV s1.clos.length s1.ths.length s1.tabs.length v) ∨ (∃ v, r = vevv 3 0 0 v vNil ∧ s1.cur ≠ 0 ∧ HS s1 ∧ yld v s1 = z) ∨ (∃ v, r = vevv 2 0 0 v vNil ∧ HS s1 ∧ (wfV v = true ∧ W64 v.N) ∧ aback false v s1 = z))) ∨
   (∃ e, r = vevv 5 0 e vNil vNil ∧ ATr e s1 z ∧ MOZ C w' ow' s1.fuel s1.out))
section
variable {C : VC} {w w0 : World} {ow ow0 : Nat → Nat} {s b : AS} {n th fuel : Nat} {out : Str} {va vb : PV}
theorem thX_set {s : AS} {t : ATh} (hc : s.cur < s.ths.length) : (s.setT t).th = t := by
  unfold AS.th AS.setT
  dsimp only
  rw [List.getD_eq_getElem?_getD, List.getElem?_set_self hc]
  rfl
theorem setX_set {s : AS} {t u : ATh} : (s.setT t).setT u = s.setT u := by
  unfold AS.setT
  dsimp only
  rw [List.set_set]
theorem exS_2 {Ps : List Proto} (h1 : (thA s.ths th).st ≠ 1) (hth : th < s.ths.length) {g : AFr} {gs : List AFr} (hf : (thA s.ths th).frs = g :: gs) : exS Ps th va vb s = { s with cur := th, ths := s.ths.set th { (thA s.ths th) with st := 4, frs := { g with ops := vb :: va :: g.ops } :: gs } } := by
  have e0 : ({ s with cur := th } : AS).th = thA s.ths th := rfl
  unfold exS
  dsimp only
  rw [if_neg h1, e0]
  unfold apush2
  rw [thX_set (s := { s with cur := th }) hth, setX_set]
  dsimp only
  rw [hf]
  rfl
theorem exS_fr (hne : (exS (Psf C.F) th va vb s).th.frs ≠ []) (h1 : (thA s.ths th).st ≠ 1) (hth : th < s.ths.length) : (thA s.ths th).frs ≠ [] := by
  intro q
  apply hne
  have e0 : ({ s with cur := th } : AS).th = thA s.ths th := rfl
  unfold exS
  dsimp only
  rw [if_neg h1, e0]
  unfold apush2
  rw [thX_set (s := { s with cur := th }) hth, setX_set, thX_set (s := { s with cur := th }) hth]
  dsimp only
  rw [q]
theorem exS_cl {Ps : List Proto} (h1 : (thA s.ths th).st = 1) (hth : th < s.ths.length) : ∃ f, f ∈ (exS Ps th va vb s).th.frs ∧ f.clo = (thA s.ths th).fn ∧ (exS Ps th va vb s).clos = s.clos := by
  unfold exS
  dsimp only
  rw [if_pos h1]
  have e : (aenter Ps (thA s.ths th).fn [va] false (({ s with cur := th } : AS).setT { ({ s with cur := th } : AS).th with st := 4 })).th.frs.head?.map AFr.clo = some (thA s.ths th).fn := by
    unfold aenter
    rw [thX_set (by show th < (s.ths.set th _).length; rw [List.length_set]; exact hth)]
    rfl
  obtain ⟨f, h2, h3⟩ := Option.map_eq_some_iff.1 e
  exact ⟨f, List.mem_of_mem_head? h2, h3, rfl⟩
/-- the thread is pushed two values, or entered. -/
theorem pushX (hR : AMq C w ow s) (hth : th < s.ths.length) (h1 : (thA s.ths th).st ≠ 1) (hne : (thA s.ths th).frs ≠ []) : ∃ y gs g fg fc, mkA { s with cur := th } { y with st := 4 } gs { g with ops := vb :: va :: g.ops } s.vars = exS (Psf C.F) th va vb s ∧ AM C fg fc w ow (mkA { s with cur := th } y gs g s.vars) := by
  have hq : AMq C w ow { s with cur := th } := hR.same rfl rfl rfl rfl rfl rfl
  have hy : s.ths[th]? = some (thA s.ths th) := by unfold thA; rw [List.getD_eq_getElem?_getD, List.getElem?_eq_getElem hth]; rfl
  cases hf : (thA s.ths th).frs with
  | nil => exact absurd hf hne
  | cons g gs =>
    have hmk := mk_self (a := { s with cur := th }) hy hf
    obtain ⟨fg, fc, hm⟩ := hq.fr hth (by show (s.ths.getD th ATh.zero).frs ≠ []; exact hne)
    refine ⟨thA s.ths th, gs, g, fg, fc, ?_, by rw [hmk]; exact hm⟩
    rw [exS_2 h1 hth hf]
    rfl
theorem setT_mk {a : AS} {y : ATh} {gs : List AFr} {g : AFr} {vars : List PV} (hc : a.cur < a.ths.length) (k : Nat) : (mkA a y gs g vars).setT { (mkA a y gs g vars).th with st := k } = mkA a { y with st := k } gs g vars := by
  rw [mk_th hc, mk_setT hc]
  rfl
/-- the thread's state is stored. -/
theorem AMq.stS (h : AMq C w ow s) (hc : s.cur < s.ths.length) : ∃ lT, Blk w.heap C.E.tb lT 269 ∧ lT.length = 25 ∧ s.cur < 5 ∧ lT[s.cur * 5 + 0]? = some (i64c s.th.st) ∧ lT[s.cur * 5 + 1]? = some (i64c s.th.fn) ∧ ∀ u n, Fram (one C.E.tb) w u → Blk u.heap C.E.tb (lT.set (s.cur * 5 + 0) (i64c n)) 269 → AMq C u ow (s.setT { s.th with st := n }) := by
  obtain ⟨V, κ, Vv, U, h1, h2⟩ := h
  have hl := h2.r.tlen
  have hx : V.ths[s.cur]? = some V.ths[s.cur] := List.getElem?_eq_getElem (by omega)
  have hy := th_get hc
  have hg := h2.r.th _ _ _ hx hy
  obtain ⟨lT, hT, l25, e0, e1, -, law1, -⟩ := h1.thA hx
  rw [hg.1] at e0
  rw [hg.2.1] at e1
  refine ⟨lT, hT, l25, h1.lt hx, e0, e1, fun u n F B => ⟨_, κ, Vv, U, law1 u n F B, h2.st hx hy rfl rfl rfl⟩⟩
theorem aenter_0 {Ps : List Proto} (hf : s.th.frs = []) {c p : Nat} {ids : List Nat} (hk : s.clos[c]? = some (p, ids)) {zs : List PV} : aenter Ps c zs false s = mkA s s.th [] ⟨c, 0, (List.range (padTo (pr Ps p).ns (zs.take (pr Ps p).np)).length).map (s.vars.length + ·), [], false⟩ (s.vars ++ padTo (pr Ps p).ns (zs.take (pr Ps p).np)) := by
  unfold aenter anew
  have e1 : ((s.clos.getD c (0, [])).1) = p := by rw [List.getD_eq_getElem?_getD, hk]; rfl
  simp only [e1]
  unfold AS.setT mkA
  have e2 : ({ s with vars := s.vars ++ padTo (Ps.getD p Proto.zero).ns (List.take (Ps.getD p Proto.zero).np zs) } : AS).th = s.th := rfl
  rw [e2, hf]
  rfl
/-- a thread that has not begun is entered. -/
theorem enterX (h : AMq C w ow s) (hc : s.cur < s.ths.length) (hf : s.th.frs = []) {c p : Nat} {ids : List Nat} (hk : s.clos[c]? = some (p, ids)) (hp : p < C.F.length) {ab : Nat} (hB : Blk w.heap ab (pvc va) 119) (hat : ow ab = 66) :
    Ret Tryz.prog 150 [ptr C.E.mb, tptr C s.cur, i64c c, .slice (some ⟨ab, 0, none⟩) 1 1, i64c 0, .bool false] w (fun r w' => r = .tuple #[] ∧ ∃ ow', Xt w ow ow' ∧ Fram (tg ow vtT) w w' ∧ AMq C w' ow' (aenter (Psf C.F) c [va] false s)) := by
  have htb := h.vtb
  obtain ⟨V, κ, Vv, U, h1, h2⟩ := h
  have hl := h2.r.tlen
  have hx : V.ths[s.cur]? = some V.ths[s.cur] := List.getElem?_eq_getElem (by omega)
  have hy := th_get hc
  obtain ⟨cs, hcs, hcl⟩ := h2.clos (c := c) (p := p) (ids := ids) hk
  have hpr : (pr (Psf C.F) p) = protoOf (fsAt C.F p) := pr_psf C.F p
  obtain ⟨x1, x2, hz⟩ := h2.enter0 (vs := padTo (fsAt C.F p).ns ([va].take (fsAt C.F p).np)) hx hy hf hk (by rw [hpr]; unfold padTo; simp; rfl)
  refine (enter150 (zs := [va]) (ret := 0) (prot := false) h1 hx hcs hp rfl ⟨_, 119, hB, ?_⟩ ?_ ?_ (by simp) (by rw [x2]; decide) (by rw [x1]; decide)).mono ?_
  · show ((pvc va).drop 0).take (rws pvc [va]).length = rws pvc [va]
    rfl
  · intro q
    rw [q] at hat
    have htb : vtT (ow C.E.tb) := htb
    rw [hat] at htb
    exact absurd htb (by unfold vtT vmT rtag; omega)
  · intro q
    obtain ⟨L, op, vl⟩ := h1.ex
    have := (op.sk vl hx (h1.lt hx)).t _ q
    rw [hat] at this
    have := h1.lt hx
    omega
  · rintro r w' ⟨rfl, ow9, U9, x9, f9, hv9⟩
    refine ⟨rfl, ow9, x9, f9, ?_⟩
    rw [aenter_0 hf hk, hpr]
    exact ⟨_, κ, Vv, U9, hv9, hz⟩
/-- a machine that runs on, or one that is dead. -/
def WX (C : VC) (ow : Nat → Nat) (s : AS) (E1 E2 : Prop) (w : World) : Prop := (AMq C w ow s ∧ E1) ∨ (MOZ C w ow s.fuel s.out ∧ E2)
theorem WX.thruN {E1 E2 : Prop} {u : World} (h : WX C ow s E1 E2 w) (f : Fram none' w u) : WX C ow s E1 E2 u := by
  rcases h with ⟨h, e⟩ | ⟨h, e⟩
  · exact .inl ⟨h.thruN f, e⟩
  · exact .inr ⟨h.thruN f, e⟩
theorem WX.hbput {E1 E2 : Prop} {u : World} {x : Nat} (h : WX C ow s E1 E2 w) (f : Fram (one x) w u) (ht : ow x = 66 := by assumption) : WX C ow s E1 E2 u := by
  rcases h with ⟨h, e⟩ | ⟨h, e⟩
  · exact .inl ⟨h.hbput f ht, e⟩
  · exact .inr ⟨h.hbput f ht, e⟩
theorem WX.df {E1 E2 : Prop} (h : WX C ow s E1 E2 w) : ∀ x, w.heap.size ≤ x → ow x = 66 := by
  rcases h with ⟨h, e⟩ | ⟨h, e⟩
  · exact h.df
  · exact h.df
theorem tup2 {a b c d : Value} (h : Value.tuple #[a, b] = .tuple #[c, d]) : a = c ∧ b = d := by simpa using h
theorem tup2b {a c : Value} {b d : Bool} (h : Value.tuple #[a, .bool b] = .tuple #[c, .bool d]) : a = c ∧ b = d := by simpa using h
theorem exS_k : kN (exS (Psf C.F) th va vb s) = (th, s.stack, s.first, s.done) := by
  unfold exS
  dsimp only
  split <;> rfl
theorem exS_1 (h1 : (thA s.ths th).st = 1) (hth : th < s.ths.length) (hf : (thA s.ths th).frs = []) {p : Nat} {ids : List Nat} (hk : s.clos[(thA s.ths th).fn]? = some (p, ids)) : (aenter (Psf C.F) (thA s.ths th).fn [va] false { s with cur := th }).setT { (aenter (Psf C.F) (thA s.ths th).fn [va] false { s with cur := th }).th with st := 4 } = exS (Psf C.F) th va vb s := by
  have e0 : ({ s with cur := th } : AS).th = thA s.ths th := rfl
  rw [aenter_0 (s := { s with cur := th }) hf hk, setT_mk (by exact hth)]
  unfold exS
  dsimp only
  rw [if_pos h1, aenter_0 (s := ({ s with cur := th } : AS).setT { ({ s with cur := th } : AS).th with st := 4 }) (by rw [thX_set (s := { s with cur := th }) hth]; exact hf) hk, thX_set (s := { s with cur := th }) hth]
  unfold mkA AS.setT
  dsimp only
  rw [List.set_set]
set_option maxHeartbeats 8000000 in
theorem execA (hR : AMq C w ow s) (hth : th < s.ths.length) (hst : (thA s.ths th).st = 1 ∨ (thA s.ths th).st = 2 ∨ (thA s.ths th).st = 3) (h1f : (thA s.ths th).st = 1 → (thA s.ths th).frs = []) (hva : VV s.clos.length s.ths.length s.tabs.length va) (hvb : VV s.clos.length s.ths.length s.tabs.length vb) (hL : LI C b n (exS (Psf C.F) th va vb s)) (hb : b.done = true) (hd : s.done = false) :
    Ret Tryz.prog 89 [ptr C.E.mb, i64c th, pv va, pv vb] w (ExR C b n (th, s.stack, s.first, false) w ow) := by
  have hX : Xt w ow ow := Xt.refl _ _
  have hF : Fram (tg ow vtT) w w := Fram.refl _ _
  have hk : kN (exS (Psf C.F) th va vb s) = (th, s.stack, s.first, false) := by rw [exS_k, hd]
  have hdz : (exS (Psf C.F) th va vb s).done = false := congrArg (fun q => q.2.2.2) hk
  have hcz : (exS (Psf C.F) th va vb s).cur = th := congrArg Prod.fst hk
  have hTS := hL.sh.tr hdz
  obtain ⟨k0, rfl⟩ : ∃ k, n = k + 1 := ⟨n - 1, by
    rcases n with _ | m
    · have h9 : exS (Psf C.F) th va vb s = b := hL.go
      rw [h9, hb] at hdz
      cases hdz
    · rfl⟩
  obtain ⟨opz, xz, hsz, -⟩ := hL.step
  obtain ⟨lT, hT, l25, hth5, e0, e1, -⟩ := AMq.stS (s := { s with cur := th }) (hR.same rfl rfl rfl rfl rfl rfl) hth
  obtain ⟨lM, hM, m9, m12⟩ : ∃ lM, Blk w.heap C.E.mb lM 89 ∧ lM[9]? = some (.slice (some ⟨C.E.tb, 0, none⟩) s.ths.length 5) ∧ lM[12]? = some (i64c 0) := by
    obtain ⟨V, κ, Vv, U, h1, h2⟩ := hR
    obtain ⟨lM, hM, -, -, -, -, -, -, -, -, -, m9, -, -, m12⟩ := h1.mbA
    rw [h2.r.tlen] at m9
    exact ⟨lM, hM, m9, m12⟩
  have hth5 : th < 5 := hth5
  have e0 : lT[th * 5 + 0]? = some (i64c (thA s.ths th).st) := e0
  have e1 : lT[th * 5 + 1]? = some (i64c (thA s.ths th).fn) := e1
  refine ret_of Tryz.func89 rfl Tryz.ntmps89 rfl ?_
  refine c_seq (fun K1 hK1 => ?_)
  refine c_reg ?_ -- region 0 exec.go:54
  refine wl_box (cs := (pvc va)) rfl rfl (fun b6 w1 hbb6 h6 F1 => ?_)
  have hbsb6 := Nat.le_trans hF.size hbb6
  have hneC.E.mbb6 : C.E.mb < b6 := Nat.lt_of_lt_of_le hM.lt hbb6
  have hneC.E.tbb6 : C.E.tb < b6 := Nat.lt_of_lt_of_le hT.lt hbb6
  have kh6 := hR.df b6 hbb6
  replace hF := hF.thenDrew.thenN F1
  replace hR := hR.thruN ((Fram.refl none' _).thenDrew.thenN F1)
  replace hM := F1.blkN hM
  replace hT := F1.blkN hT
  refine wl_box (cs := (pvc vb)) rfl rfl (fun b7 w2 hbb7 h7 F2 => ?_)
  have hbsb7 := Nat.le_trans hF.size hbb7
  have hneC.E.mbb7 : C.E.mb < b7 := Nat.lt_of_lt_of_le hM.lt hbb7
  have hneC.E.tbb7 : C.E.tb < b7 := Nat.lt_of_lt_of_le hT.lt hbb7
  have hneb6b7 : b6 < b7 := Nat.lt_of_lt_of_le h6.lt hbb7
  have kh7 := hR.df b7 hbb7
  replace hF := hF.thenDrew.thenN F2
  replace hR := hR.thruN ((Fram.refl none' _).thenDrew.thenN F2)
  replace hM := F2.blkN hM
  replace hT := F2.blkN hT
  replace h6 := F2.blkN h6
  refine wl_new (ze_211) (fun b8 w3 hbb8 h8 F3 => ?_)
  have hbsb8 := Nat.le_trans hF.size hbb8
  have hneC.E.mbb8 : C.E.mb < b8 := Nat.lt_of_lt_of_le hM.lt hbb8
  have hneC.E.tbb8 : C.E.tb < b8 := Nat.lt_of_lt_of_le hT.lt hbb8
  have hneb6b8 : b6 < b8 := Nat.lt_of_lt_of_le h6.lt hbb8
  have hneb7b8 : b7 < b8 := Nat.lt_of_lt_of_le h7.lt hbb8
  have kh8 := hR.df b8 hbb8
  replace hF := hF.thenDrew.thenN F3
  replace hR := hR.thruN ((Fram.refl none' _).thenDrew.thenN F3)
  replace hM := F3.blkN hM
  replace hT := F3.blkN hT
  replace h6 := F3.blkN h6
  replace h7 := F3.blkN h7
  refine wl_nil (x_then (hK1 _ _ ?_))
  clear hK1 K1
  refine c_seq (fun K2 hK2 => ?_)
  refine c_seq (fun K3 hK3 => ?_)
  refine c_reg ?_ -- region 1 exec.go:55
  refine wl (ro_move rfl) ?_
  refine wl (ro_nilCheck rfl) ?_
  refine wl (ro_fieldAddr (k := 12) rfl fo_89_12) ?_
  refine wl (ro_loadB rfl sc_54 (hM) (m12)) ?_
  refine wl (ro_cmp (r := false) rfl rfl rfl) ?_
  refine wl (ro_move rfl) ?_
  refine wlg_yes rfl (ro_move rfl) ?_
  refine wlg_yes rfl (ro_cmp (r := false) rfl rfl (congrArg some (decide_eq_false (by omega)))) ?_
  refine wl (ro_pick rfl rfl rfl) ?_
  refine wl (ro_move rfl) ?_
  refine wlg_yes rfl (ro_move rfl) ?_
  refine wlg_yes rfl (ro_move rfl) ?_
  refine wlg_yes rfl (ro_nilCheck rfl) ?_
  refine wlg_yes rfl (ro_fieldAddr (k := 9) rfl fo_89_9) ?_
  refine wlg_yes rfl (ro_loadB rfl sc_80 (hM) (m9)) ?_
  refine wlg_yes rfl (ro_lenL rfl se_80) ?_
  refine wlg_yes rfl (ro_cmp (r := false) rfl rfl (congrArg some (decide_eq_false (by omega)))) ?_
  refine wl (ro_pick rfl rfl rfl) ?_
  refine wl_nil (x_then (hK3 _ _ ?_))
  clear hK3 K3
  refine wc_condF rfl ?_
  refine c_skip (x_then (hK2 _ _ ?_))
  clear hK2 K2
  refine forget [(0, _), (1, _), (6, _), (7, _), (8, _)] ⟨rfl, rfl, rfl, rfl, rfl, trivial⟩ (fun e => ?_)
  refine c_seq (fun K4 hK4 => ?_)
  refine c_reg ?_ -- region 3 exec.go:58
  refine wl (ro_move rfl) ?_
  refine wl (ro_loadAggB rfl ag_119 (h6) rfl rfl) ?_
  refine wl_call rfl en_149 (validA hR hva) ?_
  rintro _ w4 ⟨rfl, F4⟩
  replace hF := hF.thenDrew.thenN F4
  replace hR := hR.thruN ((Fram.refl none' _).thenDrew.thenN F4)
  replace hM := F4.blkN hM
  replace hT := F4.blkN hT
  replace h6 := F4.blkN h6
  replace h7 := F4.blkN h7
  replace h8 := F4.blkN h8
  refine wl (ro_assign rfl) ?_
  refine wl_nil (x_then (hK4 _ _ ?_))
  clear hK4 K4
  refine forget [(0, _), (1, _), (6, _), (7, _), (8, _), (9, _)] ⟨rfl, rfl, rfl, rfl, rfl, rfl, trivial⟩ (fun e => ?_)
  refine c_seq (fun K5 hK5 => ?_)
  refine c_reg ?_ -- region 4 exec.go:59
  refine wl (ro_move rfl) ?_
  refine wl (ro_loadAggB rfl ag_119 (h7) rfl rfl) ?_
  refine wl_call rfl en_149 (validA hR hvb) ?_
  rintro _ w5 ⟨rfl, F5⟩
  replace hF := hF.thenDrew.thenN F5
  replace hR := hR.thruN ((Fram.refl none' _).thenDrew.thenN F5)
  replace hM := F5.blkN hM
  replace hT := F5.blkN hT
  replace h6 := F5.blkN h6
  replace h7 := F5.blkN h7
  replace h8 := F5.blkN h8
  refine wl (ro_assign rfl) ?_
  refine wl_nil (x_then (hK5 _ _ ?_))
  clear hK5 K5
  refine c_seq (fun K6 hK6 => ?_)
  refine c_seq (fun K7 hK7 => ?_)
  refine c_reg ?_ -- region 5 exec.go:60
  refine wl (ro_move rfl) ?_
  refine wl (ro_not rfl) ?_
  refine wl (ro_move rfl) ?_
  refine wlg_yes rfl (ro_move rfl) ?_
  refine wlg_yes rfl (ro_not rfl) ?_
  refine wl (ro_pick rfl rfl rfl) ?_
  refine wl_nil (x_then (hK7 _ _ ?_))
  clear hK7 K7
  refine wc_condF rfl ?_
  refine c_skip (x_then (hK6 _ _ ?_))
  clear hK6 K6
  refine forget [(0, _), (1, _), (6, _), (7, _), (8, _)] ⟨rfl, rfl, rfl, rfl, rfl, trivial⟩ (fun e => ?_)
  refine c_seq (fun K8 hK8 => ?_)
  refine c_reg ?_ -- region 7 exec.go:63
  refine wl (ro_move rfl) ?_
  refine wl (ro_nilCheck rfl) ?_
  refine wl (ro_fieldAddr (k := 9) rfl fo_89_9) ?_
  refine wl (ro_loadB rfl sc_80 (hM) (m9)) ?_
  refine wl (ro_move rfl) ?_
  refine wl (ro_indexAddr (et := 269) (k := 5) rfl rfl se_80 (rfl) ((by omega))) ?_
  refine wl (ro_assign rfl) ?_
  refine wl_nil (x_then (hK8 _ _ ?_))
  clear hK8 K8
  refine c_mid (fun aa ww => ∃ ow5 S5, AMq C ww ow5 S5 ∧ S5.cur = th ∧ th < S5.ths.length ∧ S5.setT { S5.th with st := 4 } = exS (Psf C.F) th va vb s ∧ Xt w ow ow5 ∧ Fram (tg ow vtT) w ww ∧ Blk ww.heap b8 (vevc 0 0 0 vNil vNil) 211 ∧ ow5 b8 = 66 ∧ ∃ e', aa = Fr 88 (upds e' [(0, ptr C.E.mb), (1, i64c th), (8, ptr b8), (11, tptr C th)]) []) ?_ ?_
  · skip
    refine c_seq (fun K9 hK9 => ?_)
    rw [show 0 + th * 5 = th * 5 from Nat.zero_add _]
    refine c_reg ?_ -- region 8 exec.go:64
    refine wl (ro_move rfl) ?_
    refine wl (ro_nilCheck rfl) ?_
    refine wl (ro_fieldAddr (k := 0) rfl fo_269_0) ?_
    refine wl (ro_loadB rfl sc_3 (hT) (e0)) ?_
    refine wl_nil (x_then (hK9 _ _ ?_))
    clear hK9 K9
    refine c_block ?_
    refine forget [(0, _), (1, _), (6, _), (7, _), (8, _), (11, _), (55, _)] ⟨rfl, rfl, rfl, rfl, rfl, rfl, rfl, trivial⟩ (fun e => ?_)
    refine c_seq (fun K10 hK10 => ?_)
    refine c_reg ?_ -- region 10 exec.go:65
    refine wl (ro_cmp rfl rfl rfl) ?_
    refine wl (ro_assign rfl) ?_
    refine wl_nil (x_then (hK10 _ _ ?_))
    clear hK10 K10
    refine wc_cond rfl (fun hc57 => ?_) (fun hc57 => ?_)
    · try simp only [decide_eq_true_eq, decide_eq_false_iff_not, Bool.not_eq_true', Bool.not_eq_false', Bool.not_eq_eq_eq_not, Bool.not_true, Bool.not_false, beq_iff_eq, bne_iff_ne, ne_eq, beq_eq_false_iff_ne, bne_eq_false_iff_eq, gt_iff_lt, ge_iff_le, Int.not_lt, Int.not_le] at hc57
      have h1 : (thA s.ths th).st = 1 := by omega
      have hf0 := h1f h1
      obtain ⟨fr, hfr1, hfr2, hfr3⟩ := exS_cl (Ps := Psf C.F) (va := va) (vb := vb) h1 hth
      have hcl : (thA s.ths th).fn < s.clos.length := by
        have := hL.sh.fr _ (List.mem_of_getElem? (th_get hTS.lt)) fr hfr1
        rw [hfr2, hfr3] at this
        exact this
      obtain ⟨pn, idn, hkn, hpn⟩ : ∃ pn idn, s.clos[(thA s.ths th).fn]? = some (pn, idn) ∧ pn < C.F.length := by
        have h9 : s.clos[(thA s.ths th).fn]? = some (s.clos[(thA s.ths th).fn].1, s.clos[(thA s.ths th).fn].2) := List.getElem?_eq_getElem hcl
        have h8 := (hL.sh.cl _ _ _ (by rw [hfr3]; exact h9)).1
        unfold Psf at h8
        rw [List.length_map] at h8
        exact ⟨_, _, h9, h8⟩
      refine c_piL 8 [(0, false), (1, false), (2, false), (3, false), (4, false), (5, false), (6, false), (7, true)] (La C.E.tb _ _ (La b6 _ _ (La b7 _ _ (La b8 _ _ (Mz C))))) mixed (by kernel_rfl) rfl (by kernel_rfl) (po_blk (po_then (po_bp))) (⟨hT, h6, h7, h8, hR.rz⟩) ?_ -- region 11 exec.go:66
      refine ql_ro rfl (fun w hS => ro_move rfl) ?_
      refine ql_ro rfl (fun w hS => ro_move rfl) ?_
      refine ql_ro rfl (fun w hS => ro_move rfl) ?_
      refine ql_ro rfl (fun w hS => ro_nilCheck rfl) ?_
      refine ql_ro rfl (fun w hS => ro_fieldAddr (k := 1) rfl fo_269_1) ?_
      refine ql_ro rfl (fun w hS => ro_loadB rfl sc_3 (hS.1) (e1)) ?_
      refine ql_ro rfl (fun w hS => ro_loadAggB rfl ag_119 (hS.2.1) rfl rfl) ?_
      refine ql_eo rfl (eo_bsV1 (i := va) rfl se_83 zx_119) ⟨(Fram.alloc none' _ _).blkN hT, (Fram.alloc none' _ _).blkN h6, (Fram.alloc none' _ _).blkN h7, (Fram.alloc none' _ _).blkN h8, (hR.dr.thruN (Fram.alloc none' _ _)).rz⟩ ?_
      have F66 := Fram.alloc none' { w5 with drawn := w5.drawn + 1 } (.cells (rws pvc [va]).toArray 119)
      have h66 := Blk.new { w5 with drawn := w5.drawn + 1 } (rws pvc [va]) 119
      have k66 := hR.df w5.heap.size (Nat.le_refl _)
      replace hR := hR.dr.thruN F66
      replace hF := hF.thenDrew.thenN F66
      replace h8 := F66.blkN h8
      refine ql_lastC rfl rfl en_150 (enterX (s := { s with cur := th }) (hR.dr.same rfl rfl rfl rfl rfl rfl) hth hf0 hkn hpn h66 k66) ?_
      rintro _ u6 ⟨rfl, ow6, x6, f6, r6⟩
      obtain ⟨h8, kh8⟩ := vm_loc x6 f6 h8 kh8
      have hs6 := hF.size
      replace hF := vm_trans hX hF f6
      replace hX := hX.trans hs6 x6
      replace hR := r6
      refine x_blk (x_then ?_)
      exact ⟨_, _, hR, rfl, (by show th < (s.ths.set th _).length; rw [List.length_set]; exact hth), exS_1 h1 hth hf0 hkn, hX, hF, h8, kh8, kp _ ⟨rfl, rfl, rfl, rfl, trivial⟩⟩
    · try simp only [decide_eq_true_eq, decide_eq_false_iff_not, Bool.not_eq_true', Bool.not_eq_false', Bool.not_eq_eq_eq_not, Bool.not_true, Bool.not_false, beq_iff_eq, bne_iff_ne, ne_eq, beq_eq_false_iff_ne, bne_eq_false_iff_eq, gt_iff_lt, ge_iff_le, Int.not_lt, Int.not_le] at hc57
      refine c_seq (fun K11 hK11 => ?_)
      refine c_seq (fun K12 hK12 => ?_)
      by_cases h2 : (thA s.ths th).st = 2
      · skip
        have h1 : (thA s.ths th).st ≠ 1 := by omega
        have hne := exS_fr (C := C) (va := va) (vb := vb) (by unfold AS.th; rw [hcz]; rw [hcz] at hTS; exact hTS.ne) h1 hth
        refine c_reg ?_ -- region 12 exec.go:67
        refine wl (ro_cmp (r := true) rfl rfl (by rw [h2]; rfl)) ?_
        refine wl (ro_assign rfl) ?_
        refine wl_nil (x_then (hK12 _ _ ?_))
        clear hK12 K12
        refine wc_condT rfl ?_
        refine c_skip (x_then (hK11 _ _ ?_))
        clear hK11 K11
        refine wc_condT rfl ?_
        obtain ⟨y, gs, g, fg, fc, hex, hm⟩ := pushX (va := va) (vb := vb) hR hth h1 hne
        have hc : ({ s with cur := th } : AS).cur < ({ s with cur := th } : AS).ths.length := hth
        have hgo := hsz.g.1
        rw [← hex, mk_fr hc] at hgo
        simp only [List.length_cons] at hgo
        replace hR := hm
        refine c_reg ?_ -- region 14 exec.go:68
        refine wl (ro_move rfl) ?_
        refine wl (ro_loadAggB rfl ag_119 (h6) rfl rfl) ?_
        refine wl (ro_loadAggB rfl ag_119 (h7) rfl rfl) ?_
        refine wl_pu (vs := [va, vb]) (eo_bsV2 rfl rfl se_83 zx_119) rfl hR.dr hc rfl (by show g.ops.length + 2 ≤ 300; omega) ?_
        intro u7 ow7 x7 f7 r7
        obtain ⟨h6, kh6⟩ := vm_loc x7 f7 h6 kh6
        obtain ⟨h7, kh7⟩ := vm_loc x7 f7 h7 kh7
        obtain ⟨h8, kh8⟩ := vm_loc x7 f7 h8 kh8
        have hs7 := hF.size
        replace hF := vm_trans hX hF f7
        replace hX := hX.trans hs7 x7
        replace hR := r7
        refine wl_nil (x_blk (x_then ?_))
        exact ⟨_, _, hR.q, rfl, (by show th < (s.ths.set th _).length; rw [List.length_set]; exact hth), (setT_mk hc 4).trans hex, hX, hF, h8, kh8, kp _ ⟨rfl, rfl, rfl, rfl, trivial⟩⟩
      · skip
        have h1 : (thA s.ths th).st ≠ 1 := by omega
        have hne := exS_fr (C := C) (va := va) (vb := vb) (by unfold AS.th; rw [hcz]; rw [hcz] at hTS; exact hTS.ne) h1 hth
        refine c_reg ?_ -- region 12 exec.go:67
        refine wl (ro_cmp (r := false) rfl rfl (congrArg some (decide_eq_false (by omega)))) ?_
        refine wl (ro_assign rfl) ?_
        refine wl_nil (x_then (hK12 _ _ ?_))
        clear hK12 K12
        refine wc_condF rfl ?_
        refine c_reg ?_ -- region 13 exec.go:67
        refine wl (ro_cmp (r := true) rfl rfl (by rw [show (thA s.ths th).st = 3 by omega]; rfl)) ?_
        refine wl (ro_assign rfl) ?_
        refine wl_nil (x_then (hK11 _ _ ?_))
        clear hK11 K11
        refine wc_condT rfl ?_
        obtain ⟨y, gs, g, fg, fc, hex, hm⟩ := pushX (va := va) (vb := vb) hR hth h1 hne
        have hc : ({ s with cur := th } : AS).cur < ({ s with cur := th } : AS).ths.length := hth
        have hgo := hsz.g.1
        rw [← hex, mk_fr hc] at hgo
        simp only [List.length_cons] at hgo
        replace hR := hm
        refine c_reg ?_ -- region 14 exec.go:68
        refine wl (ro_move rfl) ?_
        refine wl (ro_loadAggB rfl ag_119 (h6) rfl rfl) ?_
        refine wl (ro_loadAggB rfl ag_119 (h7) rfl rfl) ?_
        refine wl_pu (vs := [va, vb]) (eo_bsV2 rfl rfl se_83 zx_119) rfl hR.dr hc rfl (by show g.ops.length + 2 ≤ 300; omega) ?_
        intro u8 ow8 x8 f8 r8
        obtain ⟨h6, kh6⟩ := vm_loc x8 f8 h6 kh6
        obtain ⟨h7, kh7⟩ := vm_loc x8 f8 h7 kh7
        obtain ⟨h8, kh8⟩ := vm_loc x8 f8 h8 kh8
        have hs8 := hF.size
        replace hF := vm_trans hX hF f8
        replace hX := hX.trans hs8 x8
        replace hR := r8
        refine wl_nil (x_blk (x_then ?_))
        exact ⟨_, _, hR.q, rfl, (by show th < (s.ths.set th _).length; rw [List.length_set]; exact hth), (setT_mk hc 4).trans hex, hX, hF, h8, kh8, kp _ ⟨rfl, rfl, rfl, rfl, trivial⟩⟩
  rintro _ w9 ⟨ow9, S9, hR, hS9, hl9, hz9, hX, hF, h8, kh8, e', rfl⟩
  obtain ⟨lT9, hT, l259, -, e09, -, law9⟩ := hR.stS (by rw [hS9]; exact hl9)
  rw [hS9] at e09 law9
  clear hM
  have hvt9 : tg ow vtT C.E.tb ∨ w.heap.size ≤ C.E.tb := vt_old hX hR.vtb
  refine c_seq (fun K13 hK13 => ?_)
  refine c_reg ?_ -- region 15 exec.go:72
  refine wl (ro_move rfl) ?_
  refine wl (ro_nilCheck rfl) ?_
  refine wl (ro_fieldAddr (k := 0) rfl fo_269_0) ?_
  refine wl_put rfl rfl rfl sz_3 hT ((by omega)) (rfl) (fun w9 hT F9 => ?_)
  replace hF := hF.thenDrew.thenO F9 (by first | exact .inr (by omega) | exact .inl rfl | exact .inl (by assumption) | assumption)
  replace h8 := F9.blkO h8 (by first | omega | exact ow_ne (by assumption) (by assumption) (by omega))
  have hR := law9 w9 4 F9 hT
  rw [hz9] at hR
  refine wl_nil (x_then (hK13 _ _ ?_))
  clear hK13 K13
  refine c_block ?_
  -- loop@r16: live slots [0, 1, 8, 11]
  refine c_loopG (fun m aa u => ∃ s1 ow1, m ≤ k0 + 1 ∧ LI C b m s1 ∧ kN s1 = (th, s.stack, s.first, false) ∧ AMq C u ow1 s1 ∧ Xt w ow ow1 ∧ Fram (tg ow vtT) w u ∧ Blk u.heap b8 (vevc 0 0 0 vNil vNil) 211 ∧ ow1 b8 = 66 ∧ ∃ e', aa = Fr 88 (upds e' [(0, ptr C.E.mb), (1, i64c th), (8, ptr b8), (11, tptr C th)]) []) (k0 + 1) ⟨_, _, Nat.le_refl _, hL, hk, hR, hX, hF, h8, kh8, kp _ ⟨rfl, rfl, rfl, rfl, trivial⟩⟩ ?_
  clear hR hX hF h8 kh8
  rintro m aa u ⟨s1, ow1, hmn, hLm, hkm, hR, hX, hF, h8, kh8, e', rfl⟩
  refine c_block ?_
  refine c_seq (fun K14 hK14 => ?_)
  refine c_reg ?_ -- region 16 exec.go:74
  refine wl (ro_move rfl) ?_
  refine wl (ro_move rfl) ?_
  refine wl (ro_move rfl) ?_
  refine wl_call rfl en_152 (runA hLm hb (congrArg (fun q ↦ q.2.2.2) hkm) (congrArg Prod.fst hkm) hkm hR) ?_
  rintro r50 u50 ⟨n5, z5, ow5, s5, hn5, hL5, x50, f50, k5, hE5⟩
  obtain ⟨k9, t9, e9, v9, u9, d9, rfl⟩ : ∃ k t e v u d, r50 = .tuple #[vevv k t e v u, .bool d] := by
    rcases hE5 with ⟨-, ⟨v, u, h, -⟩ | ⟨k, v, h, -⟩ | ⟨v, h, -⟩ | ⟨v, h, -⟩ | ⟨h, -⟩⟩ | ⟨e, h, -⟩ <;> exact ⟨_, _, _, _, _, _, h⟩
  have hR5 : WX C ow5 s5 ((∃ v u, vevv k9 t9 e9 v9 u9 = vevv 1 0 0 v u ∧ d9 = true ∧ HS s5 ∧ (wfV v = true ∧ W64 v.N) ∧ aback true v s5 = z5) ∨ (∃ k v, vevv k9 t9 e9 v9 u9 = vevv 4 k 0 v vNil ∧ d9 = true ∧ rsm (Psf C.F) k v s5 = z5 ∧ k < s5.ths.length ∧ ((thA s5.ths k).st = 1 ∧ (thA s5.ths k).frs = [] ∨ (thA s5.ths k).st = 2) ∧ VV s5.clos.length s5.ths.length s5.tabs.length v) ∨ (∃ v, vevv k9 t9 e9 v9 u9 = vevv 3 0 0 v vNil ∧ d9 = true ∧ s5.cur ≠ 0 ∧ HS s5 ∧ yld v s5 = z5) ∨ (∃ v, vevv k9 t9 e9 v9 u9 = vevv 2 0 0 v vNil ∧ d9 = true ∧ HS s5 ∧ (wfV v = true ∧ W64 v.N) ∧ aback false v s5 = z5) ∨ (d9 = false ∧ s5 = z5)) (∃ e, vevv k9 t9 e9 v9 u9 = vevv 5 0 e vNil vNil ∧ d9 = true ∧ ATr e s5 z5) u50 := by
    rcases hE5 with ⟨q, ⟨v, u, h, hz⟩ | ⟨k, v, h, hz⟩ | ⟨v, h, hz⟩ | ⟨v, h, hz⟩ | ⟨h, hz⟩⟩ | ⟨e, h, hz, q⟩
    · exact .inl ⟨q, .inl ⟨v, u, (tup2 h).1, (tup2b h).2, hz⟩⟩
    · exact .inl ⟨q, .inr (.inl ⟨k, v, (tup2 h).1, (tup2b h).2, hz⟩)⟩
    · exact .inl ⟨q, .inr (.inr (.inl ⟨v, (tup2 h).1, (tup2b h).2, hz⟩))⟩
    · exact .inl ⟨q, .inr (.inr (.inr (.inl ⟨v, (tup2 h).1, (tup2b h).2, hz⟩)))⟩
    · exact .inl ⟨q, .inr (.inr (.inr (.inr ⟨(tup2b h).2, hz⟩)))⟩
    · exact .inr ⟨q, e, (tup2 h).1, (tup2b h).2, hz⟩
  clear hE5
  obtain ⟨h8, kh8⟩ := vm_loc x50 f50 h8 kh8
  have hs50 := hF.size
  replace hF := vm_trans hX hF f50
  replace hX := hX.trans hs50 x50
  have hR := hR5
  clear hR5
  refine wl (ro_move rfl) ?_
  refine wl (ro_extract rfl rfl) ?_
  refine wl (ro_extract rfl rfl) ?_
  refine wl_new (ze_211) (fun b12 w10 hbb12 h12 F10 => ?_)
  have hbsb12 := Nat.le_trans hF.size hbb12
  have hneb8b12 : b8 < b12 := Nat.lt_of_lt_of_le h8.lt hbb12
  have kh12 := hR.df b12 hbb12
  replace hF := hF.thenDrew.thenN F10
  replace h8 := F10.blkN h8
  replace hR := hR.thruN ((Fram.refl none' _).thenDrew.thenN F10)
  refine wl_puta rfl rfl ((vevc_one _ _ _ _ _)) sz_211 (rfl) h12 ((Nat.le_refl 9)) (rfl) (fun w11 h12 F11 => ?_)
  replace hF := hF.thenDrew.thenO F11 (by first | exact .inr (by omega) | exact .inl rfl | exact .inl (by assumption) | assumption)
  replace h8 := F11.blkO h8 (by first | omega | exact ow_ne (by assumption) (by assumption) (by omega))
  replace hR := hR.hbput ((Fram.refl (one b12) _).thenDrew.thenO F11 (.inl rfl))
  refine wl (ro_assign rfl) ?_
  refine wl_nil (x_then (hK14 _ _ ?_))
  clear hK14 K14
  refine forget [(0, _), (1, _), (8, _), (11, _), (12, _), (13, _)] ⟨rfl, rfl, rfl, rfl, rfl, rfl, trivial⟩ (fun e => ?_)
  refine c_seq (fun K15 hK15 => ?_)
  refine c_reg ?_ -- region 17 exec.go:75
  refine wl (ro_move rfl) ?_
  refine wl_nil (x_then (hK15 _ _ ?_))
  clear hK15 K15
  refine wc_cond rfl (fun hc86 => ?_) (fun hc86 => ?_)
  · try simp only [decide_eq_true_eq, decide_eq_false_iff_not, Bool.not_eq_true', Bool.not_eq_false', Bool.not_eq_eq_eq_not, Bool.not_true, Bool.not_false, beq_iff_eq, bne_iff_ne, ne_eq, beq_eq_false_iff_ne, bne_eq_false_iff_eq, gt_iff_lt, ge_iff_le, Int.not_lt, Int.not_le] at hc86
    refine c_seq (fun K16 hK16 => ?_)
    refine c_reg ?_ -- region 18 exec.go:76
    refine wl (ro_loadAggB rfl ag_211 (h12) rfl rfl) ?_
    refine wl_puta rfl rfl ((vevc_one _ _ _ _ _)) sz_211 (rfl) h8 ((Nat.le_refl 9)) (rfl) (fun w12 h8 F12 => ?_)
    replace hF := hF.thenDrew.thenO F12 (by first | exact .inr (by omega) | exact .inl rfl | exact .inl (by assumption) | assumption)
    replace hR := hR.hbput ((Fram.refl (one b8) _).thenDrew.thenO F12 (.inl rfl))
    replace h12 := F12.blkO h12 (by first | omega | exact ow_ne (by assumption) (by assumption) (by omega))
    refine wl_nil (x_then (hK16 _ _ ?_))
    clear hK16 K16
    refine c_ret (x_blkR (x_thenR (x_blkR ?_)))
    refine bq_ret (res1 Tryz.results89 (rv_c rfl ag_211 (h8) (rfl))) ?_
    refine ⟨n5, z5, ow5, s5, by omega, hL5, hX, hF, k5, ?_⟩
    rcases hR with ⟨q, ⟨v, u, h, -, hz⟩ | ⟨k, v, h, -, hz⟩ | ⟨v, h, -, hz⟩ | ⟨v, h, -, hz⟩ | ⟨h, -⟩⟩ | ⟨q, e, h, -, hz⟩
    · exact .inl ⟨q, .inl ⟨v, u, h, hz⟩⟩
    · exact .inl ⟨q, .inr (.inl ⟨k, v, h, hz⟩)⟩
    · exact .inl ⟨q, .inr (.inr (.inl ⟨v, h, hz⟩))⟩
    · exact .inl ⟨q, .inr (.inr (.inr ⟨v, h, hz⟩))⟩
    · rw [hc86] at h; cases h
    · exact .inr ⟨e, h, hz, q⟩
  · try simp only [decide_eq_true_eq, decide_eq_false_iff_not, Bool.not_eq_true', Bool.not_eq_false', Bool.not_eq_eq_eq_not, Bool.not_true, Bool.not_false, beq_iff_eq, bne_iff_ne, ne_eq, beq_eq_false_iff_ne, bne_eq_false_iff_eq, gt_iff_lt, ge_iff_le, Int.not_lt, Int.not_le] at hc86
    refine c_skip (x_blk (x_then ?_))
    rcases hR with ⟨q, ⟨v, u, -, h, -⟩ | ⟨k, v, -, h, -⟩ | ⟨v, -, h, -⟩ | ⟨v, -, h, -⟩ | ⟨h, hz⟩⟩ | ⟨q, e, -, h, -⟩
    · rw [hc86] at h; cases h
    · rw [hc86] at h; cases h
    · rw [hc86] at h; cases h
    · rw [hc86] at h; cases h
    · rw [← hz] at hL5
      exact ⟨n5, hn5, s5, ow5, by omega, hL5, k5, q, hX, hF, h8, kh8, kp _ ⟨rfl, rfl, rfl, rfl, trivial⟩⟩
    · rw [hc86] at h; cases h
end
end Go.Proofs.Qxb6500568aGreatDoor
