import Derived.Test.Qxb6500568aGreatDoorZz
/- The compiler: tests, while (written by tools/mk_zs.py). -/
namespace Go.Proofs.Qxb6500568aGreatDoor
open Ieee
set_option linter.unusedVariables false
set_option linter.unusedSimpArgs false
set_option linter.unusedSectionVars false

theorem pch_hp (x : Nat) (e : Cod) : ∀ (d c : Cod), pch (c ++ d ++ e) (hp c.length d) x = c ++ d.map (holeF x) ++ e
  | [], c => by simp [hp, pch]
  | i :: d, c => by
    have e1 : hp c.length (i :: d) = if i = (21, 65535) then c.length :: hp (c.length + 1) d else hp (c.length + 1) d := rfl
    rw [e1]
    by_cases h : i = (21, 65535)
    · subst h
      rw [if_pos rfl]
      show pch (setX (c ++ ((21, 65535) :: d) ++ e) c.length x) (hp (c.length + 1) d) x = _
      rw [show c ++ ((21, 65535) :: d) ++ e = c ++ [(21, 65535)] ++ (d ++ e) by simp, setX_mid, ← List.append_assoc, show c.length + 1 = (c ++ [(21, x)]).length by simp, pch_hp x e d (c ++ [(21, x)])]
      have h2 : holeF x (21, 65535) = (21, x) := if_pos rfl
      simp [h2]
    · rw [if_neg h, show c ++ (i :: d) ++ e = c ++ [i] ++ d ++ e by simp, show c.length + 1 = (c ++ [i]).length by simp, pch_hp x e d (c ++ [i])]
      have h2 : holeF x i = i := if_neg h
      simp [h2]
theorem iff_code {c1 B1 D1 c1m c2 c2m c3 c4 : Cod} (h1 : c1m = c1 ++ [(22, 65535)]) (h2 : c2 = c1m ++ B1) (h3 : c2m = c2 ++ [(21, 65535)]) (h4 : c3 = setX c2m c1.length c2m.length) (h5 : c4 = c3 ++ D1) : setX c4 c2.length c4.length = c1 ++ [(22, c2m.length)] ++ B1 ++ [(21, c4.length)] ++ D1 := by
  have e1 : ∀ K, setX c2m c1.length K = c1 ++ [(22, K)] ++ (B1 ++ [(21, 65535)]) := fun K => by
    rw [h3, h2, h1, show c1 ++ [(22, 65535)] ++ B1 ++ [(21, 65535)] = c1 ++ [(22, 65535)] ++ (B1 ++ [(21, 65535)]) by simp]
    exact setX_mid
  rw [e1] at h4
  have hl : (c1 ++ [(22, c2m.length)] ++ B1).length = c2.length := by rw [h2, h1]; simp
  have e2 : ∀ K, setX c4 c2.length K = c1 ++ [(22, c2m.length)] ++ B1 ++ [(21, K)] ++ D1 := fun K => by
    rw [h5, h4, show c1 ++ [(22, c2m.length)] ++ (B1 ++ [(21, 65535)]) ++ D1 = (c1 ++ [(22, c2m.length)] ++ B1) ++ [(21, 65535)] ++ D1 by simp, ← hl]
    exact setX_mid
  exact e2 _
section
variable {E : ZEnv} {w : World} {ow : Nat → Nat} {O : List Nat} {S : Fns} {f : ZAct} {q : List ZAct} {N : List Nat} {B B' : Nat}
/-- behind a block. -/
theorem FX.bB {t : Tr} {lp : Bool} {n : Nat} (h : FX E S f q (numsT t ++ N) (100 * ndT t + (B + 3))) (hi : IsSL E.G n t) (hw : W t lp f.L.length) :
    FX E (cmp t f.L.length (chn (f :: q)) (Go.Proofs.Qxb6500568aGreatDoor.lpB f.lps) f.code.length S).2 { f with code := f.code ++ (cmp t f.L.length (chn (f :: q)) (Go.Proofs.Qxb6500568aGreatDoor.lpB f.lps) f.code.length S).1 65535, lps := addB f.lps (hp f.code.length ((cmp t f.L.length (chn (f :: q)) (Go.Proofs.Qxb6500568aGreatDoor.lpB f.lps) f.code.length S).1 65535)) } q N B := by
  have htt := h.tt
  have hLL := h.L
  have hln := FX.ln (t := t) (md := f.L.length) (base := Go.Proofs.Qxb6500568aGreatDoor.lpB f.lps) h
  refine h.step ((bd_all E.G (szT t)).2.2.2 t n lp hi (Nat.le_refl _)) hw h.lpB (by omega) (by omega) (by omega) h.L (by rw [addB_len]; have := h.lq; omega) (fun x hx => ?_)
  have hpl := hp_len f.code.length ((cmp t f.L.length (chn (f :: q)) (Go.Proofs.Qxb6500568aGreatDoor.lpB f.lps) f.code.length S).1 65535)
  rw [hln] at hpl
  rcases addB_mem hx with hx | ⟨y, hy, rfl⟩
  · obtain ⟨h1, h2, h3⟩ := h.lb x hx
    exact ⟨h1, by omega, fun p hp => by have := h3 p hp; omega⟩
  · obtain ⟨h1, h2, h3⟩ := h.lb y hy
    refine ⟨h1, by show (y.2 ++ _).length ≤ _; rw [List.length_append]; omega, fun p hp => ?_⟩
    rcases List.mem_append.1 hp with hp | hp
    · have := h3 p hp; omega
    · have := (hp_lt hp).2; rw [hln] at this; exact this
theorem FX.hoB {t : Tr} {lp : Bool} {n : Nat} (h : FX E S f q (numsT t ++ N) (100 * ndT t + (B + 3))) (hi : IsSL E.G n t) (hw : W t lp f.L.length) : HoP (cmp t f.L.length (chn (f :: q)) (Go.Proofs.Qxb6500568aGreatDoor.lpB f.lps) f.code.length S) := by
  have hb := (bd_all E.G (szT t)).2.2.2 t n lp hi (Nat.le_refl _) f.L.length f.j f.L (chn q) (Go.Proofs.Qxb6500568aGreatDoor.lpB f.lps) f.code.length S h.ch h.fit.left h.bd hw h.L h.lpB (by have := h.tt; have := h.L; omega) (by have := h.tt; omega)
  exact (ho_all E.G (szT t)).2 t n hi (Nat.le_refl _) f.L.length (chn (f :: q)) (Go.Proofs.Qxb6500568aGreatDoor.lpB f.lps) f.code.length S (hb.ops 0 (by decide))
theorem FX.setc (h : FX E S f q N B) {c : Cod} (hc : c.length = f.code.length) : FX E S { f with code := c } q N B :=
  ⟨h.ch, h.fit, h.bd, h.L, h.cp.re rfl, by show tot S + 3 * c.length + B ≤ _; rw [hc]; exact h.tt, h.lq, fun x hx => by
    show x.1 ≤ 12 ∧ x.2.length ≤ c.length ∧ ∀ p ∈ x.2, p < c.length
    rw [hc]; exact h.lb x hx, h.g0⟩
theorem FX.opn (h : FX E S f q N B) {b : Nat} (hb : b ≤ 12) (hB : B' + 3 ≤ B) : FX E S { f with lps := (b, []) :: f.lps } q N B' :=
  ⟨h.ch, h.fit, h.bd, h.L, h.cp.re rfl, by have := h.tt; show tot S + 3 * f.code.length + B' ≤ _; omega, by have := h.lq; show 3 * (f.lps.length + 1) + B' ≤ _; omega, fun x hx => by
    rcases List.mem_cons.1 hx with rfl | hx
    · exact ⟨hb, Nat.zero_le _, fun p hp => by cases hp⟩
    · exact h.lb x hx, h.g0⟩
end
section
variable {E : ZEnv} {w : World} {ow : Nat → Nat} {O : List Nat} {S : Fns} {f : ZAct} {q : List ZAct}
set_option maxHeartbeats 16000000 in
theorem test191 {a b d : Tr} {lp : Bool} (ha : XE a) (hb : XB b lp) (hd : XB d lp) {n pn : Nat} {cs : List Value} (hcs : cs = ndc (nd E.G n, pn)) (hR : CM E w ow O S (f :: q)) (hi1 : IsE E.G (nd E.G n).A a) (hi2 : IsSL E.G (nd E.G n).B b) (hi3 : IsSL E.G (nd E.G n).C d) (hw1 : W a false f.L.length) (hw2 : W b lp f.L.length) (hw3 : W d lp f.L.length) (hp1 : PaT E.pa a f.j) (hp2 : PaT E.pa b f.j) (hp3 : PaT E.pa d f.j) (hlp : lp = true → f.lps ≠ []) (hx0 : FX E S f q (numsT a ++ (numsT b ++ (numsT d ++ []))) (100 * ndT a + (100 * ndT b + (100 * ndT d + 60)))) :
    Ret Tryz.prog 191 [fptr E f.j, .agg cs.toArray] w (fun r w' => r = .tuple #[] ∧ ZP E w ow (O ++ (numsT a ++ (numsT b ++ numsT d))) (cmp d f.L.length (chn (f :: q)) (lpB f.lps) (f.code.length + ln (cmp a 0 (chn (f :: q)) 0 f.code.length S) + 1 + ln (cmp b f.L.length (chn (f :: q)) (lpB f.lps) (f.code.length + ln (cmp a 0 (chn (f :: q)) 0 f.code.length S) + 1) (cmp a 0 (chn (f :: q)) 0 f.code.length S).2) + 1) (cmp b f.L.length (chn (f :: q)) (lpB f.lps) (f.code.length + ln (cmp a 0 (chn (f :: q)) 0 f.code.length S) + 1) (cmp a 0 (chn (f :: q)) 0 f.code.length S).2).2).2 (⟨f.j, f.L, f.code ++ ((cmp a 0 (chn (f :: q)) 0 f.code.length S).1 65535 ++ [(22, f.code.length + ln (cmp a 0 (chn (f :: q)) 0 f.code.length S) + 1 + ln (cmp b f.L.length (chn (f :: q)) (lpB f.lps) (f.code.length + ln (cmp a 0 (chn (f :: q)) 0 f.code.length S) + 1) (cmp a 0 (chn (f :: q)) 0 f.code.length S).2) + 1)] ++ (cmp b f.L.length (chn (f :: q)) (lpB f.lps) (f.code.length + ln (cmp a 0 (chn (f :: q)) 0 f.code.length S) + 1) (cmp a 0 (chn (f :: q)) 0 f.code.length S).2).1 65535 ++ [(21, f.code.length + ln (cmp a 0 (chn (f :: q)) 0 f.code.length S) + 1 + ln (cmp b f.L.length (chn (f :: q)) (lpB f.lps) (f.code.length + ln (cmp a 0 (chn (f :: q)) 0 f.code.length S) + 1) (cmp a 0 (chn (f :: q)) 0 f.code.length S).2) + 1 + ln (cmp d f.L.length (chn (f :: q)) (lpB f.lps) (f.code.length + ln (cmp a 0 (chn (f :: q)) 0 f.code.length S) + 1 + ln (cmp b f.L.length (chn (f :: q)) (lpB f.lps) (f.code.length + ln (cmp a 0 (chn (f :: q)) 0 f.code.length S) + 1) (cmp a 0 (chn (f :: q)) 0 f.code.length S).2) + 1) (cmp b f.L.length (chn (f :: q)) (lpB f.lps) (f.code.length + ln (cmp a 0 (chn (f :: q)) 0 f.code.length S) + 1) (cmp a 0 (chn (f :: q)) 0 f.code.length S).2).2))] ++ (cmp d f.L.length (chn (f :: q)) (lpB f.lps) (f.code.length + ln (cmp a 0 (chn (f :: q)) 0 f.code.length S) + 1 + ln (cmp b f.L.length (chn (f :: q)) (lpB f.lps) (f.code.length + ln (cmp a 0 (chn (f :: q)) 0 f.code.length S) + 1) (cmp a 0 (chn (f :: q)) 0 f.code.length S).2) + 1) (cmp b f.L.length (chn (f :: q)) (lpB f.lps) (f.code.length + ln (cmp a 0 (chn (f :: q)) 0 f.code.length S) + 1) (cmp a 0 (chn (f :: q)) 0 f.code.length S).2).2).1 65535), addB (addB f.lps (hp (f.code.length + ln (cmp a 0 (chn (f :: q)) 0 f.code.length S) + 1) ((cmp b f.L.length (chn (f :: q)) (lpB f.lps) (f.code.length + ln (cmp a 0 (chn (f :: q)) 0 f.code.length S) + 1) (cmp a 0 (chn (f :: q)) 0 f.code.length S).2).1 65535))) (hp (f.code.length + ln (cmp a 0 (chn (f :: q)) 0 f.code.length S) + 1 + ln (cmp b f.L.length (chn (f :: q)) (lpB f.lps) (f.code.length + ln (cmp a 0 (chn (f :: q)) 0 f.code.length S) + 1) (cmp a 0 (chn (f :: q)) 0 f.code.length S).2) + 1) ((cmp d f.L.length (chn (f :: q)) (lpB f.lps) (f.code.length + ln (cmp a 0 (chn (f :: q)) 0 f.code.length S) + 1 + ln (cmp b f.L.length (chn (f :: q)) (lpB f.lps) (f.code.length + ln (cmp a 0 (chn (f :: q)) 0 f.code.length S) + 1) (cmp a 0 (chn (f :: q)) 0 f.code.length S).2) + 1) (cmp b f.L.length (chn (f :: q)) (lpB f.lps) (f.code.length + ln (cmp a 0 (chn (f :: q)) 0 f.code.length S) + 1) (cmp a 0 (chn (f :: q)) 0 f.code.length S).2).2).1 65535))⟩ :: q) w') := by
  have hF : Fram (tg ow cpT) w w := Fram.refl _ _
  have hX : Xt w ow ow := Xt.refl _ _
  subst hcs
  obtain ⟨gn, capn, ln_, env, hN, khN, hcapn, hrow⟩ := hR.nodes hx0.g0.1
  have hcl : 3 * f.code.length ≤ 31000 := hx0.clen
  have hL12 := hx0.L
  have hjl := hx0.jl
  have hjl9 := hjl
  refine ret_of Tryz.func191 rfl Tryz.ntmps191 rfl ?_
  refine c_seq (fun K1 hK1 => ?_)
  refine c_reg ?_ -- region 0 stmt.go:65
  refine wl_box rfl rfl (fun b3 w1 hbb3 h3 F1 => ?_)
  have hbsb3 := Nat.le_trans hF.size hbb3
  have hnegnb3 : gn < b3 := Nat.lt_of_lt_of_le hN.lt hbb3
  have kh3 := hR.df b3 hbb3
  replace hF := hF.thenDrew.thenN F1
  replace hR := hR.thruN ((Fram.refl none' _).thenDrew.thenN F1)
  replace hN := F1.blkN hN
  have h3 : Blk (w1).heap b3 (ndc (nd E.G n, pn)) 148 := h3
  unfold ndc at h3
  refine wl_nil (x_then (hK1 _ _ ?_))
  clear hK1 K1
  refine forget [(0, _), (3, _)] ⟨rfl, rfl, trivial⟩ (fun e => ?_)
  refine c_seq (fun K2 hK2 => ?_)
  refine c_reg ?_ -- region 1 stmt.go:66
  refine wl (ro_move rfl) ?_
  refine wl (ro_fieldAddr (k := 1) rfl fo_148_1) ?_
  refine wl (ro_loadB rfl sc_3 (by assumption) rfl) ?_
  refine wl_call rfl en_186 (ha E _ _ _ _ f q _ hR.dr hi1 hw1 hp1 (hx0.left.le (by omega))) ?_
  rintro _ u2 ⟨rfl, ow2, x2, f2, r2⟩
  obtain ⟨hN, khN⟩ := cp_loc x2 f2 hN khN
  obtain ⟨h3, kh3⟩ := cp_loc x2 f2 h3 kh3
  have hs2 := hF.size
  replace hF := cp_trans hX hF f2
  replace hX := hX.trans hs2 x2
  replace hR := r2
  have hx1 := hx0.eE hi1 hw1
  obtain ⟨S1, hS1⟩ : ∃ z9, z9 = (cmp a 0 (chn (f :: q)) 0 f.code.length S).2 := ⟨_, rfl⟩
  obtain ⟨c1, hc1⟩ : ∃ z9, z9 = f.code ++ (cmp a 0 (chn (f :: q)) 0 f.code.length S).1 65535 := ⟨_, rfl⟩
  have hl1 : c1.length = f.code.length + ln (cmp a 0 (chn (f :: q)) 0 f.code.length S) := by rw [hc1, List.length_append]; congr 1; exact hx0.ln
  replace hx1 : FX E (cmp a 0 (chn (f :: q)) 0 f.code.length S).2 { f with code := f.code ++ (cmp a 0 (chn (f :: q)) 0 f.code.length S).1 65535 } q _ _ := hx1
  have hR : CM E _ _ _ (cmp a 0 (chn (f :: q)) 0 f.code.length S).2 ({ f with code := f.code ++ (cmp a 0 (chn (f :: q)) 0 f.code.length S).1 65535 } :: q) := hR
  rw [← hS1, ← hc1] at hR hx1
  have hk1 : 3 * c1.length ≤ 31000 := hx1.clen
  refine wl_nil (x_then (hK2 _ _ ?_))
  clear hK2 K2
  refine forget [(0, _), (3, _)] ⟨rfl, rfl, trivial⟩ (fun e => ?_)
  refine c_seq (fun K3 hK3 => ?_)
  refine c_reg ?_ -- region 2 stmt.go:67
  refine wl (ro_move rfl) ?_
  refine wl_call rfl en_195 (jump195 (oc := 22) hR (by simp only; omega)) ?_
  rintro v9 u9 ⟨ow9, x9, f9, r9, ⟨p2a, p5a, rfl, hq2a, khq2a, hq5a, khq5a⟩⟩
  obtain ⟨hN, khN⟩ := cp_loc x9 f9 hN khN
  obtain ⟨h3, kh3⟩ := cp_loc x9 f9 h3 kh3
  have hs9 := hF.size
  replace hF := cp_trans hX hF f9
  replace hX := hX.trans hs9 x9
  replace hR := r9
  obtain ⟨c1m, hc1m⟩ : ∃ z9, z9 = c1 ++ [(22, 65535)] := ⟨_, rfl⟩
  have hlc1m : c1m.length = c1.length + 1 := by rw [hc1m, List.length_append]; rfl
  have hxc1m : FX E _ ⟨f.j, f.L, c1 ++ [(22, 65535)], f.lps⟩ q _ (100 * ndT b + (100 * ndT d + 50)) := FX.emit (B' := 100 * ndT b + (100 * ndT d + 50)) hx1 (by simp only [List.length_cons, List.length_nil]; omega)
  have hR : CM E _ _ _ _ (⟨f.j, f.L, c1 ++ [(22, 65535)], f.lps⟩ :: q) := hR
  rw [← hc1m] at hR hxc1m
  have hkc1m : 3 * c1m.length ≤ 31000 := hxc1m.clen
  refine wl (ro_assign rfl) ?_
  refine wl_nil (x_then (hK3 _ _ ?_))
  clear hK3 K3
  refine forget [(0, _), (3, _), (4, _)] ⟨rfl, rfl, rfl, trivial⟩ (fun e => ?_)
  refine c_seq (fun K4 hK4 => ?_)
  refine c_reg ?_ -- region 3 stmt.go:68
  refine wl (ro_move rfl) ?_
  refine wl (ro_fieldAddr (k := 2) rfl fo_148_2) ?_
  refine wl (ro_loadB rfl sc_3 (by assumption) rfl) ?_
  refine wl_call rfl en_79 (hb E _ _ _ _ ⟨f.j, f.L, c1m, f.lps⟩ q _ hR.dr hi2 hw2 hp2 hlp (hxc1m.left.le (by omega))) ?_
  rintro _ u3 ⟨rfl, ow3, x3, f3, r3⟩
  obtain ⟨hN, khN⟩ := cp_loc x3 f3 hN khN
  obtain ⟨h3, kh3⟩ := cp_loc x3 f3 h3 kh3
  obtain ⟨hq2a, khq2a⟩ := cp_loc x3 f3 hq2a khq2a
  obtain ⟨hq5a, khq5a⟩ := cp_loc x3 f3 hq5a khq5a
  have hs3 := hF.size
  replace hF := cp_trans hX hF f3
  replace hX := hX.trans hs3 x3
  replace hR := r3
  have hx2 := FX.bB (B := 100 * ndT d + 40) (hxc1m.le (by omega)) hi2 hw2
  obtain ⟨S2, hS2⟩ : ∃ z9, z9 = (cmp b f.L.length (chn (f :: q)) (lpB f.lps) c1m.length S1).2 := ⟨_, rfl⟩
  obtain ⟨c2, hc2⟩ : ∃ z9, z9 = c1m ++ (cmp b f.L.length (chn (f :: q)) (lpB f.lps) c1m.length S1).1 65535 := ⟨_, rfl⟩
  obtain ⟨l2, hp2⟩ : ∃ z9, z9 = addB f.lps (hp c1m.length ((cmp b f.L.length (chn (f :: q)) (lpB f.lps) c1m.length S1).1 65535)) := ⟨_, rfl⟩
  have hl2 : c2.length = c1m.length + ln (cmp b f.L.length (chn (f :: q)) (lpB f.lps) c1m.length S1) := by rw [hc2, List.length_append]; congr 1; exact hxc1m.ln
  replace hx2 : FX E (cmp b f.L.length (chn (f :: q)) (lpB f.lps) c1m.length S1).2 ⟨f.j, f.L, c1m ++ (cmp b f.L.length (chn (f :: q)) (lpB f.lps) c1m.length S1).1 65535, addB f.lps (hp c1m.length ((cmp b f.L.length (chn (f :: q)) (lpB f.lps) c1m.length S1).1 65535))⟩ q _ _ := hx2
  have hR : CM E _ _ _ (cmp b f.L.length (chn (f :: q)) (lpB f.lps) c1m.length S1).2 (⟨f.j, f.L, c1m ++ (cmp b f.L.length (chn (f :: q)) (lpB f.lps) c1m.length S1).1 65535, addB f.lps (hp c1m.length ((cmp b f.L.length (chn (f :: q)) (lpB f.lps) c1m.length S1).1 65535))⟩ :: q) := hR
  rw [← hp2, ← hc2, ← hS2] at hR hx2
  have hk2 : 3 * c2.length ≤ 31000 := hx2.clen
  refine wl_nil (x_then (hK4 _ _ ?_))
  clear hK4 K4
  refine forget [(0, _), (3, _), (4, _)] ⟨rfl, rfl, rfl, trivial⟩ (fun e => ?_)
  refine c_seq (fun K5 hK5 => ?_)
  refine c_reg ?_ -- region 4 stmt.go:69
  refine wl (ro_move rfl) ?_
  refine wl_call rfl en_195 (jump195 (oc := 21) hR (by simp only; omega)) ?_
  rintro v8 u8 ⟨ow8, x8, f8, r8, ⟨p2b, p5b, rfl, hq2b, khq2b, hq5b, khq5b⟩⟩
  obtain ⟨hN, khN⟩ := cp_loc x8 f8 hN khN
  obtain ⟨h3, kh3⟩ := cp_loc x8 f8 h3 kh3
  obtain ⟨hq2a, khq2a⟩ := cp_loc x8 f8 hq2a khq2a
  obtain ⟨hq5a, khq5a⟩ := cp_loc x8 f8 hq5a khq5a
  have hs8 := hF.size
  replace hF := cp_trans hX hF f8
  replace hX := hX.trans hs8 x8
  replace hR := r8
  obtain ⟨c2m, hc2m⟩ : ∃ z9, z9 = c2 ++ [(21, 65535)] := ⟨_, rfl⟩
  have hlc2m : c2m.length = c2.length + 1 := by rw [hc2m, List.length_append]; rfl
  have hxc2m : FX E _ ⟨f.j, f.L, c2 ++ [(21, 65535)], l2⟩ q _ (100 * ndT d + 30) := FX.emit (B' := 100 * ndT d + 30) hx2 (by simp only [List.length_cons, List.length_nil]; omega)
  have hR : CM E _ _ _ _ (⟨f.j, f.L, c2 ++ [(21, 65535)], l2⟩ :: q) := hR
  rw [← hc2m] at hR hxc2m
  have hkc2m : 3 * c2m.length ≤ 31000 := hxc2m.clen
  refine wl (ro_assign rfl) ?_
  refine wl_nil (x_then (hK5 _ _ ?_))
  clear hK5 K5
  refine forget [(0, _), (3, _), (4, _), (5, _)] ⟨rfl, rfl, rfl, rfl, trivial⟩ (fun e => ?_)
  refine c_seq (fun K6 hK6 => ?_)
  refine c_reg ?_ -- region 5 stmt.go:70
  refine wl (ro_move rfl) ?_
  refine wl_callV rfl rfl (patch237 (p := c1.length) hR ⟨p2a, p5a, rfl, hq2a, khq2a, hq5a, khq5a⟩ (by show c1.length < c2m.length; omega) (by show c2m.length ≤ _; omega)) ?_
  rintro _ u7 ⟨rfl, ow7, x7, f7, r7⟩
  obtain ⟨hN, khN⟩ := cp_loc x7 f7 hN khN
  obtain ⟨h3, kh3⟩ := cp_loc x7 f7 h3 kh3
  obtain ⟨hq2a, khq2a⟩ := cp_loc x7 f7 hq2a khq2a
  obtain ⟨hq5a, khq5a⟩ := cp_loc x7 f7 hq5a khq5a
  obtain ⟨hq2b, khq2b⟩ := cp_loc x7 f7 hq2b khq2b
  obtain ⟨hq5b, khq5b⟩ := cp_loc x7 f7 hq5b khq5b
  have hs7 := hF.size
  replace hF := cp_trans hX hF f7
  replace hX := hX.trans hs7 x7
  replace hR := r7
  obtain ⟨c3, hc3⟩ : ∃ z9, z9 = setX c2m c1.length c2m.length := ⟨_, rfl⟩
  have hlc3 : c3.length = c2m.length := by rw [hc3, setX_len]
  have hxc3 : FX E _ ⟨f.j, f.L, c3, l2⟩ q _ _ := FX.setc (c := c3) hxc2m hlc3
  have hR : CM E _ _ _ _ (⟨f.j, f.L, setX c2m c1.length c2m.length, l2⟩ :: q) := hR
  rw [← hc3] at hR
  have hkc3 : 3 * c3.length ≤ 31000 := hxc3.clen
  have hlp2 : lp = true → l2 ≠ [] := fun h e ↦ hlp h (by have := addB_len f.lps (hp c1m.length ((cmp b f.L.length (chn (f :: q)) (lpB f.lps) c1m.length S1).1 65535)); rw [← hp2, e] at this; exact List.length_eq_zero_iff.1 this.symm)
  have hlB2 : lpB l2 = lpB f.lps := by rw [hp2, addB_B]
  refine wl_nil (x_then (hK6 _ _ ?_))
  clear hK6 K6
  refine forget [(0, _), (3, _), (5, _)] ⟨rfl, rfl, rfl, trivial⟩ (fun e => ?_)
  refine c_seq (fun K7 hK7 => ?_)
  refine c_reg ?_ -- region 6 stmt.go:71
  refine wl (ro_move rfl) ?_
  refine wl (ro_fieldAddr (k := 3) rfl fo_148_3) ?_
  refine wl (ro_loadB rfl sc_3 (by assumption) rfl) ?_
  refine wl_call rfl en_79 (hd E _ _ _ _ ⟨f.j, f.L, c3, l2⟩ q _ hR.dr hi3 hw3 hp3 hlp2 (hxc3.left.le (by omega))) ?_
  rintro _ u4 ⟨rfl, ow4, x4, f4, r4⟩
  obtain ⟨hN, khN⟩ := cp_loc x4 f4 hN khN
  obtain ⟨h3, kh3⟩ := cp_loc x4 f4 h3 kh3
  obtain ⟨hq2a, khq2a⟩ := cp_loc x4 f4 hq2a khq2a
  obtain ⟨hq5a, khq5a⟩ := cp_loc x4 f4 hq5a khq5a
  obtain ⟨hq2b, khq2b⟩ := cp_loc x4 f4 hq2b khq2b
  obtain ⟨hq5b, khq5b⟩ := cp_loc x4 f4 hq5b khq5b
  have hs4 := hF.size
  replace hF := cp_trans hX hF f4
  replace hX := hX.trans hs4 x4
  replace hR := r4
  have hx4 := FX.bB (B := 10) (hxc3.le (by omega)) hi3 hw3
  simp only [hlB2] at hR hx4
  obtain ⟨S4, hS4⟩ : ∃ z9, z9 = (cmp d f.L.length (chn (f :: q)) (lpB f.lps) c3.length S2).2 := ⟨_, rfl⟩
  obtain ⟨c4, hc4⟩ : ∃ z9, z9 = c3 ++ (cmp d f.L.length (chn (f :: q)) (lpB f.lps) c3.length S2).1 65535 := ⟨_, rfl⟩
  obtain ⟨l4, hp4⟩ : ∃ z9, z9 = addB l2 (hp c3.length ((cmp d f.L.length (chn (f :: q)) (lpB f.lps) c3.length S2).1 65535)) := ⟨_, rfl⟩
  have hl4 : c4.length = c3.length + ln (cmp d f.L.length (chn (f :: q)) (lpB f.lps) c3.length S2) := by rw [hc4, List.length_append]; congr 1; exact hxc3.ln
  replace hx4 : FX E (cmp d f.L.length (chn (f :: q)) (lpB f.lps) c3.length S2).2 ⟨f.j, f.L, c3 ++ (cmp d f.L.length (chn (f :: q)) (lpB f.lps) c3.length S2).1 65535, addB l2 (hp c3.length ((cmp d f.L.length (chn (f :: q)) (lpB f.lps) c3.length S2).1 65535))⟩ q _ _ := hx4
  have hR : CM E _ _ _ (cmp d f.L.length (chn (f :: q)) (lpB f.lps) c3.length S2).2 (⟨f.j, f.L, c3 ++ (cmp d f.L.length (chn (f :: q)) (lpB f.lps) c3.length S2).1 65535, addB l2 (hp c3.length ((cmp d f.L.length (chn (f :: q)) (lpB f.lps) c3.length S2).1 65535))⟩ :: q) := hR
  rw [← hp4, ← hc4, ← hS4] at hR hx4
  have hk4 : 3 * c4.length ≤ 31000 := hx4.clen
  refine wl_nil (x_then (hK7 _ _ ?_))
  clear hK7 K7
  refine c_reg ?_ -- region 7 stmt.go:72
  refine wl (ro_move rfl) ?_
  refine wl_callV rfl rfl (patch237 (p := c2.length) hR ⟨p2b, p5b, rfl, hq2b, khq2b, hq5b, khq5b⟩ (by show c2.length < c4.length; omega) (by show c4.length ≤ _; omega)) ?_
  rintro _ u6 ⟨rfl, ow6, x6, f6, r6⟩
  obtain ⟨hN, khN⟩ := cp_loc x6 f6 hN khN
  obtain ⟨h3, kh3⟩ := cp_loc x6 f6 h3 kh3
  obtain ⟨hq2a, khq2a⟩ := cp_loc x6 f6 hq2a khq2a
  obtain ⟨hq5a, khq5a⟩ := cp_loc x6 f6 hq5a khq5a
  obtain ⟨hq2b, khq2b⟩ := cp_loc x6 f6 hq2b khq2b
  obtain ⟨hq5b, khq5b⟩ := cp_loc x6 f6 hq5b khq5b
  have hs6 := hF.size
  replace hF := cp_trans hX hF f6
  replace hX := hX.trans hs6 x6
  replace hR := r6
  refine wl_nil ?_
  refine bp_end Tryz.results191 rfl ?_
  refine ⟨rfl, _, hX, hF, ?_⟩
  rw [List.append_assoc, List.append_assoc] at hR
  have hR : CM E _ _ (O ++ (numsT a ++ (numsT b ++ numsT d))) S4 (⟨f.j, f.L, setX c4 c2.length c4.length, l4⟩ :: q) := hR
  rw [← hl1, ← hlc1m, ← hS1, ← hS2, ← hl2, ← hlc2m, ← hlc3, ← hS4, ← hl4, ← hp2, ← hp4]
  rw [show f.code ++ ((cmp a 0 (chn (f :: q)) 0 f.code.length S).1 65535 ++ [(22, c3.length)] ++ (cmp b f.L.length (chn (f :: q)) (lpB f.lps) c1m.length S1).1 65535 ++ [(21, c4.length)] ++ (cmp d f.L.length (chn (f :: q)) (lpB f.lps) c3.length S2).1 65535) = setX c4 c2.length c4.length by
    rw [iff_code hc1m hc2 hc2m hc3 hc4, ← hlc3, hc1]
    simp only [List.append_assoc]]
  exact hR
end
end Go.Proofs.Qxb6500568aGreatDoor
