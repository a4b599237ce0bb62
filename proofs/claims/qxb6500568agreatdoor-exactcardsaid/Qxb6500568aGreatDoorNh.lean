import Derived.Test.Qxb6500568aGreatDoorNg
namespace Go.Proofs.Qxb6500568aGreatDoor
open Ieee
set_option linter.unusedVariables false
set_option linter.unusedSimpArgs false
set_option linter.unusedSectionVars false

/-! The code of statements is what it should be. -/

section
variable {F S : Fns} {j : Nat} {L : List Str} {r : Chn} {x a base : Nat} {lp : Bool}

theorem Cov.nil {T : Fns} {N : List Nat} (h : Cov F T j r N) : Cov F T j r [] := ⟨h.len, h.ch, fun k hk => by cases hk⟩
theorem Cov.ns {T : Fns} {N : List Nat} {n : Nat} (h : Cov F T j r N) (hn : n ≤ (fsAt T j).ns) : n ≤ (pr (Psf F) j).ns := by
  rw [pr_psf]; exact Nat.le_trans hn (h.ch j List.mem_cons_self).ns
theorem Fit.notin {N : List Nat} (hf : Fit S j r N) : j ∉ N := fun q => (List.nodup_append.1 hf.nd).2.2 j List.mem_cons_self j q rfl
theorem Mo.ns {T : Fns} {N : List Nat} {n : Nat} (m : Mo j r N S T) (hf : Fit S j r N) (hn : n ≤ (fsAt S j).ns) : n ≤ (fsAt T j).ns := Nat.le_trans hn (m.ext j hf.notin).ns

theorem triple {ta tb tc : Tr} {md1 md2 md3 base1 base2 base3 a2 a3 : Nat} {L1 L2 L3 : List Str} {S1 S2 : Fns} (hc : ChOK S j r) (hf : Fit S j r (numsT ta ++ (numsT tb ++ numsT tc)))
    (d1 : ChOK (cmp ta md1 ((j, L1) :: r) base1 a S).2 j r → j < (cmp ta md1 ((j, L1) :: r) base1 a S).2.length → Mo j r [] (cmp ta md1 ((j, L1) :: r) base1 a S).2 S1)
    (d2 : ChOK (cmp tb md2 ((j, L2) :: r) base2 a2 S1).2 j r → j < (cmp tb md2 ((j, L2) :: r) base2 a2 S1).2.length → Mo j r [] (cmp tb md2 ((j, L2) :: r) base2 a2 S1).2 S2)
    (hcov : Cov F (cmp tc md3 ((j, L3) :: r) base3 a3 S2).2 j r (numsT ta ++ (numsT tb ++ numsT tc))) :
    ((∀ x, ((cmp ta md1 ((j, L1) :: r) base1 a S).1 x).length = ln (cmp ta md1 ((j, L1) :: r) base1 a S)) ∧ (∀ x, ((cmp tb md2 ((j, L2) :: r) base2 a2 S1).1 x).length = ln (cmp tb md2 ((j, L2) :: r) base2 a2 S1)) ∧
     (∀ x, ((cmp tc md3 ((j, L3) :: r) base3 a3 S2).1 x).length = ln (cmp tc md3 ((j, L3) :: r) base3 a3 S2))) ∧
    ((∀ x, At F j a ((cmp ta md1 ((j, L1) :: r) base1 a S).1 x) → Ok F S j r (numsT ta) (cmp ta md1 ((j, L1) :: r) base1 a S) x a) ∧ (∀ x, At F j a2 ((cmp tb md2 ((j, L2) :: r) base2 a2 S1).1 x) → Ok F S1 j r (numsT tb) (cmp tb md2 ((j, L2) :: r) base2 a2 S1) x a2) ∧
     (∀ x, At F j a3 ((cmp tc md3 ((j, L3) :: r) base3 a3 S2).1 x) → Ok F S2 j r (numsT tc) (cmp tc md3 ((j, L3) :: r) base3 a3 S2) x a3)) ∧
    Mo j r (numsT ta) S S1 ∧ Mo j r (numsT ta ++ numsT tb) S S2 ∧ Mo j r (numsT ta ++ (numsT tb ++ numsT tc)) S (cmp tc md3 ((j, L3) :: r) base3 a3 S2).2 ∧ Mo j r (numsT tc) S2 (cmp tc md3 ((j, L3) :: r) base3 a3 S2).2 ∧ Fit S2 j r (numsT tc) := by
  have m1 := mo_all ta md1 j L1 r base1 a S hc hf.left
  have e1 := d1 m1.mo.ch (by rw [m1.mo.len]; exact hf.ltj)
  have m1' := m1.mo.tr0 e1
  have hf2 := hf.right.mo m1'
  have m2 := mo_all tb md2 j L2 r base2 a2 S1 e1.ch hf2.left
  have e2 := d2 m2.mo.ch (by rw [m2.mo.len]; exact hf2.ltj)
  have m2' := m2.mo.tr0 e2
  have m3 := mo_all tc md3 j L3 r base3 a3 S2 e2.ch (hf2.right.mo m2')
  obtain ⟨c1, c2, f2⟩ := hcov.split hf m1' (m2'.trans m3.mo)
  obtain ⟨p1, p2, p3, p4, p5, p6⟩ := pair (md1 := md2) (L1 := L2) (base1 := base2) (md2 := md3) (L2 := L3) (base2 := base3) e1.ch f2 d2 (fun m _ => Mo.refl m) c2
  exact ⟨⟨m1.ln, p1, p2⟩, ⟨fun x h => ⟨hc, hf.left, c1.tr0 (hf.left.mo m1.mo) e1, h⟩, p3, p4⟩, m1', m1'.trans p5, m1'.trans (p5.trans m3.mo), m3.mo, hf2.right.mo m2'⟩

theorem cor_loc {s : Str} (hs : NmW s) : CorS (St.loc s) lp := fun {j L r base x a S F lc} h hn hl => by
  have hat : At F j a [(2, 0), (6, L.length)] := h.at'
  exact ⟨CS_loc.2 ⟨hs.1, hat.hd, hat.tl.hd, rfl⟩, by rw [aftS_loc, List.length_append]; exact declF_ns h.fit.ltj⟩
theorem cor_locV {s : Str} {v : Tr} (hv : CorE v) (hs : NmW s) (hd : dE v ≤ 128) : CorS (St.locV s v) lp := fun {j L r base x a S F lc} h hn hl => by
  have m := mo_all v 0 j L r 0 a S h.ch h.fit
  have hlt : j < (cmp v 0 ((j, L) :: r) 0 a S).2.length := by rw [m.mo.len]; exact h.fit.ltj
  obtain ⟨t1, t2⟩ := at1 m.ln (show At F j a (_ ++ [(6, L.length)]) from h.at')
  have hcov : Cov F (declF j (L.length + 1) (cmp v 0 ((j, L) :: r) 0 a S).2) j r (numsT v) := h.cov
  refine ⟨CS_locV.2 ⟨hs.1, hd, _, hv ⟨h.ch, h.fit, hcov.tr0 (Fit.mo h.fit m.mo) (declF_mo hlt m.mo.ch), t1⟩, t2.hd, by simp [cmp, St.locV, cK1, ln, Nat.add_assoc]⟩, ?_⟩
  rw [aftS_locV, List.length_append]; exact declF_ns hlt
theorem cor_loc2 {s t : Str} {ta tb : Tr} (ha : CorE ta) (hb : CorA tb) (hs : NmW s) (ht : NmW t) (hW : CallW ta tb) : CorS (St.loc2 s t ta tb) lp := fun {j L r base x a S F lc} h hn hl => by
  obtain ⟨l1, l2, o1, o2, m1, m2⟩ := pair (ta := ta) (tb := tb) (md1 := 0) (md2 := 0) (base1 := 0) (base2 := 0) (L1 := L) (L2 := L) (a := a) (a2 := a + ln (cmp ta 0 ((j, L) :: r) 0 a S)) (S1 := (cmp ta 0 ((j, L) :: r) 0 a S).2) h.ch h.fit (fun m _ => Mo.refl m) (fun m hl => declF_mo (n := L.length + 2) hl m) (show Cov F (declF j (L.length + 2) _) j r _ from h.cov)
  obtain ⟨t1, t2, t3⟩ := at2 l1 l2 (show At F j a (_ ++ _ ++ [(26, lenE tb), (6, L.length + 1), (6, L.length)]) from h.at')
  refine ⟨CS_loc2.2 ⟨hs.1, ht.1, hW.1, _, _, ha (o1 x t1), hb (o2 x t2), t3.hd, hW.2, t3.tl.hd, t3.tl.tl.hd, by simp [cmp, St.loc2, cK2, ln, Nat.add_assoc]⟩, ?_⟩
  rw [aftS_loc2, List.length_append]
  have hlt : j < (declF j (L.length + 2) (cmp tb 0 ((j, L) :: r) 0 (a + ln (cmp ta 0 ((j, L) :: r) 0 a S)) (cmp ta 0 ((j, L) :: r) 0 a S).2).2).length := by rw [m2.len, m1.len]; exact h.fit.ltj
  have hlt' : j < (cmp tb 0 ((j, L) :: r) 0 (a + ln (cmp ta 0 ((j, L) :: r) 0 a S)) (cmp ta 0 ((j, L) :: r) 0 a S).2).2.length := by simpa [declF] using hlt
  exact declF_ns (j := j) hlt'
theorem cor_locFn {s : Str} {n : Nat} {ps : List Str} {b : Tr} (hb : CorB b false) (hs : NmW s) (hW : FnW n ps) : CorS (St.locFn s n ps b) lp := fun {j L r base x a S F lc} h hn hl => by
  have hat : At F j a [(28, n), (6, L.length)] := h.at'
  have hf : Fit S j r (n :: numsT b) := h.fit
  have m := declF_mo (n := L.length + 1) h.fit.ltj h.ch
  have mf := fnF_mo (L := L ++ [s]) (ps := ps) (k := fun md ch b' a S => cmp b md ch b' a S) (N := numsT b) (fun S1 h1 h2 => (mo_all b _ _ _ _ _ _ _ h1 h2).mo) m.ch (hf.mo m)
  refine ⟨CS_locFn.2 ⟨hs.1, hat.hd, fnF_cf (L := L ++ [s]) hb hW m.ch (hf.mo m) h.cov, hat.tl.hd, rfl⟩, ?_⟩
  rw [aftS_locFn, List.length_append]
  exact mf.ns (hf.mo m) (declF_ns h.fit.ltj)
theorem cor_setN {s : Str} {v : Tr} (hv : CorE v) (hd : dE v ≤ 128) : CorS (St.setN s v) lp := fun {j L r base x a S F lc} h hn hl => by
  have m := mo_all v 0 j L r 0 a S h.ch h.fit
  have hlt : j < (cmp v 0 ((j, L) :: r) 0 a S).2.length := by rw [m.mo.len]; exact h.fit.ltj
  have hfv := Fit.mo h.fit m.mo
  obtain ⟨v1, v2⟩ := varF_ok (L := L) (nm := s) (l := 6) (u := 8) (g := 10) m.mo.ch hfv.nil
  obtain ⟨t1, t2⟩ := at1 m.ln (show At F j a (_ ++ [(varF 6 8 10 ((j, L) :: r) s (cmp v 0 ((j, L) :: r) 0 a S).2).1]) from h.at')
  have hcov : Cov F (varF 6 8 10 ((j, L) :: r) s (cmp v 0 ((j, L) :: r) 0 a S).2).2 j r (numsT v) := h.cov
  refine ⟨CS_setN.2 ⟨hd, _, hv ⟨h.ch, h.fit, hcov.tr0 hfv v1, t1⟩, Ok.cv hcov.nil v2 t2.hd, by simp [cmp, St.setN, cK1, ln, Nat.add_assoc]⟩, ?_⟩
  exact (m.mo.tr0 v1).ns h.fit hn
theorem cor_scall {ta tb : Tr} (ha : CorE ta) (hb : CorA tb) (hW : CallW ta tb) : CorS (St.call ta tb) lp := fun {j L r base x a S F lc} h hn hl => by
  obtain ⟨l1, l2, o1, o2, m1, m2⟩ := h.two (ta := ta) (tb := tb) (L1 := L) (L2 := L) rfl rfl
  obtain ⟨t1, t2, t3⟩ := at2 l1 l2 (show At F j a (_ ++ _ ++ [(26, lenE tb), (25, 0), (25, 0)]) from h.at')
  exact ⟨CS_call.2 ⟨hW.1, _, _, ha (o1 x t1), hb (o2 x t2), t3.hd, hW.2, t3.tl.hd, t3.tl.tl.hd, by simp [cmp, St.call, cK2, ln, Nat.add_assoc]⟩, (m1.trans m2).ns h.fit hn⟩
theorem cor_ret0 : CorS St.ret0 lp := fun {j L r base x a S F lc} h hn hl => by
  have hat : At F j a [(2, 0), (2, 0), (27, 0)] := h.at'
  exact ⟨CS_ret0.2 ⟨hat.hd, hat.tl.hd, hat.tl.tl.hd, rfl⟩, hn⟩
theorem cor_ret1 {v : Tr} (hv : CorE v) (hd : dE v ≤ 127) : CorS (St.ret1 v) lp := fun {j L r base x a S F lc} h hn hl => by
  have m := mo_all v 0 j L r 0 a S h.ch h.fit
  obtain ⟨t1, t2⟩ := at1 m.ln (show At F j a (_ ++ [(2, 0), (27, 0)]) from h.at')
  exact ⟨CS_ret1.2 ⟨hd, _, hv ⟨h.ch, h.fit, h.cov, t1⟩, t2.hd, t2.tl.hd, by simp [cmp, St.ret1, cK1, ln, Nat.add_assoc]⟩, m.mo.ns h.fit hn⟩
theorem cor_ret2 {ta tb : Tr} (ha : CorE ta) (hb : CorE tb) (h1 : dE ta ≤ 128) (h2 : 1 + dE tb ≤ 128) : CorS (St.ret2 ta tb) lp := fun {j L r base x a S F lc} h hn hl => by
  obtain ⟨l1, l2, o1, o2, m1, m2⟩ := h.two (ta := ta) (tb := tb) (L1 := L) (L2 := L) rfl rfl
  obtain ⟨t1, t2, t3⟩ := at2 l1 l2 (show At F j a (_ ++ _ ++ [(27, 0)]) from h.at')
  exact ⟨CS_ret2.2 ⟨h1, h2, _, _, ha (o1 x t1), hb (o2 x t2), t3.hd, by simp [cmp, St.ret2, cK2, ln, Nat.add_assoc]⟩, (m1.trans m2).ns h.fit hn⟩
theorem cor_brk : CorS St.brk true := fun {j L r base x a S F lc} h hn hl => by
  obtain ⟨r', rfl, hx⟩ := hl rfl
  have e0 : cmp St.brk 0 ((j, L) :: r) base a S = (fun x => (if base < L.length then [(29, base), (21, x)] else [(21, x)]), S) := rfl
  rw [e0] at h hx ⊢
  have hat : At F j a (if base < L.length then [(29, base), (21, x)] else [(21, x)]) := h.at'
  refine ⟨CS_brk.2 ⟨base, x, r', rfl, ?_⟩, hn⟩
  by_cases hb : base < L.length
  · rw [if_pos hb] at hat ⊢
    simp only [ln, if_pos hb, List.length_cons, List.length_nil] at hx ⊢
    exact ⟨hat.hd, hat.tl.hd, by omega, trivial⟩
  · rw [if_neg hb] at hat ⊢
    simp only [ln, if_neg hb, List.length_cons, List.length_nil] at hx ⊢
    exact ⟨hat.hd, by omega, trivial⟩
theorem cor_whl {ta tb : Tr} (ha : CorE ta) (hb : CorB tb true) (hd : dE ta ≤ 128) : CorS (St.whl ta tb) lp := fun {j L r base x a S F lc} h hn hl => by
  obtain ⟨l1, l2, o1, o2, m1, m2⟩ := h.two (ta := ta) (tb := tb) (L1 := L) (L2 := L) (md1 := 0) (md2 := L.length) (base1 := 0) (base2 := L.length) (a2 := a + ln (cmp ta 0 ((j, L) :: r) 0 a S) + 1) rfl rfl
  obtain ⟨t1, t2, t3, t4⟩ := at3 l1 l2 (show At F j a (_ ++ [(22, a + ln (cmp ta 0 ((j, L) :: r) 0 a S) + 1 + ln (cmp tb L.length ((j, L) :: r) L.length (a + ln (cmp ta 0 ((j, L) :: r) 0 a S) + 1) (cmp ta 0 ((j, L) :: r) 0 a S).2) + 1)] ++ _ ++ [(21, a)]) from h.at')
  have e : a + ln (cmp (St.whl ta tb) 0 ((j, L) :: r) base a S) = a + ln (cmp ta 0 ((j, L) :: r) 0 a S) + 1 + ln (cmp tb L.length ((j, L) :: r) L.length (a + ln (cmp ta 0 ((j, L) :: r) 0 a S) + 1) (cmp ta 0 ((j, L) :: r) 0 a S).2) + 1 := by
    have := l2 (a + ln (cmp ta 0 ((j, L) :: r) 0 a S) + 1 + ln (cmp tb L.length ((j, L) :: r) L.length (a + ln (cmp ta 0 ((j, L) :: r) 0 a S) + 1) (cmp ta 0 ((j, L) :: r) 0 a S).2) + 1)
    show a + List.length ((cmp ta 0 ((j, L) :: r) 0 a S).1 0 ++ [_] ++ (cmp tb L.length ((j, L) :: r) L.length (a + ln (cmp ta 0 ((j, L) :: r) 0 a S) + 1) (cmp ta 0 ((j, L) :: r) 0 a S).2).1 (a + ln (cmp ta 0 ((j, L) :: r) 0 a S) + 1 + ln (cmp tb L.length ((j, L) :: r) L.length (a + ln (cmp ta 0 ((j, L) :: r) 0 a S) + 1) (cmp ta 0 ((j, L) :: r) 0 a S).2) + 1) ++ [_]) = _
    simp only [List.length_append, List.length_cons, List.length_nil]
    rw [this, l1 0]
    omega
  rw [e]
  refine ⟨CS_whl.2 ⟨hd, _, _, ha (o1 x t1), t2.hd, by omega, hb (lc := (L.length, a + ln (cmp ta 0 ((j, L) :: r) 0 a S) + 1 + ln (cmp tb L.length ((j, L) :: r) L.length (a + ln (cmp ta 0 ((j, L) :: r) 0 a S) + 1) (cmp ta 0 ((j, L) :: r) 0 a S).2) + 1) :: lc) (o2 _ t3) (m1.ns h.fit.left hn) (fun _ => ⟨lc, rfl, Nat.le_succ _⟩), t4.hd, by omega, rfl⟩, (m1.trans m2).ns h.fit hn⟩
end

end Go.Proofs.Qxb6500568aGreatDoor
