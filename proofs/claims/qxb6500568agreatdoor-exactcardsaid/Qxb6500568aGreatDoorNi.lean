import Derived.Test.Qxb6500568aGreatDoorNh
namespace Go.Proofs.Qxb6500568aGreatDoor
open Ieee
set_option linter.unusedVariables false
set_option linter.unusedSimpArgs false
set_option linter.unusedSectionVars false

/-! The rest of the statements; blocks; the whole program. -/

section
variable {F S : Fns} {j : Nat} {L : List Str} {r : Chn} {x a base : Nat} {lp : Bool}

theorem cor_setI {ta tb tc : Tr} (ha : CorE ta) (hb : CorE tb) (hc : CorE tc) (h1 : dE ta ≤ 128) (h2 : 1 + dE tb ≤ 128) (h3 : 2 + dE tc ≤ 128) : CorS (St.setI ta tb tc) lp := fun {j L r base x a S F lc} h hn hl => by
  obtain ⟨⟨l1, l2, l3⟩, ⟨o1, o2, o3⟩, m1, m2, m3, m4, f3⟩ := triple (ta := ta) (tb := tb) (tc := tc) (md1 := 0) (md2 := 0) (md3 := 0) (base1 := 0) (base2 := 0) (base3 := 0) (L1 := L) (L2 := L) (L3 := L) (a := a) (a2 := a + ln (cmp ta 0 ((j, L) :: r) 0 a S)) (a3 := a + ln (cmp ta 0 ((j, L) :: r) 0 a S) + ln (cmp tb 0 ((j, L) :: r) 0 (a + ln (cmp ta 0 ((j, L) :: r) 0 a S)) (cmp ta 0 ((j, L) :: r) 0 a S).2)) (S1 := (cmp ta 0 ((j, L) :: r) 0 a S).2) (S2 := (cmp tb 0 ((j, L) :: r) 0 (a + ln (cmp ta 0 ((j, L) :: r) 0 a S)) (cmp ta 0 ((j, L) :: r) 0 a S).2).2) h.ch h.fit (fun m _ => Mo.refl m) (fun m _ => Mo.refl m) h.cov
  have hat : At F j a ((cmp ta 0 ((j, L) :: r) 0 a S).1 x ++ (cmp tb 0 ((j, L) :: r) 0 (a + ln (cmp ta 0 ((j, L) :: r) 0 a S)) (cmp ta 0 ((j, L) :: r) 0 a S).2).1 x ++ ((cmp tc 0 ((j, L) :: r) 0 (a + ln (cmp ta 0 ((j, L) :: r) 0 a S) + ln (cmp tb 0 ((j, L) :: r) 0 (a + ln (cmp ta 0 ((j, L) :: r) 0 a S)) (cmp ta 0 ((j, L) :: r) 0 a S).2)) (cmp tb 0 ((j, L) :: r) 0 (a + ln (cmp ta 0 ((j, L) :: r) 0 a S)) (cmp ta 0 ((j, L) :: r) 0 a S).2).2).1 x ++ [(12, 0)])) := by rw [← List.append_assoc]; exact h.at'
  obtain ⟨t1, t2, t3⟩ := at2 l1 l2 hat
  obtain ⟨t3, t4⟩ := at1 l3 t3
  exact ⟨CS_setI.2 ⟨h1, h2, h3, _, _, _, ha (o1 x t1), hb (o2 x t2), hc (o3 x t3), t4.hd, by simp [cmp, St.setI, cK3, ln, Nat.add_assoc]⟩, m3.ns h.fit hn⟩
theorem cor_iff {ta tb tc : Tr} (ha : CorE ta) (hb : CorB tb lp) (hc : CorB tc lp) (h1 : dE ta ≤ 128) : CorS (St.iff ta tb tc) lp := fun {j L r base x a S F lc} h hn hl => by
  obtain ⟨⟨l1, l2, l3⟩, ⟨o1, o2, o3⟩, m1, m2, m3, m4, f3⟩ := triple (ta := ta) (tb := tb) (tc := tc) (md1 := 0) (md2 := L.length) (md3 := L.length) (base1 := 0) (base2 := base) (base3 := base) (L1 := L) (L2 := L) (L3 := L) (a := a) (a2 := a + ln (cmp ta 0 ((j, L) :: r) 0 a S) + 1) (a3 := a + ln (cmp ta 0 ((j, L) :: r) 0 a S) + 1 + ln (cmp tb L.length ((j, L) :: r) base (a + ln (cmp ta 0 ((j, L) :: r) 0 a S) + 1) (cmp ta 0 ((j, L) :: r) 0 a S).2) + 1) (S1 := (cmp ta 0 ((j, L) :: r) 0 a S).2) (S2 := (cmp tb L.length ((j, L) :: r) base (a + ln (cmp ta 0 ((j, L) :: r) 0 a S) + 1) (cmp ta 0 ((j, L) :: r) 0 a S).2).2) h.ch h.fit (fun m _ => Mo.refl m) (fun m _ => Mo.refl m) h.cov
  have ha' := fun x => @ha j L r 0 x a S F
  generalize hqa : cmp ta 0 ((j, L) :: r) 0 a S = qa at *
  generalize hqb : cmp tb L.length ((j, L) :: r) base (a + ln qa + 1) qa.2 = qb at *
  generalize hqc : cmp tc L.length ((j, L) :: r) base (a + ln qa + 1 + ln qb + 1) qb.2 = qc at *
  have e0 : cmp (St.iff ta tb tc) 0 ((j, L) :: r) base a S = (fun x => qa.1 x ++ [(22, a + ln qa + 1 + ln qb + 1)] ++ qb.1 x ++ [(21, a + ln qa + 1 + ln qb + 1 + ln qc)] ++ qc.1 x, qc.2) := by
    subst hqa; subst hqb; subst hqc; rfl
  rw [e0] at h hl ⊢
  have hat : At F j a (qa.1 x ++ [(22, a + ln qa + 1 + ln qb + 1)] ++ qb.1 x ++ ([(21, a + ln qa + 1 + ln qb + 1 + ln qc)] ++ qc.1 x)) := by rw [← List.append_assoc]; exact h.at'
  obtain ⟨t1, t2, t3, t4⟩ := at3 l1 l2 hat
  have e : a + ln (fun x => qa.1 x ++ [(22, a + ln qa + 1 + ln qb + 1)] ++ qb.1 x ++ [(21, a + ln qa + 1 + ln qb + 1 + ln qc)] ++ qc.1 x, qc.2) = a + ln qa + 1 + ln qb + 1 + ln qc := by simp [ln, Nat.add_assoc]; omega
  rw [e] at hl ⊢
  refine ⟨CS_iff.2 ⟨h1, a + ln qa, a + ln qa + 1 + ln qb, ha' x (o1 x t1), t2.hd, by omega, ?_, t4.hd, by omega, ?_⟩, m3.ns h.fit hn⟩
  · have := @hb j L L r base x (a + ln qa + 1) qa.2 F lc
    rw [hqb] at this
    exact this (o2 x t3) (m1.ns h.fit.left hn) (fun q => by obtain ⟨r', g1, g2⟩ := hl q; exact ⟨r', g1, by omega⟩)
  · have := @hc j L L r base x (a + ln qa + 1 + ln qb + 1) qb.2 F lc
    rw [hqc] at this
    exact this (o3 x t4.tl) (m2.ns (Fit.left (M := numsT tc) (by rw [List.append_assoc]; exact h.fit)) hn) (fun q => by obtain ⟨r', g1, g2⟩ := hl q; exact ⟨r', g1, by omega⟩)
theorem cor_forIn {s t : Str} {ta tb : Tr} (ha : CorE ta) (hb : CorB tb true) (hs : NmW s) (ht : NmW t) (hd : dE ta ≤ 128) : CorS (St.forIn s t ta tb) lp := fun {j L r base x a S F lc} h hn hl => by
  obtain ⟨l1, l2, o1, o2, m1, m2⟩ := pair (ta := ta) (tb := tb) (md1 := 0) (md2 := L.length + 4) (base1 := 0) (base2 := L.length) (L1 := L) (L2 := L ++ [[], [], s, t]) (a := a) (a2 := a + ln (cmp ta 0 ((j, L) :: r) 0 a S) + 5) (S1 := declF j (L.length + 4) (cmp ta 0 ((j, L) :: r) 0 a S).2) h.ch h.fit (fun m hl => declF_mo hl m) (fun m _ => Mo.refl m) h.cov
  have hm := mo_all ta 0 j L r 0 a S h.ch (Fit.left (M := numsT tb) h.fit)
  have hlt : j < (cmp ta 0 ((j, L) :: r) 0 a S).2.length := by rw [hm.mo.len]; exact h.fit.ltj
  have hd4 := declF_ns (n := L.length + 4) hlt
  have hb' := fun e => @hb j (L ++ [[], [], s, t]) (L ++ [[], [], s, t]) r L.length e (a + ln (cmp ta 0 ((j, L) :: r) 0 a S) + 5) (declF j (L.length + 4) (cmp ta 0 ((j, L) :: r) 0 a S).2) F ((L.length, e) :: lc)
  have hl4 : (L ++ [[], [], s, t]).length = L.length + 4 := by simp
  rw [hl4] at hb'
  have e0 : cmp (St.forIn s t ta tb) 0 ((j, L) :: r) base a S = (fun x => (cmp ta 0 ((j, L) :: r) 0 a S).1 x ++ [(6, L.length), (2, 0), (6, L.length + 1), (32, L.length), (22, a + ln (cmp ta 0 ((j, L) :: r) 0 a S) + 5 + ln (cmp tb (L.length + 4) ((j, L ++ [[], [], s, t]) :: r) L.length (a + ln (cmp ta 0 ((j, L) :: r) 0 a S) + 5) (declF j (L.length + 4) (cmp ta 0 ((j, L) :: r) 0 a S).2)) + 2)] ++ (cmp tb (L.length + 4) ((j, L ++ [[], [], s, t]) :: r) L.length (a + ln (cmp ta 0 ((j, L) :: r) 0 a S) + 5) (declF j (L.length + 4) (cmp ta 0 ((j, L) :: r) 0 a S).2)).1 (a + ln (cmp ta 0 ((j, L) :: r) 0 a S) + 5 + ln (cmp tb (L.length + 4) ((j, L ++ [[], [], s, t]) :: r) L.length (a + ln (cmp ta 0 ((j, L) :: r) 0 a S) + 5) (declF j (L.length + 4) (cmp ta 0 ((j, L) :: r) 0 a S).2)) + 2) ++ [(29, L.length + 2), (21, a + ln (cmp ta 0 ((j, L) :: r) 0 a S) + 3), (29, L.length)], (cmp tb (L.length + 4) ((j, L ++ [[], [], s, t]) :: r) L.length (a + ln (cmp ta 0 ((j, L) :: r) 0 a S) + 5) (declF j (L.length + 4) (cmp ta 0 ((j, L) :: r) 0 a S).2)).2) := rfl
  rw [e0] at h hl ⊢
  clear e0
  have ha' := fun x => @ha j L r 0 x a S F
  generalize cmp ta 0 ((j, L) :: r) 0 a S = qa at *
  generalize cmp tb (L.length + 4) ((j, L ++ [[], [], s, t]) :: r) L.length (a + ln qa + 5) (declF j (L.length + 4) qa.2) = qb at *
  obtain ⟨t1, t2, t3, t4⟩ := at3 l1 l2 h.at'
  have hat2 : At F j (a + ln qa + 5 + ln qb) [(29, L.length + 2), (21, a + ln qa + 3), (29, L.length)] := t4
  refine ⟨CS_forIn.2 ⟨hs.1, ht.1, hd, (h.cov).ns (m2.ns (Fit.mo (Fit.right (N := numsT ta) h.fit) m1) hd4), _, a + ln qa + 5 + ln qb, ha' x (o1 x t1), t2.hd, t2.tl.hd, t2.tl.tl.hd, t2.tl.tl.tl.hd, t2.tl.tl.tl.tl.hd, by omega, hb' _ (o2 _ t3) hd4 (fun _ => ⟨lc, rfl, by omega⟩), hat2.hd, hat2.tl.hd, by omega, hat2.tl.tl.hd, ?_⟩, (m1.trans m2).ns h.fit hn⟩
  have := l2 (a + ln qa + 5 + ln qb + 2)
  simp only [ln, List.length_append, List.length_cons, List.length_nil] at this ⊢
  omega
theorem num_tail {q : Out} {p : Nat} {tb : Tr} {s : Str} {lc : List (Nat × Nat)} (l : ∀ x, (q.1 x).length = ln q) (h : At F j p (numTail L.length p (q.1 (p + 6 + ln q + 6)))) (hb : At F j (p + 6) (q.1 (p + 6 + ln q + 6)) → CB (Psf F) (Fsf F) j (L ++ [[], [], [], s]) (L ++ [[], [], [], s]) ((L.length, p + 6 + ln q + 6) :: lc) tb (p + 6) (p + 6 + ln q)) :
    CL (Psf F) j L p (p + 6 + ln q + 7) (fun q => CB (Psf F) (Fsf F) j (L ++ [[], [], [], s]) (L ++ [[], [], [], s]) ((L.length, q + 6) :: lc) tb (p + 6) q) := by
  unfold numTail at h
  rw [l] at h
  obtain ⟨h12, h3⟩ := h.app
  obtain ⟨h1, h2⟩ := h12.app
  rw [List.length_append, l] at h3
  have h2 : At F j (p + 6) (q.1 (p + 6 + ln q + 6)) := h2
  have h3 : At F j (p + 6 + ln q) [(29, L.length + 3), (5, L.length), (5, L.length + 2), (15, 1), (6, L.length), (21, p + 2), (29, L.length)] := by
    have e : p + 6 + ln q = p + ([(6, L.length + 2), (30, L.length), (31, L.length), (22, p + 6 + ln q + 6), (5, L.length), (6, L.length + 3)].length + ln q) := by simp only [List.length_cons, List.length_nil]; omega
    rw [e]; exact h3
  exact ⟨h1.hd, h1.tl.hd, h1.tl.tl.hd, p + 6 + ln q, h1.tl.tl.tl.hd, by omega, h1.tl.tl.tl.tl.hd, h1.tl.tl.tl.tl.tl.hd, hb h2, h3.hd, h3.tl.hd, h3.tl.tl.hd, h3.tl.tl.tl.hd, h3.tl.tl.tl.tl.hd, h3.tl.tl.tl.tl.tl.hd, by omega, h3.tl.tl.tl.tl.tl.tl.hd, rfl⟩
end

end Go.Proofs.Qxb6500568aGreatDoor
