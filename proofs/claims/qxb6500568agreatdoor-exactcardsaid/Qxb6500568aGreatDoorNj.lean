import Derived.Test.Qxb6500568aGreatDoorNi
namespace Go.Proofs.Qxb6500568aGreatDoor
open Ieee
set_option linter.unusedVariables false
set_option linter.unusedSimpArgs false
set_option linter.unusedSectionVars false

/-! Numeric loops; blocks; the whole program. -/

section
variable {F S : Fns} {j : Nat} {L : List Str} {r : Chn} {x a base : Nat} {lp : Bool}

theorem cor_for2 {s : Str} {ta tb tc : Tr} (ha : CorE ta) (hb : CorE tb) (hc : CorB tc true) (hs : NmW s) (h1 : dE ta ≤ 128) (h2 : dE tb ≤ 128) : CorS (St.for2 s ta tb tc) lp := fun {j L r base x a S F lc} h hn hl => by
  have hf : Fit S j r (numsT ta ++ (numsT tb ++ numsT tc)) := h.fit
  have hma := mo_all ta 0 j L r 0 a S h.ch hf.left
  have hlt : j < (cmp ta 0 ((j, L) :: r) 0 a S).2.length := by rw [hma.mo.len]; exact h.fit.ltj
  have hda := declF_mo (n := L.length + 1) hlt hma.mo.ch
  have hmb := mo_all tb 0 j (L ++ [[]]) r 0 (a + ln (cmp ta 0 ((j, L) :: r) 0 a S) + 1) (declF j (L.length + 1) (cmp ta 0 ((j, L) :: r) 0 a S).2) hda.ch (hf.right.left.mo (hma.mo.tr0 hda))
  have e0 : (cmp (St.for2 s ta tb tc) 0 ((j, L) :: r) base a S) = ((let q := cmp ta 0 ((j, L) :: r) 0 a S
     let q2 := cmp tb 0 ((j, L ++ [[]]) :: r) 0 (a + ln q + 1) (declF j (L.length + 1) q.2)
     let o := conF j (vNum (fInt 1)) (declF j (L.length + 2) q2.2)
     let q3 := cmp tc (L.length + 4) ((j, L ++ [[], [], [], s]) :: r) L.length (a + ln q + 1 + ln q2 + 2 + 6) (declF j (L.length + 4) o.2)
     (fun x => q.1 x ++ [(6, L.length)] ++ q2.1 x ++ [(6, L.length + 1), (1, o.1)] ++ numTail L.length (a + ln q + 1 + ln q2 + 2) (q3.1 (a + ln q + 1 + ln q2 + 2 + 6 + ln q3 + 6)), q3.2)) : Out) := rfl
  dsimp only at e0
  rw [e0] at h hl ⊢
  clear e0
  have hlb : j < (cmp tb 0 ((j, L ++ [[]]) :: r) 0 (a + ln (cmp ta 0 ((j, L) :: r) 0 a S) + 1) (declF j (L.length + 1) (cmp ta 0 ((j, L) :: r) 0 a S).2)).2.length := by rw [hmb.mo.len, hda.len]; exact hlt
  have ha' := fun x => @ha j L r 0 x a S F
  have hb' := fun x => @hb j (L ++ [[]]) r 0 x (a + ln (cmp ta 0 ((j, L) :: r) 0 a S) + 1) (declF j (L.length + 1) (cmp ta 0 ((j, L) :: r) 0 a S).2) F
  have hc' := fun (b : Nat) (S' : Fns) e => @hc j (L ++ [[], [], [], s]) (L ++ [[], [], [], s]) r L.length e b S' F ((L.length, e) :: lc)
  have hl4 : (L ++ [[], [], [], s]).length = L.length + 4 := by simp
  rw [hl4] at hc'
  have htr := fun (b : Nat) (S' : Fns) => triple (F := F) (ta := ta) (tb := tb) (tc := tc) (md1 := 0) (md2 := 0) (md3 := L.length + 4) (base1 := 0) (base2 := 0) (base3 := L.length) (L1 := L) (L2 := L ++ [[]]) (L3 := L ++ [[], [], [], s]) (a := a) (a2 := a + ln (cmp ta 0 ((j, L) :: r) 0 a S) + 1) (a3 := b) (S1 := declF j (L.length + 1) (cmp ta 0 ((j, L) :: r) 0 a S).2) (S2 := S') h.ch hf (fun m hl => declF_mo hl m)
  generalize cmp ta 0 ((j, L) :: r) 0 a S = qa at *
  generalize cmp tb 0 ((j, L ++ [[]]) :: r) 0 (a + ln qa + 1) (declF j (L.length + 1) qa.2) = qb at *
  have d2 := declF_mo (n := L.length + 2) hlb hmb.mo.ch
  obtain ⟨k1, k2⟩ := conF_mo (v := vNum (fInt 1)) (by rw [d2.len]; exact hlb) d2.ch
  generalize ho : conF j (vNum (fInt 1)) (declF j (L.length + 2) qb.2) = o at *
  have hlo : j < o.2.length := by rw [k1.len, d2.len]; exact hlb
  have d4 := declF_mo (n := L.length + 4) hlo k1.ch
  have hd4 := declF_ns (n := L.length + 4) hlo
  obtain ⟨⟨l1, l2, l3⟩, ⟨o1, o2, o3⟩, m1, m2, m3, m4, f3⟩ := htr (a + ln qa + 1 + ln qb + 2 + 6) (declF j (L.length + 4) o.2) (fun _ _ => (d2.tr0 k1).tr0 d4) h.cov
  have hc' := hc' (a + ln qa + 1 + ln qb + 2 + 6) (declF j (L.length + 4) o.2)
  generalize cmp tc (L.length + 4) ((j, L ++ [[], [], [], s]) :: r) L.length (a + ln qa + 1 + ln qb + 2 + 6) (declF j (L.length + 4) o.2) = qc at *
  have hat : At F j a (qa.1 x ++ [(6, L.length)] ++ qb.1 x ++ ([(6, L.length + 1), (1, o.1)] ++ numTail L.length (a + ln qa + 1 + ln qb + 2) (qc.1 (a + ln qa + 1 + ln qb + 2 + 6 + ln qc + 6)))) := by rw [← List.append_assoc]; exact h.at'
  obtain ⟨t1, t2, t3, t4⟩ := at3 l1 l2 hat
  obtain ⟨t4, t5⟩ := t4.app
  have t4 : At F j (a + ln qa + 1 + ln qb) [(6, L.length + 1), (1, o.1)] := t4
  have t5 : At F j (a + ln qa + 1 + ln qb + 2) (numTail L.length (a + ln qa + 1 + ln qb + 2) (qc.1 (a + ln qa + 1 + ln qb + 2 + 6 + ln qc + 6))) := t5
  have hk : (fsAt qc.2 j).ks[o.1]? = some (vNum (fInt 1)) := pre_get ((d4.ext j (by simp)).trans (m4.ext j f3.notin)).ks k2
  have e : a + ln (fun x => qa.1 x ++ [(6, L.length)] ++ qb.1 x ++ [(6, L.length + 1), (1, o.1)] ++ numTail L.length (a + ln qa + 1 + ln qb + 2) (qc.1 (a + ln qa + 1 + ln qb + 2 + 6 + ln qc + 6)), qc.2) = a + ln qa + 1 + ln qb + 2 + 6 + ln qc + 7 := by
    have := l3 (a + ln qa + 1 + ln qb + 2 + 6 + ln qc + 6)
    simp only [ln, numTail, List.length_append, List.length_cons, List.length_nil] at this ⊢
    omega
  rw [e] at hl ⊢
  refine ⟨CS_for2.2 ⟨hs.1, h1, h2, h.cov.ns (m4.ns f3 hd4), _, _, ha' x (o1 x t1), t2.hd, hb' x (o2 x t3), t4.hd, ⟨_, t4.tl.hd, by rw [con_psf]; exact pre_get (h.cov.ch j List.mem_cons_self).ks hk⟩, num_tail l3 t5 (fun hat => hc' _ (o3 _ hat) hd4 (fun _ => ⟨lc, rfl, by omega⟩))⟩, m3.ns h.fit hn⟩

theorem cor_for3 {s : Str} {ta tb td tc : Tr} (ha : CorE ta) (hb : CorE tb) (hdd : CorE td) (hc : CorB tc true) (hs : NmW s) (h1 : dE ta ≤ 128) (h2 : dE tb ≤ 128) (h3 : dE td ≤ 128) : CorS (St.for3 s ta tb td tc) lp := fun {j L r base x a S F lc} h hn hl => by
  have hf : Fit S j r (numsT ta ++ (numsT tb ++ (numsT td ++ numsT tc))) := h.fit
  have hma := mo_all ta 0 j L r 0 a S h.ch hf.left
  have hlt : j < (cmp ta 0 ((j, L) :: r) 0 a S).2.length := by rw [hma.mo.len]; exact h.fit.ltj
  have hda := declF_mo (n := L.length + 1) hlt hma.mo.ch
  have m1 := hma.mo.tr0 hda
  have hf2 := hf.right.mo m1
  have e0 : (cmp (St.for3 s ta tb td tc) 0 ((j, L) :: r) base a S) = ((let q := cmp ta 0 ((j, L) :: r) 0 a S
     let q2 := cmp tb 0 ((j, L ++ [[]]) :: r) 0 (a + ln q + 1) (declF j (L.length + 1) q.2)
     let q4 := cmp td 0 ((j, L ++ [[], []]) :: r) 0 (a + ln q + 1 + ln q2 + 1) (declF j (L.length + 2) q2.2)
     let q3 := cmp tc (L.length + 4) ((j, L ++ [[], [], [], s]) :: r) L.length (a + ln q + 1 + ln q2 + 1 + ln q4 + 6) (declF j (L.length + 4) q4.2)
     (fun x => q.1 x ++ [(6, L.length)] ++ q2.1 x ++ [(6, L.length + 1)] ++ q4.1 x ++ numTail L.length (a + ln q + 1 + ln q2 + 1 + ln q4) (q3.1 (a + ln q + 1 + ln q2 + 1 + ln q4 + 6 + ln q3 + 6)), q3.2)) : Out) := rfl
  dsimp only at e0
  rw [e0] at h hl ⊢
  clear e0
  have ha' := fun x => @ha j L r 0 x a S F
  have hb' := fun x => @hb j (L ++ [[]]) r 0 x (a + ln (cmp ta 0 ((j, L) :: r) 0 a S) + 1) (declF j (L.length + 1) (cmp ta 0 ((j, L) :: r) 0 a S).2) F
  have hl4 : (L ++ [[], [], [], s]).length = L.length + 4 := by simp
  have hc' := fun (b : Nat) (S' : Fns) e => @hc j (L ++ [[], [], [], s]) (L ++ [[], [], [], s]) r L.length e b S' F ((L.length, e) :: lc)
  rw [hl4] at hc'
  have htr := fun (b c : Nat) (S' S'' : Fns) => triple (F := F) (ta := tb) (tb := td) (tc := tc) (md1 := 0) (md2 := 0) (md3 := L.length + 4) (base1 := 0) (base2 := 0) (base3 := L.length) (L1 := L ++ [[]]) (L2 := L ++ [[], []]) (L3 := L ++ [[], [], [], s]) (a := a + ln (cmp ta 0 ((j, L) :: r) 0 a S) + 1) (a2 := b) (a3 := c) (S1 := S') (S2 := S'') hda.ch hf2
  have hmb := mo_all tb 0 j (L ++ [[]]) r 0 (a + ln (cmp ta 0 ((j, L) :: r) 0 a S) + 1) (declF j (L.length + 1) (cmp ta 0 ((j, L) :: r) 0 a S).2) hda.ch hf2.left
  generalize cmp ta 0 ((j, L) :: r) 0 a S = qa at *
  have hlb : j < (cmp tb 0 ((j, L ++ [[]]) :: r) 0 (a + ln qa + 1) (declF j (L.length + 1) qa.2)).2.length := by rw [hmb.mo.len]; exact hf2.ltj
  generalize cmp tb 0 ((j, L ++ [[]]) :: r) 0 (a + ln qa + 1) (declF j (L.length + 1) qa.2) = qb at *
  have d2 := declF_mo (n := L.length + 2) hlb hmb.mo.ch
  have hmd := mo_all td 0 j (L ++ [[], []]) r 0 (a + ln qa + 1 + ln qb + 1) (declF j (L.length + 2) qb.2) d2.ch (hf2.right.left.mo (hmb.mo.tr0 d2))
  have hd' := fun x => @hdd j (L ++ [[], []]) r 0 x (a + ln qa + 1 + ln qb + 1) (declF j (L.length + 2) qb.2) F
  have htr := fun c S'' => htr (a + ln qa + 1 + ln qb + 1) c (declF j (L.length + 2) qb.2) S'' (fun _ _ => d2)
  have hld : j < (cmp td 0 ((j, L ++ [[], []]) :: r) 0 (a + ln qa + 1 + ln qb + 1) (declF j (L.length + 2) qb.2)).2.length := by rw [hmd.mo.len, d2.len]; exact hlb
  generalize cmp td 0 ((j, L ++ [[], []]) :: r) 0 (a + ln qa + 1 + ln qb + 1) (declF j (L.length + 2) qb.2) = qd at *
  have d4 := declF_mo (n := L.length + 4) hld hmd.mo.ch
  have hd4 := declF_ns (n := L.length + 4) hld
  have hc' := hc' (a + ln qa + 1 + ln qb + 1 + ln qd + 6) (declF j (L.length + 4) qd.2)
  have htr := htr (a + ln qa + 1 + ln qb + 1 + ln qd + 6) (declF j (L.length + 4) qd.2) (fun _ _ => d4)
  have hmc := mo_all tc (L.length + 4) j (L ++ [[], [], [], s]) r L.length (a + ln qa + 1 + ln qb + 1 + ln qd + 6) (declF j (L.length + 4) qd.2) d4.ch (hf2.right.right.mo ((hmb.mo.tr0 d2).trans (hmd.mo.tr0 d4)))
  generalize cmp tc (L.length + 4) ((j, L ++ [[], [], [], s]) :: r) L.length (a + ln qa + 1 + ln qb + 1 + ln qd + 6) (declF j (L.length + 4) qd.2) = qc at *
  have mr := (hmb.mo.tr0 d2).trans ((hmd.mo.tr0 d4).trans hmc.mo)
  obtain ⟨c1, c2, -⟩ := Cov.split (T := qc.2) h.cov hf m1 mr
  obtain ⟨⟨l1, l2, l3⟩, ⟨o1, o2, o3⟩, n1, n2, n3, n4, f3⟩ := htr c2
  have hat : At F j a (qa.1 x ++ [(6, L.length)] ++ qb.1 x ++ ([(6, L.length + 1)] ++ (qd.1 x ++ numTail L.length (a + ln qa + 1 + ln qb + 1 + ln qd) (qc.1 (a + ln qa + 1 + ln qb + 1 + ln qd + 6 + ln qc + 6))))) := by rw [← List.append_assoc, ← List.append_assoc]; exact h.at'
  obtain ⟨t1, t2, t3, t4⟩ := at3 hma.ln l1 hat
  have t5 : At F j (a + ln qa + 1 + ln qb + 1) (qd.1 x ++ numTail L.length (a + ln qa + 1 + ln qb + 1 + ln qd) (qc.1 (a + ln qa + 1 + ln qb + 1 + ln qd + 6 + ln qc + 6))) := t4.tl
  obtain ⟨t5, t6⟩ := at1 l2 t5
  have e : a + ln (fun x => qa.1 x ++ [(6, L.length)] ++ qb.1 x ++ [(6, L.length + 1)] ++ qd.1 x ++ numTail L.length (a + ln qa + 1 + ln qb + 1 + ln qd) (qc.1 (a + ln qa + 1 + ln qb + 1 + ln qd + 6 + ln qc + 6)), qc.2) = a + ln qa + 1 + ln qb + 1 + ln qd + 6 + ln qc + 7 := by
    have := l3 (a + ln qa + 1 + ln qb + 1 + ln qd + 6 + ln qc + 6)
    simp only [ln, numTail, List.length_append, List.length_cons, List.length_nil] at this ⊢
    omega
  rw [e] at hl ⊢
  exact ⟨CS_for3.2 ⟨hs.1, h1, h2, h3, h.cov.ns (n4.ns f3 hd4), _, _, _, ha' x ⟨h.ch, hf.left, c1.tr0 (hf.left.mo hma.mo) hda, t1⟩, t2.hd, hb' x (o1 x t3), t4.hd, hd' x (o2 x t5), num_tail l3 t6 (fun hat => hc' _ (o3 _ hat) hd4 (fun _ => ⟨lc, rfl, by omega⟩))⟩, (m1.trans mr).ns hf hn⟩

theorem cor_nilB : CorB StL.nil lp := fun {j L0 L r base x a S F lc} h hn hl => by
  have e0 : cmp StL.nil L0.length ((j, L) :: r) base a S = (fun _ => (if L0.length < L.length then [(29, L0.length)] else []), S) := rfl
  rw [e0] at h hl ⊢
  have hat : At F j a (if L0.length < L.length then [(29, L0.length)] else []) := h.at'
  refine CB_nil.2 ?_
  by_cases hb : L0.length < L.length
  · rw [if_pos hb] at hat ⊢
    simp only [ln, if_pos hb, List.length_cons, List.length_nil]
    exact ⟨hat.hd, trivial⟩
  · rw [if_neg hb]
    simp only [ln, if_neg hb, List.length_nil]
    rfl
theorem cor_consB {ta tb : Tr} (ha : CorS ta lp) (hb : CorB tb lp) : CorB (StL.cons ta tb) lp := fun {j L0 L r base x a S F lc} h hn hl => by
  obtain ⟨l1, l2, o1, o2, m1, m2⟩ := h.two (ta := ta) (tb := tb) (L1 := L) (L2 := aftS L ta) rfl rfl
  obtain ⟨t1, t2⟩ := at1 l1 (show At F j a (_ ++ _) from h.at')
  have e : a + ln (cmp (StL.cons ta tb) L0.length ((j, L) :: r) base a S) = a + ln (cmp ta 0 ((j, L) :: r) base a S) + ln (cmp tb L0.length ((j, aftS L ta) :: r) base (a + ln (cmp ta 0 ((j, L) :: r) base a S)) (cmp ta 0 ((j, L) :: r) base a S).2) := by simp [cmp, StL.cons, cK2, ln, Nat.add_assoc, hL, loc, hj]
  rw [e] at hl ⊢
  have hf : Fit S j r (numsT ta ++ numsT tb) := h.fit
  obtain ⟨g1, g2⟩ := ha (lc := lc) (o1 x t1) hn (fun q => by obtain ⟨r', k1, k2⟩ := hl q; exact ⟨r', k1, by omega⟩)
  exact CB_cons.2 ⟨h.cov.ns (m2.ns (hf.right.mo m1) g2), _, g1, hb (o2 x t2) g2 (fun q => by obtain ⟨r', k1, k2⟩ := hl q; exact ⟨r', k1, by omega⟩)⟩
end

end Go.Proofs.Qxb6500568aGreatDoor
