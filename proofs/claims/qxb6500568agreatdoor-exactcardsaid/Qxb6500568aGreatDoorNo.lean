import Derived.Test.Qxb6500568aGreatDoorNn
namespace Go.Proofs.Qxb6500568aGreatDoor
open Ieee
set_option linter.unusedVariables false
set_option linter.unusedSimpArgs false
set_option linter.unusedSectionVars false

/-! Bounds of the rest; of the whole program. -/

section
variable {S : Fns} {j : Nat} {L : List Str} {r : Chn} {base a md : Nat} {lp : Bool}

theorem bd_setI {ta tb tc : Tr} (ha : BdC ta 3 0 false) (hb : BdC tb 3 0 false) (hd : BdC tc 3 0 false) : BdC (St.setI ta tb tc) 0 0 lp := fun md j L r base a S hc hf hB hw hL hbs hmd hbu => by
  have hw : dE ta ≤ 128 ∧ 1 + dE tb ≤ 128 ∧ 2 + dE tc ≤ 128 ∧ W ta false L.length ∧ W tb false L.length ∧ W tc false L.length := hw
  have hn : ndT (St.setI ta tb tc) = 2 + ndT ta + ndT tb + ndT tc := rfl
  have hf : Fit S j r (numsT ta ++ (numsT tb ++ numsT tc)) := hf
  have b1 := ha 0 j L r 0 a S hc hf.left hB hw.2.2.2.1 hL (by omega) (by omega) (by omega)
  have m1 := (mo_all ta 0 j L r 0 a S hc hf.left).mo
  have h1 := b1.tl
  have hf2 := hf.right.mo m1
  have b2 := hb 0 j L r 0 (a + ln (cmp ta 0 ((j, L) :: r) 0 a S)) _ m1.ch hf2.left b1.bd hw.2.2.2.2.1 hL (by omega) (by omega) (by omega)
  have m2 := (mo_all tb 0 j L r 0 (a + ln (cmp ta 0 ((j, L) :: r) 0 a S)) _ m1.ch hf2.left).mo
  have h2 := b2.tl
  have b3 := hd 0 j L r 0 (a + ln (cmp ta 0 ((j, L) :: r) 0 a S) + ln (cmp tb 0 ((j, L) :: r) 0 (a + ln (cmp ta 0 ((j, L) :: r) 0 a S)) (cmp ta 0 ((j, L) :: r) 0 a S).2)) _ m2.ch (hf2.right.mo m2) b2.bd hw.2.2.2.2.2 hL (by omega) (by omega) (by omega)
  have h3 := b3.tl
  refine ⟨b3.bd, ?_, fun x hx => (((b1.ops x hx).app (b2.ops x hx)).app (b3.ops x hx)).app (.cons (show 12 < 256 by decide) lt0 .nil)⟩
  rw [hn]
  show tot (cmp tc 0 ((j, L) :: r) 0 (a + ln (cmp ta 0 ((j, L) :: r) 0 a S) + ln (cmp tb 0 ((j, L) :: r) 0 (a + ln (cmp ta 0 ((j, L) :: r) 0 a S)) (cmp ta 0 ((j, L) :: r) 0 a S).2)) (cmp tb 0 ((j, L) :: r) 0 (a + ln (cmp ta 0 ((j, L) :: r) 0 a S)) (cmp ta 0 ((j, L) :: r) 0 a S).2).2).2 + 3 * List.length (_ ++ _ ++ _ ++ [_]) + 0 ≤ _
  rw [List.length_append, List.length_append, List.length_append, List.length_cons, List.length_nil]
  show _ + 3 * (ln (cmp ta 0 ((j, L) :: r) 0 a S) + ln (cmp tb 0 ((j, L) :: r) 0 (a + ln (cmp ta 0 ((j, L) :: r) 0 a S)) (cmp ta 0 ((j, L) :: r) 0 a S).2) + ln (cmp tc 0 ((j, L) :: r) 0 (a + ln (cmp ta 0 ((j, L) :: r) 0 a S) + ln (cmp tb 0 ((j, L) :: r) 0 (a + ln (cmp ta 0 ((j, L) :: r) 0 a S)) (cmp ta 0 ((j, L) :: r) 0 a S).2)) (cmp tb 0 ((j, L) :: r) 0 (a + ln (cmp ta 0 ((j, L) :: r) 0 a S)) (cmp ta 0 ((j, L) :: r) 0 a S).2).2) + (0 + 1)) + _ ≤ _
  omega
theorem bd_iff {ta tb tc : Tr} (ha : BdC ta 3 0 false) (hb : BdC tb 0 3 lp) (hd : BdC tc 0 3 lp) : BdC (St.iff ta tb tc) 0 0 lp := fun md j L r base a S hc hf hB hw hL hbs hmd hbu => by
  have hw : dE ta ≤ 128 ∧ W ta false L.length ∧ W tb lp L.length ∧ W tc lp L.length := hw
  have hn : ndT (St.iff ta tb tc) = 1 + ndT ta + ndT tb + ndT tc := rfl
  have hf : Fit S j r (numsT ta ++ (numsT tb ++ numsT tc)) := hf
  have b1 := ha 0 j L r 0 a S hc hf.left hB hw.2.1 hL (by omega) (by omega) (by omega)
  have m1 := (mo_all ta 0 j L r 0 a S hc hf.left).mo
  have h1 := b1.tl
  have hf2 := hf.right.mo m1
  have e0 : cmp (St.iff ta tb tc) md ((j, L) :: r) base a S = ((let q := cmp ta 0 ((j, L) :: r) 0 a S
     let q2 := cmp tb L.length ((j, L) :: r) base (a + ln q + 1) q.2
     let q3 := cmp tc L.length ((j, L) :: r) base (a + ln q + 1 + ln q2 + 1) q2.2
     (fun x => q.1 x ++ [(22, a + ln q + 1 + ln q2 + 1)] ++ q2.1 x ++ [(21, a + ln q + 1 + ln q2 + 1 + ln q3)] ++ q3.1 x, q3.2)) : Out) := rfl
  dsimp only at e0
  rw [e0]
  clear e0
  generalize cmp ta 0 ((j, L) :: r) 0 a S = qa at *
  have b2 := hb L.length j L r base (a + ln qa + 1) _ m1.ch hf2.left b1.bd hw.2.2.1 hL hbs (by omega) (by omega)
  have m2 := (mo_all tb L.length j L r base (a + ln qa + 1) _ m1.ch hf2.left).mo
  have h2 := b2.tl
  generalize cmp tb L.length ((j, L) :: r) base (a + ln qa + 1) qa.2 = qb at *
  have b3 := hd L.length j L r base (a + ln qa + 1 + ln qb + 1) _ m2.ch (hf2.right.mo m2) b2.bd hw.2.2.2 hL hbs (by omega) (by omega)
  have h3 := b3.tl
  generalize cmp tc L.length ((j, L) :: r) base (a + ln qa + 1 + ln qb + 1) qb.2 = qc at *
  refine ⟨b3.bd, ?_, fun x hx => ((((b1.ops x hx).app (.cons (show 22 < 256 by decide) (by show _ + 1 < _; omega) .nil)).app (b2.ops x hx)).app (.cons (show 21 < 256 by decide) (by show _ + ln qc < _; omega) .nil)).app (b3.ops x hx)⟩
  rw [hn]
  show tot qc.2 + 3 * List.length (_ ++ [_] ++ _ ++ [_] ++ _) + 0 ≤ _
  rw [List.length_append, List.length_append, List.length_append, List.length_append, List.length_cons, List.length_nil, List.length_cons, List.length_nil]
  show _ + 3 * (ln qa + (0 + 1) + ln qb + (0 + 1) + ln qc) + _ ≤ _
  omega
theorem numTail_ops {b p : Nat} {c : Cod} (hb : b + 3 < 65535) (hp : p + 6 + c.length + 6 < 65535) (hc : OpsOK c) : OpsOK (numTail b p c) := by
  unfold numTail
  refine ((OpsOK.cons (show 6 < 256 by decide) (by show b + 2 < _; omega) (.cons (show 30 < 256 by decide) (by show b < _; omega) (.cons (show 31 < 256 by decide) (by show b < _; omega) (.cons (show 22 < 256 by decide) hp (.cons (show 5 < 256 by decide) (by show b < _; omega) (.cons (show 6 < 256 by decide) hb .nil)))))).app hc).app ?_
  exact .cons (show 29 < 256 by decide) hb (.cons (show 5 < 256 by decide) (by show b < _; omega) (.cons (show 5 < 256 by decide) (by show b + 2 < _; omega) (.cons (show 15 < 256 by decide) (show 1 < 65535 by decide) (.cons (show 6 < 256 by decide) (by show b < _; omega) (.cons (show 21 < 256 by decide) (by show p + 2 < _; omega) (.cons (show 29 < 256 by decide) (by show b < _; omega) .nil))))))
theorem numTail_len {b p : Nat} {c : Cod} : (numTail b p c).length = c.length + 13 := by
  unfold numTail
  simp only [List.length_append, List.length_cons, List.length_nil]; omega
theorem one_ok : KOK (vNum (fInt 1)) := .inl ⟨fInt 1, rfl, by decide, by decide⟩
theorem bd_for2 {s : Str} {ta tb tc : Tr} (ha : BdC ta 3 0 false) (hb : BdC tb 3 0 false) (hd : BdC tc 0 3 true) : BdC (St.for2 s ta tb tc) 0 0 lp := fun md j L r base a S hc hf hB hw hL hbs hmd hbu => by
  have hw : NmW s ∧ L.length + 4 ≤ 12 ∧ dE ta ≤ 128 ∧ dE tb ≤ 128 ∧ W ta false L.length ∧ W tb false (L.length + 1) ∧ W tc true (L.length + 4) := hw
  have hn : ndT (St.for2 s ta tb tc) = 1 + ndT ta + ndT tb + ndT tc := rfl
  have hf : Fit S j r (numsT ta ++ (numsT tb ++ numsT tc)) := hf
  have b1 := ha 0 j L r 0 a S hc hf.left hB hw.2.2.2.2.1 hL (by omega) (by omega) (by omega)
  have m1 := (mo_all ta 0 j L r 0 a S hc hf.left).mo
  have h1 := b1.tl
  have e0 : (cmp (St.for2 s ta tb tc) md ((j, L) :: r) base a S) = ((let q := cmp ta 0 ((j, L) :: r) 0 a S
     let q2 := cmp tb 0 ((j, L ++ [[]]) :: r) 0 (a + ln q + 1) (declF j (L.length + 1) q.2)
     let o := conF j (vNum (fInt 1)) (declF j (L.length + 2) q2.2)
     let q3 := cmp tc (L.length + 4) ((j, L ++ [[], [], [], s]) :: r) L.length (a + ln q + 1 + ln q2 + 2 + 6) (declF j (L.length + 4) o.2)
     (fun x => q.1 x ++ [(6, L.length)] ++ q2.1 x ++ [(6, L.length + 1), (1, o.1)] ++ numTail L.length (a + ln q + 1 + ln q2 + 2) (q3.1 (a + ln q + 1 + ln q2 + 2 + 6 + ln q3 + 6)), q3.2)) : Out) := rfl
  dsimp only at e0
  rw [e0]
  clear e0
  generalize cmp ta 0 ((j, L) :: r) 0 a S = qa at *
  have hl1 : j < qa.2.length := by rw [m1.len]; exact hf.ltj
  have dm1 := declF_mo (n := L.length + 1) hl1 m1.ch
  obtain ⟨d1, d1'⟩ := declF_bd (n := L.length + 1) b1.bd hl1 (by omega)
  have hf2 := hf.right.mo (m1.tr0 dm1)
  have hl_1 : (L ++ [[]]).length = L.length + 1 := by simp
  have hl_4 : (L ++ [[], [], [], s]).length = L.length + 4 := by simp
  have b2 := hb 0 j (L ++ [[]]) r 0 (a + ln qa + 1) _ dm1.ch hf2.left d1 (by rw [hl_1]; exact hw.2.2.2.2.2.1) (by omega) (by omega) (by omega) (by omega)
  have m2 := (mo_all tb 0 j (L ++ [[]]) r 0 (a + ln qa + 1) _ dm1.ch hf2.left).mo
  have h2 := b2.tl
  generalize cmp tb 0 ((j, L ++ [[]]) :: r) 0 (a + ln qa + 1) (declF j (L.length + 1) qa.2) = qb at *
  have hl2 : j < qb.2.length := by rw [m2.len]; exact hf2.ltj
  have dm2 := declF_mo (n := L.length + 2) hl2 m2.ch
  obtain ⟨d2, d2'⟩ := declF_bd (n := L.length + 2) b2.bd hl2 (by omega)
  obtain ⟨k1, k2, k3⟩ := conF_bd (v := vNum (fInt 1)) d2 (by rw [dm2.len]; exact hl2) one_ok
  obtain ⟨km, -⟩ := conF_mo (v := vNum (fInt 1)) (by rw [dm2.len]; exact hl2) dm2.ch
  have hkb : kb (vNum (fInt 1)) = 9 := rfl
  generalize conF j (vNum (fInt 1)) (declF j (L.length + 2) qb.2) = o at *
  have hlo : j < o.2.length := by rw [km.len, dm2.len]; exact hl2
  have dm4 := declF_mo (n := L.length + 4) hlo km.ch
  obtain ⟨d4, d4'⟩ := declF_bd (n := L.length + 4) k1 hlo (by omega)
  have b3 := hd (L.length + 4) j (L ++ [[], [], [], s]) r L.length (a + ln qa + 1 + ln qb + 2 + 6) _ dm4.ch (hf2.right.mo (((m2.tr0 dm2).tr0 km).tr0 dm4)) d4 (by rw [hl_4]; exact hw.2.2.2.2.2.2) (by omega) hL (by omega) (by omega)
  have l3 := (mo_all tc (L.length + 4) j (L ++ [[], [], [], s]) r L.length (a + ln qa + 1 + ln qb + 2 + 6) _ dm4.ch (hf2.right.mo (((m2.tr0 dm2).tr0 km).tr0 dm4))).ln
  have h3 := b3.tl
  generalize cmp tc (L.length + 4) ((j, L ++ [[], [], [], s]) :: r) L.length (a + ln qa + 1 + ln qb + 2 + 6) (declF j (L.length + 4) o.2) = qc at *
  refine ⟨b3.bd, ?_, fun x hx => ((((b1.ops x hx).app (.cons (show 6 < 256 by decide) (by show L.length < _; omega) .nil)).app (b2.ops x hx)).app (.cons (show 6 < 256 by decide) (by show L.length + 1 < _; omega) (.cons (show 1 < 256 by decide) (by show o.1 < _; omega) .nil))).app (numTail_ops (by omega) (by rw [l3]; omega) (b3.ops _ (by omega)))⟩
  rw [hn]
  show tot qc.2 + 3 * List.length (qa.1 0 ++ [_] ++ qb.1 0 ++ [_, _] ++ numTail _ _ _) + 0 ≤ _
  rw [List.length_append, List.length_append, List.length_append, List.length_append, numTail_len, l3]
  simp only [List.length_cons, List.length_nil]
  show _ + 3 * (ln qa + (0 + 1) + ln qb + (0 + 1 + 1) + (ln qc + 13)) + _ ≤ _
  omega
theorem bd_for3 {s : Str} {ta tb td tc : Tr} (ha : BdC ta 3 0 false) (hb : BdC tb 3 0 false) (hdd : BdC td 3 0 false) (hd : BdC tc 0 3 true) : BdC (St.for3 s ta tb td tc) 0 0 lp := fun md j L r base a S hc hf hB hw hL hbs hmd hbu => by
  have hw : NmW s ∧ L.length + 4 ≤ 12 ∧ dE ta ≤ 128 ∧ dE tb ≤ 128 ∧ dE td ≤ 128 ∧ W ta false L.length ∧ W tb false (L.length + 1) ∧ W td false (L.length + 2) ∧ W tc true (L.length + 4) := hw
  have hn : ndT (St.for3 s ta tb td tc) = 1 + ndT ta + ndT tb + ndT td + ndT tc := rfl
  have hf : Fit S j r (numsT ta ++ (numsT tb ++ (numsT td ++ numsT tc))) := hf
  have b1 := ha 0 j L r 0 a S hc hf.left hB hw.2.2.2.2.2.1 hL (by omega) (by omega) (by omega)
  have m1 := (mo_all ta 0 j L r 0 a S hc hf.left).mo
  have h1 := b1.tl
  have e0 : (cmp (St.for3 s ta tb td tc) md ((j, L) :: r) base a S) = ((let q := cmp ta 0 ((j, L) :: r) 0 a S
     let q2 := cmp tb 0 ((j, L ++ [[]]) :: r) 0 (a + ln q + 1) (declF j (L.length + 1) q.2)
     let q4 := cmp td 0 ((j, L ++ [[], []]) :: r) 0 (a + ln q + 1 + ln q2 + 1) (declF j (L.length + 2) q2.2)
     let q3 := cmp tc (L.length + 4) ((j, L ++ [[], [], [], s]) :: r) L.length (a + ln q + 1 + ln q2 + 1 + ln q4 + 6) (declF j (L.length + 4) q4.2)
     (fun x => q.1 x ++ [(6, L.length)] ++ q2.1 x ++ [(6, L.length + 1)] ++ q4.1 x ++ numTail L.length (a + ln q + 1 + ln q2 + 1 + ln q4) (q3.1 (a + ln q + 1 + ln q2 + 1 + ln q4 + 6 + ln q3 + 6)), q3.2)) : Out) := rfl
  dsimp only at e0
  rw [e0]
  clear e0
  generalize cmp ta 0 ((j, L) :: r) 0 a S = qa at *
  have hl1 : j < qa.2.length := by rw [m1.len]; exact hf.ltj
  have dm1 := declF_mo (n := L.length + 1) hl1 m1.ch
  obtain ⟨d1, d1'⟩ := declF_bd (n := L.length + 1) b1.bd hl1 (by omega)
  have hf2 := hf.right.mo (m1.tr0 dm1)
  have hl_1 : (L ++ [[]]).length = L.length + 1 := by simp
  have hl_2 : (L ++ [[], []]).length = L.length + 2 := by simp
  have hl_4 : (L ++ [[], [], [], s]).length = L.length + 4 := by simp
  have b2 := hb 0 j (L ++ [[]]) r 0 (a + ln qa + 1) _ dm1.ch hf2.left d1 (by rw [hl_1]; exact hw.2.2.2.2.2.2.1) (by omega) (by omega) (by omega) (by omega)
  have m2 := (mo_all tb 0 j (L ++ [[]]) r 0 (a + ln qa + 1) _ dm1.ch hf2.left).mo
  have h2 := b2.tl
  generalize cmp tb 0 ((j, L ++ [[]]) :: r) 0 (a + ln qa + 1) (declF j (L.length + 1) qa.2) = qb at *
  have hl2 : j < qb.2.length := by rw [m2.len]; exact hf2.ltj
  have dm2 := declF_mo (n := L.length + 2) hl2 m2.ch
  obtain ⟨d2, d2'⟩ := declF_bd (n := L.length + 2) b2.bd hl2 (by omega)
  have hf3 := hf2.right.mo (m2.tr0 dm2)
  have b4 := hdd 0 j (L ++ [[], []]) r 0 (a + ln qa + 1 + ln qb + 1) _ dm2.ch hf3.left d2 (by rw [hl_2]; exact hw.2.2.2.2.2.2.2.1) (by omega) (by omega) (by omega) (by omega)
  have m4 := (mo_all td 0 j (L ++ [[], []]) r 0 (a + ln qa + 1 + ln qb + 1) _ dm2.ch hf3.left).mo
  have h4 := b4.tl
  generalize cmp td 0 ((j, L ++ [[], []]) :: r) 0 (a + ln qa + 1 + ln qb + 1) (declF j (L.length + 2) qb.2) = qd at *
  have hlo : j < qd.2.length := by rw [m4.len]; exact hf3.ltj
  have dm4 := declF_mo (n := L.length + 4) hlo m4.ch
  obtain ⟨d4, d4'⟩ := declF_bd (n := L.length + 4) b4.bd hlo (by omega)
  have b3 := hd (L.length + 4) j (L ++ [[], [], [], s]) r L.length (a + ln qa + 1 + ln qb + 1 + ln qd + 6) _ dm4.ch (hf3.right.mo (m4.tr0 dm4)) d4 (by rw [hl_4]; exact hw.2.2.2.2.2.2.2.2) (by omega) hL (by omega) (by omega)
  have l3 := (mo_all tc (L.length + 4) j (L ++ [[], [], [], s]) r L.length (a + ln qa + 1 + ln qb + 1 + ln qd + 6) _ dm4.ch (hf3.right.mo (m4.tr0 dm4))).ln
  have h3 := b3.tl
  generalize cmp tc (L.length + 4) ((j, L ++ [[], [], [], s]) :: r) L.length (a + ln qa + 1 + ln qb + 1 + ln qd + 6) (declF j (L.length + 4) qd.2) = qc at *
  refine ⟨b3.bd, ?_, fun x hx => (((((b1.ops x hx).app (.cons (show 6 < 256 by decide) (by show L.length < _; omega) .nil)).app (b2.ops x hx)).app (.cons (show 6 < 256 by decide) (by show L.length + 1 < _; omega) .nil)).app (b4.ops x hx)).app (numTail_ops (by omega) (by rw [l3]; omega) (b3.ops _ (by omega)))⟩
  rw [hn]
  show tot qc.2 + 3 * List.length (qa.1 0 ++ [_] ++ qb.1 0 ++ [_] ++ qd.1 0 ++ numTail _ _ _) + 0 ≤ _
  rw [List.length_append, List.length_append, List.length_append, List.length_append, List.length_append, numTail_len, l3]
  simp only [List.length_cons, List.length_nil]
  show _ + 3 * (ln qa + (0 + 1) + ln qb + (0 + 1) + ln qd + (ln qc + 13)) + _ ≤ _
  omega
end

end Go.Proofs.Qxb6500568aGreatDoor
