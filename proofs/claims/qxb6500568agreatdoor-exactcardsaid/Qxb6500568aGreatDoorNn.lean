import Derived.Test.Qxb6500568aGreatDoorNm
namespace Go.Proofs.Qxb6500568aGreatDoor
open Ieee
set_option linter.unusedVariables false
set_option linter.unusedSimpArgs false
set_option linter.unusedSectionVars false

/-! Bounds of the statements' code. -/

section
variable {S : Fns} {j : Nat} {L : List Str} {r : Chn} {base a md : Nat} {lp : Bool}

theorem bd_loc {s : Str} : BdC (St.loc s) 0 0 lp := fun md j L r base a S hc hf hB hw hL hbs hmd hbu => by
  have hw : NmW s ∧ L.length + 1 ≤ 12 := hw
  obtain ⟨d1, d2⟩ := declF_bd hB hf.ltj hw.2
  refine ⟨d1, ?_, fun x hx => .cons (show 2 < 256 by decide) lt0 (.cons (show 6 < 256 by decide) (by show L.length < _; omega) .nil)⟩
  show tot (declF j (L.length + 1) S) + 3 * 2 + 0 ≤ tot S + 100 * 1 + 0; omega
theorem bd_locV {s : Str} {v : Tr} (hv : BdC v 3 0 false) : BdC (St.locV s v) 0 0 lp := fun md j L r base a S hc hf hB hw hL hbs hmd hbu => by
  have hw : NmW s ∧ L.length + 1 ≤ 12 ∧ dE v ≤ 128 ∧ W v false L.length := hw
  have hn : ndT (St.locV s v) = 1 + ndT v := rfl
  have b := hv 0 j L r 0 a S hc hf hB hw.2.2.2 hL (by omega) (by omega) (by omega)
  have h1 := b.tl
  have m := (mo_all v 0 j L r 0 a S hc hf).mo
  obtain ⟨d1, d2⟩ := declF_bd (n := L.length + 1) b.bd (by rw [m.len]; exact hf.ltj) hw.2.1
  refine ⟨d1, ?_, fun x hx => (b.ops x hx).app (.cons (show 6 < 256 by decide) (by show L.length < _; omega) .nil)⟩
  rw [hn]
  show tot (declF j (L.length + 1) (cmp v 0 ((j, L) :: r) 0 a S).2) + 3 * List.length (_ ++ [_]) + 0 ≤ _
  rw [List.length_append, List.length_cons, List.length_nil]
  show _ + 3 * (ln (cmp v 0 ((j, L) :: r) 0 a S) + (0 + 1)) + _ ≤ _
  omega
theorem bd_setN {s : Str} {v : Tr} (hv : BdC v 3 0 false) : BdC (St.setN s v) 0 0 lp := fun md j L r base a S hc hf hB hw hL hbs hmd hbu => by
  have hw : NmW s ∧ dE v ≤ 128 ∧ W v false L.length := hw
  have hn : ndT (St.setN s v) = 2 + ndT v := rfl
  have b := hv 0 j L r 0 a S hc hf hB hw.2.2 hL (by omega) (by omega) (by omega)
  have h1 := b.tl
  have m := (mo_all v 0 j L r 0 a S hc hf).mo
  obtain ⟨d1, d2, d3⟩ := varF_bd (l := 6) (u := 8) (g := 10) (L := L) (nm := s) b.bd m.ch (hf.mo m).nil hL hw.1.2 (by omega) (by decide)
  refine ⟨d1, ?_, fun x hx => (b.ops x hx).app d3⟩
  rw [hn]
  show tot (varF 6 8 10 ((j, L) :: r) s (cmp v 0 ((j, L) :: r) 0 a S).2).2 + 3 * List.length (_ ++ [_]) + 0 ≤ _
  rw [List.length_append, List.length_cons, List.length_nil]
  show _ + 3 * (ln (cmp v 0 ((j, L) :: r) 0 a S) + (0 + 1)) + _ ≤ _
  omega
theorem bd_ret1 {v : Tr} (hv : BdC v 3 0 false) : BdC (St.ret1 v) 0 0 lp := fun md j L r base a S hc hf hB hw hL hbs hmd hbu => by
  have hw : dE v ≤ 127 ∧ W v false L.length := hw
  have hn : ndT (St.ret1 v) = 1 + ndT v := rfl
  have b := hv 0 j L r 0 a S hc hf hB hw.2 hL (by omega) (by omega) (by omega)
  have h1 := b.tl
  refine ⟨b.bd, ?_, fun x hx => (b.ops x hx).app (.cons (show 2 < 256 by decide) lt0 (.cons (show 27 < 256 by decide) lt0 .nil))⟩
  rw [hn]
  show tot (cmp v 0 ((j, L) :: r) 0 a S).2 + 3 * List.length (_ ++ [_, _]) + 0 ≤ _
  rw [List.length_append, List.length_cons, List.length_cons, List.length_nil]
  show _ + 3 * (ln (cmp v 0 ((j, L) :: r) 0 a S) + (0 + 1 + 1)) + _ ≤ _
  omega
theorem bd_ret0 : BdC St.ret0 0 0 lp := fun md j L r base a S hc hf hB hw hL hbs hmd hbu =>
  ⟨hB, by show tot S + 3 * 3 + 0 ≤ tot S + 100 * 1 + 0; omega, fun x hx => .cons (show 2 < 256 by decide) lt0 (.cons (show 2 < 256 by decide) lt0 (.cons (show 27 < 256 by decide) lt0 .nil))⟩
theorem bd_brk : BdC St.brk 0 0 lp := fun md j L r base a S hc hf hB hw hL hbs hmd hbu => by
  have e0 : cmp St.brk md ((j, L) :: r) base a S = (fun x => (if base < L.length then [(29, base), (21, x)] else [(21, x)]), S) := rfl
  rw [e0]
  have hn : ndT St.brk = 1 := rfl
  refine ⟨hB, ?_, fun x hx => ?_⟩
  · show tot S + 3 * List.length (if base < L.length then [(29, base), (21, 0)] else [(21, 0)]) + 0 ≤ _
    rw [hn]
    split
    · simp only [List.length_cons, List.length_nil]; omega
    · simp only [List.length_cons, List.length_nil]; omega
  · show OpsOK (if base < L.length then [(29, base), (21, x)] else [(21, x)])
    split
    · exact .cons (show 29 < 256 by decide) (by show base < _; omega) (.cons (show 21 < 256 by decide) hx .nil)
    · exact .cons (show 21 < 256 by decide) hx .nil
theorem bd_ret2 {ta tb : Tr} (ha : BdC ta 3 0 false) (hb : BdC tb 3 0 false) : BdC (St.ret2 ta tb) 0 0 lp := fun md j L r base a S hc hf hB hw hL hbs hmd hbu => by
  have hw : dE ta ≤ 128 ∧ 1 + dE tb ≤ 128 ∧ W ta false L.length ∧ W tb false L.length := hw
  exact bd_two (t := St.ret2 ta tb) (k := 1) (d := [(27, 0)]) ha hb rfl (by decide) (.cons (by decide) (by decide) .nil) hc hf hB hw.2.2.1 hw.2.2.2 hL hbu
theorem bd_scall {ta tb : Tr} (ha : BdC ta 3 0 false) (hb : BdC tb 0 0 false) : BdC (St.call ta tb) 0 0 lp := fun md j L r base a S hc hf hB hw hL hbs hmd hbu => by
  have hw : CallW ta tb ∧ W ta false L.length ∧ W tb false L.length := hw
  have h3 := hw.1.2
  exact bd_two (t := St.call ta tb) (k := 2) (d := [(26, lenE tb), (25, 0), (25, 0)]) ha hb rfl (by simp) (.cons (show 26 < 256 by decide) (by show lenE tb < _; omega) (.cons (show 25 < 256 by decide) lt0 (.cons (show 25 < 256 by decide) lt0 .nil))) hc hf hB hw.2.1 hw.2.2 hL hbu
theorem bd_loc2 {s t : Str} {ta tb : Tr} (ha : BdC ta 3 0 false) (hb : BdC tb 0 0 false) : BdC (St.loc2 s t ta tb) 0 0 lp := fun md j L r base a S hc hf hB hw hL hbs hmd hbu => by
  have hw : NmW s ∧ NmW t ∧ L.length + 2 ≤ 12 ∧ CallW ta tb ∧ W ta false L.length ∧ W tb false L.length := hw
  have h3 := hw.2.2.2.1.2
  have b := bd_two (t := St.loc2 s t ta tb) (k := 4) (s := 0) (d := [(26, lenE tb), (6, L.length + 1), (6, L.length)]) ha hb rfl (by simp) (.cons (show 26 < 256 by decide) (by show lenE tb < _; omega) (.cons (show 6 < 256 by decide) (by show L.length + 1 < _; omega) (.cons (show 6 < 256 by decide) (by show L.length < _; omega) .nil))) hc hf hB hw.2.2.2.2.1 hw.2.2.2.2.2 hL hbu
  obtain ⟨-, -, m⟩ := seq2 (a := a) ha hb 0 0 hc hf hB hw.2.2.2.2.1 hw.2.2.2.2.2 hL (by have : ndT (St.loc2 s t ta tb) = 4 + ndT ta + ndT tb := rfl; omega) (by have : ndT (St.loc2 s t ta tb) = 4 + ndT ta + ndT tb := rfl; omega) (by have : ndT (St.loc2 s t ta tb) = 4 + ndT ta + ndT tb := rfl; omega)
  rw [Nat.add_zero] at m
  obtain ⟨d1, d2⟩ := declF_bd (n := L.length + 2) b.bd (by show j < List.length (cmp tb 0 ((j, L) :: r) 0 (a + ln (cmp ta 0 ((j, L) :: r) 0 a S)) (cmp ta 0 ((j, L) :: r) 0 a S).2).2; rw [m.len]; exact hf.ltj) hw.2.2.1
  have h4 := b.tl
  exact ⟨d1, Nat.le_trans (Nat.add_le_add_right (Nat.add_le_add_right d2 _) _) h4, b.ops⟩
theorem bd_locFn {s : Str} {n : Nat} {ps : List Str} {b : Tr} (hb : BdC b 0 3 false) : BdC (St.locFn s n ps b) 0 0 lp := fun md j L r base a S hc hf hB hw hL hbs hmd hbu => by
  have hw : NmW s ∧ L.length + 1 ≤ 12 ∧ FnW n ps ∧ W b false ps.length := hw
  have hn : ndT (St.locFn s n ps b) = 2 + ps.length + ndT b := rfl
  have hf : Fit S j r (n :: numsT b) := hf
  have m := declF_mo (n := L.length + 1) hf.ltj hc
  obtain ⟨d1, d2⟩ := declF_bd hB hf.ltj hw.2.1
  obtain ⟨g1, g2⟩ := fnF_bd (L := L ++ [s]) hb hw.2.2.1 hw.2.2.2 m.ch (hf.mo m) d1 (by simp; omega) (by omega)
  have hl : n < S.length := hf.lt n (by simp)
  have hS := hB.n
  refine ⟨g1, ?_, fun x hx => .cons (show 28 < 256 by decide) (by show n < _; omega) (.cons (show 6 < 256 by decide) (by show L.length < _; omega) .nil)⟩
  rw [hn]
  show tot (fnF n ps ((j, L ++ [s]) :: r) (fun md ch b' a S => cmp b md ch b' a S) (declF j (L.length + 1) S)) + 3 * 2 + 0 ≤ _
  omega
theorem bd_nilB : BdC StL.nil 0 3 lp := fun md j L r base a S hc hf hB hw hL hbs hmd hbu => by
  have e0 : cmp StL.nil md ((j, L) :: r) base a S = (fun _ => (if md < L.length then [(29, md)] else []), S) := rfl
  rw [e0]
  refine ⟨hB, ?_, fun x hx => ?_⟩
  · show tot S + 3 * List.length (if md < L.length then [(29, md)] else []) + 0 ≤ _
    split
    · simp only [List.length_cons, List.length_nil]; omega
    · simp only [List.length_nil]; omega
  · show OpsOK (if md < L.length then [(29, md)] else [])
    split
    · exact .cons (show 29 < 256 by decide) (by show md < _; omega) .nil
    · exact .nil
theorem aftN_len (L : List Str) (t : Tr) : (aftS L t).length = aftN L.length t := by
  unfold aftS aftN
  split
  · simp
  · split <;> simp
theorem bd_consB {ta tb : Tr} (ha : BdC ta 0 0 lp) (hb : BdC tb 0 3 lp) (hle : ∀ n, W ta lp n → n ≤ 12 → aftN n ta ≤ 12) : BdC (StL.cons ta tb) 0 3 lp := fun md j L r base a S hc hf hB hw hL hbs hmd hbu => by
  have hw : W ta lp L.length ∧ W tb lp (aftN L.length ta) := hw
  have hn : ndT (StL.cons ta tb) = 0 + ndT ta + ndT tb := rfl
  have hf : Fit S j r (numsT ta ++ numsT tb) := hf
  have b1 := ha 0 j L r base a S hc hf.left hB hw.1 hL hbs (by omega) (by omega)
  have m1 := (mo_all ta 0 j L r base a S hc hf.left).mo
  have h1 := b1.tl
  have b2 := hb md j (aftS L ta) r base (a + ln (cmp ta 0 ((j, L) :: r) base a S)) _ m1.ch (hf.right.mo m1) b1.bd (by rw [aftN_len]; exact hw.2) (by rw [aftN_len]; exact hle _ hw.1 hL) hbs (by omega) (by omega)
  have h2 := b2.tl
  refine ⟨b2.bd, ?_, fun x hx => (b1.ops x hx).app (b2.ops x hx)⟩
  rw [hn]
  show tot (cmp tb md ((j, aftS L ta) :: r) base (a + ln (cmp ta 0 ((j, L) :: r) base a S)) (cmp ta 0 ((j, L) :: r) base a S).2).2 + 3 * List.length (_ ++ _) + 0 ≤ _
  rw [List.length_append]
  show _ + 3 * (ln (cmp ta 0 ((j, L) :: r) base a S) + ln (cmp tb md ((j, aftS L ta) :: r) base (a + ln (cmp ta 0 ((j, L) :: r) base a S)) (cmp ta 0 ((j, L) :: r) base a S).2)) + _ ≤ _
  omega
theorem bd_whl {ta tb : Tr} (ha : BdC ta 3 0 false) (hb : BdC tb 0 3 true) : BdC (St.whl ta tb) 0 0 lp := fun md j L r base a S hc hf hB hw hL hbs hmd hbu => by
  have hw : dE ta ≤ 128 ∧ W ta false L.length ∧ W tb true L.length := hw
  have hn : ndT (St.whl ta tb) = 1 + ndT ta + ndT tb := rfl
  have hf : Fit S j r (numsT ta ++ numsT tb) := hf
  have b1 := ha 0 j L r 0 a S hc hf.left hB hw.2.1 hL (by omega) (by omega) (by omega)
  have m1 := (mo_all ta 0 j L r 0 a S hc hf.left).mo
  have h1 := b1.tl
  have b2 := hb L.length j L r L.length (a + ln (cmp ta 0 ((j, L) :: r) 0 a S) + 1) _ m1.ch (hf.right.mo m1) b1.bd hw.2.2 hL hL (by omega) (by omega)
  have l2 := (mo_all tb L.length j L r L.length (a + ln (cmp ta 0 ((j, L) :: r) 0 a S) + 1) _ m1.ch (hf.right.mo m1)).ln
  have h2 := b2.tl
  have e0 : cmp (St.whl ta tb) md ((j, L) :: r) base a S = (fun x => (cmp ta 0 ((j, L) :: r) 0 a S).1 x ++ [(22, a + ln (cmp ta 0 ((j, L) :: r) 0 a S) + 1 + ln (cmp tb L.length ((j, L) :: r) L.length (a + ln (cmp ta 0 ((j, L) :: r) 0 a S) + 1) (cmp ta 0 ((j, L) :: r) 0 a S).2) + 1)] ++ (cmp tb L.length ((j, L) :: r) L.length (a + ln (cmp ta 0 ((j, L) :: r) 0 a S) + 1) (cmp ta 0 ((j, L) :: r) 0 a S).2).1 (a + ln (cmp ta 0 ((j, L) :: r) 0 a S) + 1 + ln (cmp tb L.length ((j, L) :: r) L.length (a + ln (cmp ta 0 ((j, L) :: r) 0 a S) + 1) (cmp ta 0 ((j, L) :: r) 0 a S).2) + 1) ++ [(21, a)], (cmp tb L.length ((j, L) :: r) L.length (a + ln (cmp ta 0 ((j, L) :: r) 0 a S) + 1) (cmp ta 0 ((j, L) :: r) 0 a S).2).2) := rfl
  rw [e0]
  clear e0
  generalize cmp ta 0 ((j, L) :: r) 0 a S = qa at *
  generalize cmp tb L.length ((j, L) :: r) L.length (a + ln qa + 1) qa.2 = qb at *
  refine ⟨b2.bd, ?_, fun x hx => (((b1.ops x hx).app (.cons (show 22 < 256 by decide) (by show _ + 1 < _; omega) .nil)).app (b2.ops _ (by omega))).app (.cons (show 21 < 256 by decide) (by show a < _; omega) .nil)⟩
  rw [hn]
  show tot qb.2 + 3 * List.length (qa.1 0 ++ [_] ++ qb.1 _ ++ [_]) + 0 ≤ _
  rw [List.length_append, List.length_append, List.length_append, l2, List.length_cons, List.length_nil, List.length_cons, List.length_nil]
  show _ + 3 * (ln qa + (0 + 1) + ln qb + (0 + 1)) + _ ≤ _
  omega
theorem bd_forIn {s t : Str} {ta tb : Tr} (ha : BdC ta 3 0 false) (hb : BdC tb 0 3 true) : BdC (St.forIn s t ta tb) 0 0 lp := fun md j L r base a S hc hf hB hw hL hbs hmd hbu => by
  have hw : NmW s ∧ NmW t ∧ L.length + 4 ≤ 12 ∧ dE ta ≤ 128 ∧ W ta false L.length ∧ W tb true (L.length + 4) := hw
  have hn : ndT (St.forIn s t ta tb) = 3 + ndT ta + ndT tb := rfl
  have hf : Fit S j r (numsT ta ++ numsT tb) := hf
  have b1 := ha 0 j L r 0 a S hc hf.left hB hw.2.2.2.2.1 hL (by omega) (by omega) (by omega)
  have m1 := (mo_all ta 0 j L r 0 a S hc hf.left).mo
  have hlt : j < (cmp ta 0 ((j, L) :: r) 0 a S).2.length := by rw [m1.len]; exact hf.ltj
  obtain ⟨d1, d2⟩ := declF_bd (n := L.length + 4) b1.bd hlt hw.2.2.1
  have dm := declF_mo (n := L.length + 4) hlt m1.ch
  have h1 := b1.tl
  have hl4 : (L ++ [[], [], s, t]).length = L.length + 4 := by simp
  have b2 := hb (L.length + 4) j (L ++ [[], [], s, t]) r L.length (a + ln (cmp ta 0 ((j, L) :: r) 0 a S) + 5) _ dm.ch (hf.right.mo (m1.tr0 dm)) d1 (by rw [hl4]; exact hw.2.2.2.2.2) (by rw [hl4]; exact hw.2.2.1) hL (by omega) (by omega)
  have l2 := (mo_all tb (L.length + 4) j (L ++ [[], [], s, t]) r L.length (a + ln (cmp ta 0 ((j, L) :: r) 0 a S) + 5) _ dm.ch (hf.right.mo (m1.tr0 dm))).ln
  have h2 := b2.tl
  have e0 : cmp (St.forIn s t ta tb) md ((j, L) :: r) base a S = (fun x => (cmp ta 0 ((j, L) :: r) 0 a S).1 x ++ [(6, L.length), (2, 0), (6, L.length + 1), (32, L.length), (22, a + ln (cmp ta 0 ((j, L) :: r) 0 a S) + 5 + ln (cmp tb (L.length + 4) ((j, L ++ [[], [], s, t]) :: r) L.length (a + ln (cmp ta 0 ((j, L) :: r) 0 a S) + 5) (declF j (L.length + 4) (cmp ta 0 ((j, L) :: r) 0 a S).2)) + 2)] ++ (cmp tb (L.length + 4) ((j, L ++ [[], [], s, t]) :: r) L.length (a + ln (cmp ta 0 ((j, L) :: r) 0 a S) + 5) (declF j (L.length + 4) (cmp ta 0 ((j, L) :: r) 0 a S).2)).1 (a + ln (cmp ta 0 ((j, L) :: r) 0 a S) + 5 + ln (cmp tb (L.length + 4) ((j, L ++ [[], [], s, t]) :: r) L.length (a + ln (cmp ta 0 ((j, L) :: r) 0 a S) + 5) (declF j (L.length + 4) (cmp ta 0 ((j, L) :: r) 0 a S).2)) + 2) ++ [(29, L.length + 2), (21, a + ln (cmp ta 0 ((j, L) :: r) 0 a S) + 3), (29, L.length)], (cmp tb (L.length + 4) ((j, L ++ [[], [], s, t]) :: r) L.length (a + ln (cmp ta 0 ((j, L) :: r) 0 a S) + 5) (declF j (L.length + 4) (cmp ta 0 ((j, L) :: r) 0 a S).2)).2) := rfl
  rw [e0]
  clear e0
  generalize cmp ta 0 ((j, L) :: r) 0 a S = qa at *
  generalize cmp tb (L.length + 4) ((j, L ++ [[], [], s, t]) :: r) L.length (a + ln qa + 5) (declF j (L.length + 4) qa.2) = qb at *
  refine ⟨b2.bd, ?_, fun x hx => (((b1.ops x hx).app (.cons (show 6 < 256 by decide) (by show L.length < _; omega) (.cons (show 2 < 256 by decide) lt0 (.cons (show 6 < 256 by decide) (by show L.length + 1 < _; omega) (.cons (show 32 < 256 by decide) (by show L.length < _; omega) (.cons (show 22 < 256 by decide) (by show _ + 2 < _; omega) .nil)))))).app (b2.ops _ (by omega))).app (.cons (show 29 < 256 by decide) (by show L.length + 2 < _; omega) (.cons (show 21 < 256 by decide) (by show _ + 3 < _; omega) (.cons (show 29 < 256 by decide) (by show L.length < _; omega) .nil)))⟩
  rw [hn]
  show tot qb.2 + 3 * List.length (qa.1 0 ++ [_, _, _, _, _] ++ qb.1 _ ++ [_, _, _]) + 0 ≤ _
  rw [List.length_append, List.length_append, List.length_append, l2]
  simp only [List.length_cons, List.length_nil]
  show _ + 3 * (ln qa + (0 + 1 + 1 + 1 + 1 + 1) + ln qb + (0 + 1 + 1 + 1)) + _ ≤ _
  omega
end

end Go.Proofs.Qxb6500568aGreatDoor
