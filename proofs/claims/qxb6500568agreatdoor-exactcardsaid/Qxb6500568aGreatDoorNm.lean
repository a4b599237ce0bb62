import Derived.Test.Qxb6500568aGreatDoorNl
namespace Go.Proofs.Qxb6500568aGreatDoor
open Ieee
set_option linter.unusedVariables false
set_option linter.unusedSimpArgs false
set_option linter.unusedSectionVars false

/-! Bounds of the code: a hundred bytes for each node of the tree. -/

/-- the nodes that a tree takes in the arena. -/
def ndT : Tr → Nat
  | ⟨c, _, _, _, _, []⟩ => if c = 12 then 0 else if c = 30 then 0 else 1
  | ⟨c, _, _, _, ps, [a]⟩ => (if c = 6 then 1 + ps.length else if c = 17 then 2 + ps.length else if c = 18 then 2 else 1) + ndT a
  | ⟨c, _, _, _, _, [a, b]⟩ => (if c = 13 then 0 else if c = 31 then 0 else if c = 16 then 4 else if c = 20 then 2 else if c = 25 then 3 else 1) + ndT a + ndT b
  | ⟨c, _, _, _, _, [a, b, d]⟩ => (if c = 19 then 2 else 1) + ndT a + ndT b + ndT d
  | ⟨_, _, _, _, _, [a, b, d, e]⟩ => 1 + ndT a + ndT b + ndT d + ndT e
  | _ => 0

structure BC (N s e : Nat) (S : Fns) (j : Nat) (r : Chn) (q : Out) : Prop where
  bd : BD q.2 j r
  tl : tot q.2 + 3 * ln q + s ≤ tot S + 100 * N + e
  ops : ∀ x, x < 65535 → OpsOK (q.1 x)
/-- s: bytes that are left over; e: bytes beyond the nodes. -/
def BdC (t : Tr) (s e : Nat) (lp : Bool) : Prop := ∀ (md j : Nat) (L : List Str) (r : Chn) (base a : Nat) (S : Fns), ChOK S j r → Fit S j r (numsT t) → BD S j r → W t lp L.length → L.length ≤ 12 → base ≤ 12 → md + ndT t ≤ 60000 →
  tot S + 3 * a + 100 * ndT t + e ≤ 31000 → BC (ndT t) s e S j r (cmp t md ((j, L) :: r) base a S)
theorem lt0 : (0 : Nat) < 65535 := by decide

section
variable {S : Fns} {j : Nat} {L : List Str} {r : Chn} {base a md : Nat} {lp : Bool}

theorem bd_lit {k : Nat} (hk : k = 12 ∨ k = 13 ∨ k = 14) : BdC (Ex.lit k) 3 0 lp := fun md j L r base a S hc hf hb hw hL hbs hmd hbu =>
  ⟨hb, by show tot S + 3 * 1 + 3 ≤ tot S + 100 * 1 + 0; omega, fun x hx => .cons (by show k - 10 < 256; omega) lt0 .nil⟩
theorem bd_num {k : Nat} : BdC (Ex.num k) 3 0 lp := fun md j L r base a S hc hf hb hw hL hbs hmd hbu => by
  have hw : W64 k ∧ (isNaNW k = true → k = nanB) := hw
  obtain ⟨c1, c2, c3⟩ := conF_bd (v := vNum k) hb hf.ltj (.inl ⟨k, rfl, hw⟩)
  have hkb : kb (vNum k) = 9 := rfl
  refine ⟨c1, ?_, fun x hx => .cons (show 1 < 256 by decide) ?_ .nil⟩
  · show tot (conF j (vNum k) S).2 + 3 * 1 + 3 ≤ tot S + 100 * 1 + 0; omega
  · show (conF j (vNum k) S).1 < 65535; omega
theorem bd_str {s : Str} : BdC (Ex.str s) 3 0 lp := fun md j L r base a S hc hf hb hw hL hbs hmd hbu => by
  have hw : s.length ≤ 40 := hw
  obtain ⟨c1, c2, c3⟩ := conF_bd (v := vStr s) hb hf.ltj (.inr ⟨s, rfl, hw⟩)
  have hkb : kb (vStr s) = 2 + s.length := rfl
  refine ⟨c1, ?_, fun x hx => .cons (show 1 < 256 by decide) ?_ .nil⟩
  · show tot (conF j (vStr s) S).2 + 3 * 1 + 3 ≤ tot S + 100 * 1 + 0; omega
  · show (conF j (vStr s) S).1 < 65535; omega
theorem bd_name {s : Str} : BdC (Ex.name s) 3 0 lp := fun md j L r base a S hc hf hb hw hL hbs hmd hbu => by
  have hw : NmW s := hw
  obtain ⟨c1, c2, c3⟩ := varF_bd (l := 5) (u := 7) (g := 9) (L := L) (nm := s) hb hc hf hL hw.2 (by omega) (by decide)
  refine ⟨c1, ?_, fun x hx => c3⟩
  show tot (varF 5 7 9 ((j, L) :: r) s S).2 + 3 * 1 + 3 ≤ tot S + 100 * 1 + 0; omega

/-- two pieces, one behind the other. -/
theorem seq2 {ta tb : Tr} {sa sb : Nat} (ha : BdC ta sa 0 false) (hb : BdC tb sb 0 false) (c md2 : Nat) (hc : ChOK S j r) (hf : Fit S j r (numsT ta ++ numsT tb)) (hB : BD S j r) (wa : W ta false L.length) (wb : W tb false L.length) (hL : L.length ≤ 12) (hm : md2 + ndT tb ≤ 60000)
    (hbu : tot S + 3 * a + 100 * ndT ta + 100 * ndT tb + 3 * c ≤ 31000 + sa) (hbu1 : tot S + 3 * a + 100 * ndT ta ≤ 31000) :
    BC (ndT ta) sa 0 S j r (cmp ta 0 ((j, L) :: r) 0 a S) ∧ BC (ndT tb) sb 0 (cmp ta 0 ((j, L) :: r) 0 a S).2 j r (cmp tb md2 ((j, L) :: r) 0 (a + ln (cmp ta 0 ((j, L) :: r) 0 a S) + c) (cmp ta 0 ((j, L) :: r) 0 a S).2) ∧
    Mo j r (numsT ta ++ numsT tb) S (cmp tb md2 ((j, L) :: r) 0 (a + ln (cmp ta 0 ((j, L) :: r) 0 a S) + c) (cmp ta 0 ((j, L) :: r) 0 a S).2).2 := by
  have b1 := ha 0 j L r 0 a S hc hf.left hB wa hL (by omega) (by omega) (by omega)
  have m1 := (mo_all ta 0 j L r 0 a S hc hf.left).mo
  have h1 := b1.tl
  have b2 := hb md2 j L r 0 (a + ln (cmp ta 0 ((j, L) :: r) 0 a S) + c) _ m1.ch (hf.right.mo m1) b1.bd wb hL (by omega) (by omega) (by omega)
  exact ⟨b1, b2, m1.trans (mo_all tb md2 j L r 0 (a + ln (cmp ta 0 ((j, L) :: r) 0 a S) + c) _ m1.ch (hf.right.mo m1)).mo⟩
theorem bd_two {ta tb t : Tr} {k sa sb s : Nat} {d : Cod} (ha : BdC ta sa 0 false) (hb : BdC tb sb 0 false) (hn : ndT t = k + ndT ta + ndT tb) (hd : 3 * d.length + s ≤ 100 * k + sa + sb) (ho : OpsOK d)
    (hc : ChOK S j r) (hf : Fit S j r (numsT ta ++ numsT tb)) (hB : BD S j r) (wa : W ta false L.length) (wb : W tb false L.length) (hL : L.length ≤ 12) (hbu : tot S + 3 * a + 100 * ndT t + 0 ≤ 31000) :
    BC (ndT t) s 0 S j r (fun x => (cmp ta 0 ((j, L) :: r) 0 a S).1 x ++ (cmp tb 0 ((j, L) :: r) 0 (a + ln (cmp ta 0 ((j, L) :: r) 0 a S)) (cmp ta 0 ((j, L) :: r) 0 a S).2).1 x ++ d, (cmp tb 0 ((j, L) :: r) 0 (a + ln (cmp ta 0 ((j, L) :: r) 0 a S)) (cmp ta 0 ((j, L) :: r) 0 a S).2).2) := by
  obtain ⟨b1, b2, -⟩ := seq2 (a := a) ha hb 0 0 hc hf hB wa wb hL (by omega) (by omega) (by omega)
  have h1 := b1.tl
  have h2 := b2.tl
  rw [Nat.add_zero] at h2 b2
  refine ⟨b2.bd, ?_, fun x hx => ((b1.ops x hx).app (b2.ops x hx)).app ho⟩
  have e : ln (fun x => (cmp ta 0 ((j, L) :: r) 0 a S).1 x ++ (cmp tb 0 ((j, L) :: r) 0 (a + ln (cmp ta 0 ((j, L) :: r) 0 a S)) (cmp ta 0 ((j, L) :: r) 0 a S).2).1 x ++ d, (cmp tb 0 ((j, L) :: r) 0 (a + ln (cmp ta 0 ((j, L) :: r) 0 a S)) (cmp ta 0 ((j, L) :: r) 0 a S).2).2) = ln (cmp ta 0 ((j, L) :: r) 0 a S) + ln (cmp tb 0 ((j, L) :: r) 0 (a + ln (cmp ta 0 ((j, L) :: r) 0 a S)) (cmp ta 0 ((j, L) :: r) 0 a S).2) + d.length := by
    show List.length (_ ++ _) = _
    rw [List.length_append, List.length_append]; rfl
  rw [e, hn]
  show tot (cmp tb 0 ((j, L) :: r) 0 (a + ln (cmp ta 0 ((j, L) :: r) 0 a S)) (cmp ta 0 ((j, L) :: r) 0 a S).2).2 + _ + _ ≤ _
  omega
theorem bd_index {ta tb : Tr} (ha : BdC ta 3 0 false) (hb : BdC tb 3 0 false) : BdC (Ex.index ta tb) 3 0 lp := fun md j L r base a S hc hf hB hw hL hbs hmd hbu => by
  have hw : W ta false L.length ∧ W tb false L.length := hw
  exact bd_two (t := Ex.index ta tb) (k := 1) (d := [(11, 0)]) ha hb rfl (by decide) (.cons (by decide) (by decide) .nil) hc hf hB hw.1 hw.2 hL hbu
theorem bd_call {ta tb : Tr} (ha : BdC ta 3 0 false) (hb : BdC tb 0 0 false) : BdC (Ex.call ta tb) 3 0 lp := fun md j L r base a S hc hf hB hw hL hbs hmd hbu => by
  have hw : lenE tb ≤ 3 ∧ W ta false L.length ∧ W tb false L.length := hw
  exact bd_two (t := Ex.call ta tb) (k := 1) (d := [(26, lenE tb), (25, 0)]) ha hb rfl (by simp) (.cons (show 26 < 256 by decide) (by show lenE tb < _; omega) (.cons (show 25 < 256 by decide) lt0 .nil)) hc hf hB hw.2.1 hw.2.2 hL hbu
theorem binI_lt {op : Nat} (h : op = 20 ∨ (11 ≤ op ∧ op ≤ 16) ∨ (1 ≤ op ∧ op ≤ 6)) : (binI op).1 < 256 ∧ (binI op).2 < 65535 := by
  unfold binI
  split
  · exact ⟨show 17 < 256 by decide, lt0⟩
  · split
    · exact ⟨show 16 < 256 by decide, by show op - 10 < _; omega⟩
    · exact ⟨show 15 < 256 by decide, by show op < _; omega⟩
theorem unI_lt {op : Nat} : (unI op).1 < 256 ∧ (unI op).2 < 65535 := by
  unfold unI
  split
  · exact ⟨by decide, lt0⟩
  · split
    · exact ⟨by decide, lt0⟩
    · exact ⟨by decide, lt0⟩
theorem bd_bin {op : Nat} {ta tb : Tr} (ha : BdC ta 3 0 false) (hb : BdC tb 3 0 false) : BdC (Ex.bin op ta tb) 3 0 lp := fun md j L r base a S hc hf hB hw hL hbs hmd hbu => by
  have hw : (op = 20 ∨ (11 ≤ op ∧ op ≤ 16) ∨ (1 ≤ op ∧ op ≤ 6)) ∧ W ta false L.length ∧ W tb false L.length := hw
  exact bd_two (t := Ex.bin op ta tb) (k := 1) (d := [binI op]) ha hb rfl (by simp) (.cons (binI_lt hw.1).1 (binI_lt hw.1).2 .nil) hc hf hB hw.2.1 hw.2.2 hL hbu
/-- two pieces with one instruction between. -/
theorem bd_mid {ta tb t : Tr} {k sa sb s md2 op : Nat} {o : Nat → Nat} (ha : BdC ta sa 0 false) (hb : BdC tb sb 0 false) (hn : ndT t = k + ndT ta + ndT tb) (hd : 3 + s ≤ 100 * k + sa + sb) (hd2 : 3 ≤ 100 * k + sa) (h1 : op < 256) (hm : md2 + ndT tb ≤ 60000)
    (ho : ∀ z, z ≤ 60000 → o z < 65535)
    (hc : ChOK S j r) (hf : Fit S j r (numsT ta ++ numsT tb)) (hB : BD S j r) (wa : W ta false L.length) (wb : W tb false L.length) (hL : L.length ≤ 12) (hbu : tot S + 3 * a + 100 * ndT t + 0 ≤ 31000) :
    BC (ndT t) s 0 S j r (fun x => (cmp ta 0 ((j, L) :: r) 0 a S).1 x ++ [(op, o (a + ln (cmp ta 0 ((j, L) :: r) 0 a S) + 1 + ln (cmp tb md2 ((j, L) :: r) 0 (a + ln (cmp ta 0 ((j, L) :: r) 0 a S) + 1) (cmp ta 0 ((j, L) :: r) 0 a S).2)))] ++ (cmp tb md2 ((j, L) :: r) 0 (a + ln (cmp ta 0 ((j, L) :: r) 0 a S) + 1) (cmp ta 0 ((j, L) :: r) 0 a S).2).1 x, (cmp tb md2 ((j, L) :: r) 0 (a + ln (cmp ta 0 ((j, L) :: r) 0 a S) + 1) (cmp ta 0 ((j, L) :: r) 0 a S).2).2) := by
  obtain ⟨b1, b2, -⟩ := seq2 (a := a) ha hb 1 md2 hc hf hB wa wb hL hm (by omega) (by omega)
  have h1' := b1.tl
  have h2 := b2.tl
  refine ⟨b2.bd, ?_, fun x hx => ((b1.ops x hx).app (.cons h1 (ho _ (by omega)) .nil)).app (b2.ops x hx)⟩
  rw [hn]
  show tot (cmp tb md2 ((j, L) :: r) 0 (a + ln (cmp ta 0 ((j, L) :: r) 0 a S) + 1) (cmp ta 0 ((j, L) :: r) 0 a S).2).2 + 3 * List.length (_ ++ _ ++ _) + _ ≤ _
  rw [List.length_append, List.length_append, List.length_cons, List.length_nil]
  show _ + 3 * (ln (cmp ta 0 ((j, L) :: r) 0 a S) + (0 + 1) + ln (cmp tb md2 ((j, L) :: r) 0 (a + ln (cmp ta 0 ((j, L) :: r) 0 a S) + 1) (cmp ta 0 ((j, L) :: r) 0 a S).2)) + _ ≤ _
  omega
theorem bd_land {ta tb : Tr} (ha : BdC ta 3 0 false) (hb : BdC tb 3 0 false) : BdC (Ex.land ta tb) 3 0 lp := fun md j L r base a S hc hf hB hw hL hbs hmd hbu => by
  have hw : W ta false L.length ∧ W tb false L.length := hw
  have hn : ndT (Ex.land ta tb) = 1 + ndT ta + ndT tb := rfl
  exact bd_mid (t := Ex.land ta tb) (k := 1) (md2 := 0) (op := 23) (o := fun z => z) ha hb hn (by decide) (by decide) (by decide) (by omega) (fun z hz => by omega) hc hf hB hw.1 hw.2 hL hbu
theorem bd_lor {ta tb : Tr} (ha : BdC ta 3 0 false) (hb : BdC tb 3 0 false) : BdC (Ex.lor ta tb) 3 0 lp := fun md j L r base a S hc hf hB hw hL hbs hmd hbu => by
  have hw : W ta false L.length ∧ W tb false L.length := hw
  have hn : ndT (Ex.lor ta tb) = 1 + ndT ta + ndT tb := rfl
  exact bd_mid (t := Ex.lor ta tb) (k := 1) (md2 := 0) (op := 24) (o := fun z => z) ha hb hn (by decide) (by decide) (by decide) (by omega) (fun z hz => by omega) hc hf hB hw.1 hw.2 hL hbu
theorem bd_nilA : BdC ExL.nil 0 0 lp := fun md j L r base a S hc hf hB hw hL hbs hmd hbu => ⟨hB, Nat.le_refl _, fun x hx => .nil⟩
theorem bd_consA {ta tb : Tr} (ha : BdC ta 3 0 false) (hb : BdC tb 0 0 false) (hp : 1 ≤ ndT ta) : BdC (ExL.cons ta tb) 0 0 lp := fun md j L r base a S hc hf hB hw hL hbs hmd hbu => by
  have hw : W ta false L.length ∧ W tb false L.length := hw
  have hn : ndT (ExL.cons ta tb) = 0 + ndT ta + ndT tb := rfl
  by_cases h0 : md = 0
  · subst h0
    have := bd_two (t := ExL.cons ta tb) (k := 0) (s := 0) (d := []) ha hb hn (by decide) .nil hc hf hB hw.1 hw.2 hL hbu
    simp only [List.append_nil] at this
    exact this
  · have e0 : cmp (ExL.cons ta tb) md ((j, L) :: r) base a S = (fun x => (cmp ta 0 ((j, L) :: r) 0 a S).1 x ++ [(13, md)] ++ (cmp tb (md + 1) ((j, L) :: r) 0 (a + ln (cmp ta 0 ((j, L) :: r) 0 a S) + 1) (cmp ta 0 ((j, L) :: r) 0 a S).2).1 x, (cmp tb (md + 1) ((j, L) :: r) 0 (a + ln (cmp ta 0 ((j, L) :: r) 0 a S) + 1) (cmp ta 0 ((j, L) :: r) 0 a S).2).2) := by
      show (if md = 0 then _ else _ : Out) = _
      rw [if_neg h0]
    rw [e0]
    exact bd_mid (t := ExL.cons ta tb) (k := 0) (s := 0) (md2 := md + 1) (op := 13) (o := fun _ => md) ha hb hn (by decide) (by decide) (by decide) (by omega) (fun z hz => by show md < _; omega) hc hf hB hw.1 hw.2 hL hbu
theorem bd_un {op : Nat} {ta : Tr} (ha : BdC ta 3 0 false) : BdC (Ex.un op ta) 3 0 lp := fun md j L r base a S hc hf hB hw hL hbs hmd hbu => by
  have hw : (1 ≤ op ∧ op ≤ 3) ∧ W ta false L.length := hw
  have hn : ndT (Ex.un op ta) = 1 + ndT ta := rfl
  have b := ha 0 j L r 0 a S hc hf hB hw.2 hL (by omega) (by omega) (by omega)
  have h1 := b.tl
  refine ⟨b.bd, ?_, fun x hx => (b.ops x hx).app (.cons unI_lt.1 unI_lt.2 .nil)⟩
  rw [hn]
  show tot (cmp ta 0 ((j, L) :: r) 0 a S).2 + 3 * List.length (_ ++ [_]) + 3 ≤ _
  rw [List.length_append, List.length_cons, List.length_nil]
  show _ + 3 * (ln (cmp ta 0 ((j, L) :: r) 0 a S) + (0 + 1)) + _ ≤ _
  omega
theorem bd_table {ta : Tr} (ha : BdC ta 0 0 false) : BdC (Ex.table ta) 3 0 lp := fun md j L r base a S hc hf hB hw hL hbs hmd hbu => by
  have hw : W ta false L.length := hw
  have hn : ndT (Ex.table ta) = 1 + ndT ta := rfl
  have b := ha 1 j L r 0 (a + 1) S hc hf hB hw hL (by omega) (by omega) (by omega)
  have h1 := b.tl
  refine ⟨b.bd, ?_, fun x hx => .cons (show 14 < 256 by decide) lt0 (b.ops x hx)⟩
  rw [hn]
  show tot (cmp ta 1 ((j, L) :: r) 0 (a + 1) S).2 + 3 * (ln (cmp ta 1 ((j, L) :: r) 0 (a + 1) S) + 1) + 3 ≤ _
  omega
theorem UOK.nil {d : Nat} : UOK [] d := ⟨List.nodup_nil, fun e he => by cases he⟩
/-- a function's literal. -/
theorem fnF_bd {n : Nat} {ps : List Str} {b : Tr} (hb : BdC b 0 3 false) (hW : FnW n ps) (hw : W b false ps.length) (hc : ChOK S j r) (hf : Fit S j r (n :: numsT b)) (hB : BD S j r) (hL : L.length ≤ 12) (hbu : tot S + 100 * ndT b + 3 ≤ 31000) :
    BD (fnF n ps ((j, L) :: r) (fun md ch b' a S => cmp b md ch b' a S) S) j r ∧ tot (fnF n ps ((j, L) :: r) (fun md ch b' a S => cmp b md ch b' a S) S) ≤ tot S + 100 * ndT b + 12 := by
  obtain ⟨h1, h2⟩ := fnF_mid (ps := ps) (L := L) hc hf
  have hn : n ∉ chF j r := fun q => (List.nodup_append.1 hf.nd).2.2 n q n List.mem_cons_self rfl
  have hl : n < S.length := hf.lt n (by simp)
  have hm : ∀ k, fsAt (S.set n ⟨ps.length, ps.length, [], [], [], (vis L).map (·.1) ++ (fsAt S j).outer, []⟩) k = if k = n then ⟨ps.length, ps.length, [], [], [], (vis L).map (·.1) ++ (fsAt S j).outer, []⟩ else fsAt S k := fun k => fsAt_set hl
  have ht1 : tot (S.set n ⟨ps.length, ps.length, [], [], [], (vis L).map (·.1) ++ (fsAt S j).outer, []⟩) ≤ tot S := tot_set rfl S n
  have hl1 : (S.set n ⟨ps.length, ps.length, [], [], [], (vis L).map (·.1) ++ (fsAt S j).outer, []⟩).length = S.length := List.length_set
  have hps := hW.2.2
  have hB1 : BD (S.set n ⟨ps.length, ps.length, [], [], [], (vis L).map (·.1) ++ (fsAt S j).outer, []⟩) n ((j, L) :: r) := by
    refine ⟨fun k => ?_, ⟨?_, hB.c.same fun k hk => ?_⟩, fun p hp => ?_, by rw [hl1]; exact hB.n⟩
    · rw [hm]
      by_cases hk : k = n
      · rw [if_pos hk]
        exact ⟨by show ps.length ≤ 12; omega, hps, Nat.le_refl _, (fun v hv => by cases hv), .nil, 0, by omega, .nil⟩
      · rw [if_neg hk]; exact hB.f k
    · rw [hm, if_pos rfl]; exact .nil
    · rw [hm, if_neg fun (q : k = n) => hn (q ▸ hk)]
    · rcases List.mem_cons.1 hp with rfl | hp
      · exact hL
      · exact hB.l p hp
  have e : fnF n ps ((j, L) :: r) (fun md ch b' a S => cmp b md ch b' a S) S = List.modify (cmp b ps.length ((n, ps) :: (j, L) :: r) 0 0 (S.set n ⟨ps.length, ps.length, [], [], [], (vis L).map (·.1) ++ (fsAt S j).outer, []⟩)).2 n (fun f => { f with code := (cmp b ps.length ((n, ps) :: (j, L) :: r) 0 0 (S.set n ⟨ps.length, ps.length, [], [], [], (vis L).map (·.1) ++ (fsAt S j).outer, []⟩)).1 0 ++ [(2, 0), (2, 0), (27, 0)] }) := rfl
  rw [e]
  generalize S.set n ⟨ps.length, ps.length, [], [], [], (vis L).map (·.1) ++ (fsAt S j).outer, []⟩ = S1 at *
  have m := mo_all b ps.length n ps ((j, L) :: r) 0 0 S1 h1 h2
  have bb := hb ps.length n ps ((j, L) :: r) 0 0 S1 h1 h2 hB1 hw (by omega) (by omega) (by omega) (by omega)
  generalize cmp b ps.length ((n, ps) :: (j, L) :: r) 0 0 S1 = q at *
  have h3 := bb.tl
  have hl2 : n < q.2.length := by rw [m.mo.len, hl1]; exact hl
  have hm2 : ∀ k, fsAt (List.modify q.2 n fun f => { f with code := q.1 0 ++ [(2, 0), (2, 0), (27, 0)] }) k = if k = n then { fsAt q.2 n with code := q.1 0 ++ [(2, 0), (2, 0), (27, 0)] } else fsAt q.2 k := fun k => fsAt_mod hl2
  refine ⟨⟨fun k => ?_, bb.bd.c.2.same fun k hk => ?_, hB.l, by rw [List.length_modify, m.mo.len, hl1]; exact hB.n⟩, ?_⟩
  · rw [hm2]
    by_cases hk : k = n
    · rw [if_pos hk]
      obtain ⟨f1, f2, f3, f4, f5, f6⟩ := bb.bd.f n
      exact ⟨f1, f2, f3, f4, (bb.ops 0 lt0).app (.cons (by decide) (by decide) (.cons (by decide) (by decide) (.cons (by decide) (by decide) .nil))), f6⟩
    · rw [if_neg hk]; exact bb.bd.f k
  · rw [hm2, if_neg fun (q : k = n) => hn (q ▸ hk)]
  · have := tot_mod (f := fun f => { f with code := q.1 0 ++ [(2, 0), (2, 0), (27, 0)] }) (c := 3 * (ln q + 3)) (fun g => by simp only [fb, List.length_append, List.length_cons, List.length_nil, ln]; omega) q.2 n
    omega
theorem bd_func {n : Nat} {ps : List Str} {b : Tr} (hb : BdC b 0 3 false) : BdC (Ex.func n ps b) 3 0 lp := fun md j L r base a S hc hf hB hw hL hbs hmd hbu => by
  have hw : FnW n ps ∧ W b false ps.length := hw
  have hn : ndT (Ex.func n ps b) = 1 + ps.length + ndT b := rfl
  have hf : Fit S j r (n :: numsT b) := hf
  obtain ⟨g1, g2⟩ := fnF_bd (L := L) hb hw.1 hw.2 hc hf hB hL (by omega)
  have hl : n < S.length := hf.lt n (by simp)
  have hS := hB.n
  refine ⟨g1, ?_, fun x hx => .cons (show 28 < 256 by decide) (by show n < _; omega) .nil⟩
  rw [hn]
  show tot (fnF n ps ((j, L) :: r) (fun md ch b' a S => cmp b md ch b' a S) S) + 3 * 1 + 3 ≤ _
  omega
end

end Go.Proofs.Qxb6500568aGreatDoor
