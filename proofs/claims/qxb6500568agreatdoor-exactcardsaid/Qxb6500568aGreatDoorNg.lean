import Derived.Test.Qxb6500568aGreatDoorNf
namespace Go.Proofs.Qxb6500568aGreatDoor
open Ieee
set_option linter.unusedVariables false
set_option linter.unusedSimpArgs false
set_option linter.unusedSectionVars false

/-! The code of expressions is what it should be. -/

section
variable {F S : Fns} {j : Nat} {L : List Str} {r : Chn} {x a base : Nat}

def PairC (F S S1 T : Fns) (j : Nat) (r : Chn) (ta tb : Tr) (q1 q2 : Out) (a a2 : Nat) : Prop :=
  (∀ x, (q1.1 x).length = ln q1) ∧ (∀ x, (q2.1 x).length = ln q2) ∧ (∀ x, At F j a (q1.1 x) → Ok F S j r (numsT ta) q1 x a) ∧ (∀ x, At F j a2 (q2.1 x) → Ok F S1 j r (numsT tb) q2 x a2) ∧ Mo j r (numsT ta) S S1 ∧ Mo j r (numsT tb) S1 T
theorem pair {ta tb : Tr} {md1 md2 base1 base2 a2 : Nat} {L1 L2 : List Str} {S1 T : Fns} (hc : ChOK S j r) (hf : Fit S j r (numsT ta ++ numsT tb))
    (d1 : ChOK (cmp ta md1 ((j, L1) :: r) base1 a S).2 j r → j < (cmp ta md1 ((j, L1) :: r) base1 a S).2.length → Mo j r [] (cmp ta md1 ((j, L1) :: r) base1 a S).2 S1)
    (d2 : ChOK (cmp tb md2 ((j, L2) :: r) base2 a2 S1).2 j r → j < (cmp tb md2 ((j, L2) :: r) base2 a2 S1).2.length → Mo j r [] (cmp tb md2 ((j, L2) :: r) base2 a2 S1).2 T)
    (hcov : Cov F T j r (numsT ta ++ numsT tb)) :
    PairC F S S1 T j r ta tb (cmp ta md1 ((j, L1) :: r) base1 a S) (cmp tb md2 ((j, L2) :: r) base2 a2 S1) a a2 := by
  have m1 := mo_all ta md1 j L1 r base1 a S hc hf.left
  have e1 := d1 m1.mo.ch (by rw [m1.mo.len]; exact hf.ltj)
  have m1' := m1.mo.tr0 e1
  have hf2 := hf.right.mo m1'
  have m2 := mo_all tb md2 j L2 r base2 a2 S1 e1.ch hf2
  have e2 := d2 m2.mo.ch (by rw [m2.mo.len]; exact hf2.ltj)
  have m2' := m2.mo.tr0 e2
  obtain ⟨c1, c2, f2⟩ := hcov.split hf m1' m2'
  exact ⟨m1.ln, m2.ln, fun x h => ⟨hc, hf.left, c1.tr0 (hf.left.mo m1.mo) e1, h⟩, fun x h => ⟨e1.ch, f2, c2.tr0 (f2.mo m2.mo) e2, h⟩, m1', m2'⟩
theorem pair0 {ta tb : Tr} {md1 md2 base1 base2 a2 : Nat} {L1 L2 : List Str} (hc : ChOK S j r) (hf : Fit S j r (numsT ta ++ numsT tb))
    (hcov : Cov F (cmp tb md2 ((j, L2) :: r) base2 a2 (cmp ta md1 ((j, L1) :: r) base1 a S).2).2 j r (numsT ta ++ numsT tb)) :
    PairC F S (cmp ta md1 ((j, L1) :: r) base1 a S).2 (cmp tb md2 ((j, L2) :: r) base2 a2 (cmp ta md1 ((j, L1) :: r) base1 a S).2).2 j r ta tb (cmp ta md1 ((j, L1) :: r) base1 a S) (cmp tb md2 ((j, L2) :: r) base2 a2 (cmp ta md1 ((j, L1) :: r) base1 a S).2) a a2 :=
  pair (S1 := (cmp ta md1 ((j, L1) :: r) base1 a S).2) hc hf (fun m _ => Mo.refl m) (fun m _ => Mo.refl m) hcov

theorem Ok.two {ta tb : Tr} {md1 md2 base1 base2 a2 : Nat} {L1 L2 : List Str} {N : List Nat} {q : Out} (h : Ok F S j r N q x a) (hN : N = numsT ta ++ numsT tb) (hq : q.2 = (cmp tb md2 ((j, L2) :: r) base2 a2 (cmp ta md1 ((j, L1) :: r) base1 a S).2).2) :
    PairC F S (cmp ta md1 ((j, L1) :: r) base1 a S).2 (cmp tb md2 ((j, L2) :: r) base2 a2 (cmp ta md1 ((j, L1) :: r) base1 a S).2).2 j r ta tb (cmp ta md1 ((j, L1) :: r) base1 a S) (cmp tb md2 ((j, L2) :: r) base2 a2 (cmp ta md1 ((j, L1) :: r) base1 a S).2) a a2 :=
  pair0 (F := F) (md1 := md1) (md2 := md2) (base1 := base1) (base2 := base2) (a2 := a2) (L1 := L1) (L2 := L2) (ta := ta) (tb := tb) (a := a) h.ch (hN ▸ h.fit) (hN ▸ hq ▸ h.cov)
/-- the code of two pieces and what follows. -/
theorem at2 {qa qb : Out} {d : Cod} (h1 : ∀ x, (qa.1 x).length = ln qa) (h2 : ∀ x, (qb.1 x).length = ln qb) (h : At F j a (qa.1 x ++ qb.1 x ++ d)) : At F j a (qa.1 x) ∧ At F j (a + ln qa) (qb.1 x) ∧ At F j (a + ln qa + ln qb) d := by
  obtain ⟨t12, t3⟩ := h.app
  obtain ⟨t1, t2⟩ := t12.app
  rw [h1] at t2
  rw [List.length_append, h1, h2, ← Nat.add_assoc] at t3
  exact ⟨t1, t2, t3⟩
/-- a piece, some instructions, a piece and what follows. -/
theorem at3 {qa qb : Out} {c d : Cod} {y z : Nat} (h1 : ∀ x, (qa.1 x).length = ln qa) (h2 : ∀ x, (qb.1 x).length = ln qb) (h : At F j a (qa.1 y ++ c ++ qb.1 z ++ d)) : At F j a (qa.1 y) ∧ At F j (a + ln qa) c ∧ At F j (a + ln qa + c.length) (qb.1 z) ∧ At F j (a + ln qa + c.length + ln qb) d := by
  obtain ⟨t123, t4⟩ := h.app
  obtain ⟨t12, t3⟩ := t123.app
  obtain ⟨t1, t2⟩ := t12.app
  rw [h1] at t2
  rw [List.length_append, h1, ← Nat.add_assoc] at t3
  rw [List.length_append, List.length_append, h1, h2, ← Nat.add_assoc, ← Nat.add_assoc] at t4
  exact ⟨t1, t2, t3, t4⟩

theorem cor_lit {k : Nat} : CorE (Ex.lit k) := fun {j L r base x a S F} h => CE_lit.2 ⟨At.hd h.at', rfl⟩
theorem cor_num {k : Nat} : CorE (Ex.num k) := fun {j L r base x a S F} h => by
  have hk := (conF_mo (v := vNum k) h.fit.ltj h.ch).2
  exact CE_num.2 ⟨⟨_, At.hd h.at', by rw [con_psf]; exact pre_get (h.cov.ch j List.mem_cons_self).ks hk⟩, rfl⟩
theorem cor_str {s : Str} : CorE (Ex.str s) := fun {j L r base x a S F} h => by
  have hk := (conF_mo (v := vStr s) h.fit.ltj h.ch).2
  exact CE_str.2 ⟨⟨_, At.hd h.at', by rw [con_psf]; exact pre_get (h.cov.ch j List.mem_cons_self).ks hk⟩, rfl⟩
theorem cor_name {s : Str} : CorE (Ex.name s) := fun {j L r base x a S F} h => by
  have hk := (varF_ok (L := L) (nm := s) (l := 5) (u := 7) (g := 9) h.ch h.fit).2
  exact CE_name.2 ⟨Ok.cv (r := r) (T := (varF 5 7 9 ((j, L) :: r) s S).2) h.cov hk (At.hd h.at'), rfl⟩
theorem cor_index {ta tb : Tr} (ha : CorE ta) (hb : CorE tb) : CorE (Ex.index ta tb) := fun {j L r base x a S F} h => by
  obtain ⟨l1, l2, o1, o2, -, -⟩ := h.two (ta := ta) (tb := tb) (L1 := L) (L2 := L) rfl rfl
  obtain ⟨t1, t2, t3⟩ := at2 l1 l2 (show At F j a (_ ++ _ ++ [(11, 0)]) from h.at')
  exact CE_index.2 ⟨_, _, ha (o1 x t1), hb (o2 x t2), t3.hd, by simp [cmp, Ex.index, cK2, ln, Nat.add_assoc]⟩
theorem cor_call {ta tb : Tr} (ha : CorE ta) (hb : CorA tb) (hl : lenE tb ≤ 3) : CorE (Ex.call ta tb) := fun {j L r base x a S F} h => by
  obtain ⟨l1, l2, o1, o2, -, -⟩ := h.two (ta := ta) (tb := tb) (L1 := L) (L2 := L) rfl rfl
  obtain ⟨t1, t2, t3⟩ := at2 l1 l2 (show At F j a (_ ++ _ ++ [(26, lenE tb), (25, 0)]) from h.at')
  exact CE_call.2 ⟨_, _, ha (o1 x t1), hb (o2 x t2), t3.hd, hl, t3.tl.hd, by simp [cmp, Ex.call, cK2, ln, Nat.add_assoc]⟩
theorem cor_bin {op : Nat} {ta tb : Tr} (ha : CorE ta) (hb : CorE tb) (hl : op = 20 ∨ (11 ≤ op ∧ op ≤ 16) ∨ (1 ≤ op ∧ op ≤ 6)) : CorE (Ex.bin op ta tb) := fun {j L r base x a S F} h => by
  obtain ⟨l1, l2, o1, o2, -, -⟩ := h.two (ta := ta) (tb := tb) (L1 := L) (L2 := L) rfl rfl
  obtain ⟨t1, t2, t3⟩ := at2 l1 l2 (show At F j a (_ ++ _ ++ [binI op]) from h.at')
  exact CE_bin.2 ⟨_, _, ha (o1 x t1), hb (o2 x t2), t3.hd, by simp [cmp, Ex.bin, cK2, ln, Nat.add_assoc], hl⟩
theorem cor_land {ta tb : Tr} (ha : CorE ta) (hb : CorE tb) : CorE (Ex.land ta tb) := fun {j L r base x a S F} h => by
  obtain ⟨l1, l2, o1, o2, -, -⟩ := h.two (ta := ta) (tb := tb) (L1 := L) (L2 := L) rfl rfl
  have hat := h.at'
  rw [← List.append_nil ((cmp (Ex.land ta tb) 0 ((j, L) :: r) base a S).1 x)] at hat
  obtain ⟨t1, t2, t3, t4⟩ := at3 l1 l2 (show At F j a (_ ++ [(23, a + ln (cmp ta 0 ((j, L) :: r) 0 a S) + 1 + ln (cmp tb 0 ((j, L) :: r) 0 (a + ln (cmp ta 0 ((j, L) :: r) 0 a S) + 1) (cmp ta 0 ((j, L) :: r) 0 a S).2))] ++ _ ++ []) from hat)
  have e : a + ln (cmp (Ex.land ta tb) 0 ((j, L) :: r) base a S) = a + ln (cmp ta 0 ((j, L) :: r) 0 a S) + 1 + ln (cmp tb 0 ((j, L) :: r) 0 (a + ln (cmp ta 0 ((j, L) :: r) 0 a S) + 1) (cmp ta 0 ((j, L) :: r) 0 a S).2) := by simp [cmp, Ex.land, cK2, ln, Nat.add_assoc]; omega
  rw [e]
  exact CE_land.2 ⟨_, ha (o1 x t1), t2.hd, by omega, hb (o2 x t3)⟩
theorem cor_lor {ta tb : Tr} (ha : CorE ta) (hb : CorE tb) : CorE (Ex.lor ta tb) := fun {j L r base x a S F} h => by
  obtain ⟨l1, l2, o1, o2, -, -⟩ := h.two (ta := ta) (tb := tb) (L1 := L) (L2 := L) rfl rfl
  have hat := h.at'
  rw [← List.append_nil ((cmp (Ex.lor ta tb) 0 ((j, L) :: r) base a S).1 x)] at hat
  obtain ⟨t1, t2, t3, t4⟩ := at3 l1 l2 (show At F j a (_ ++ [(24, a + ln (cmp ta 0 ((j, L) :: r) 0 a S) + 1 + ln (cmp tb 0 ((j, L) :: r) 0 (a + ln (cmp ta 0 ((j, L) :: r) 0 a S) + 1) (cmp ta 0 ((j, L) :: r) 0 a S).2))] ++ _ ++ []) from hat)
  have e : a + ln (cmp (Ex.lor ta tb) 0 ((j, L) :: r) base a S) = a + ln (cmp ta 0 ((j, L) :: r) 0 a S) + 1 + ln (cmp tb 0 ((j, L) :: r) 0 (a + ln (cmp ta 0 ((j, L) :: r) 0 a S) + 1) (cmp ta 0 ((j, L) :: r) 0 a S).2) := by simp [cmp, Ex.lor, cK2, ln, Nat.add_assoc]; omega
  rw [e]
  exact CE_lor.2 ⟨_, ha (o1 x t1), t2.hd, by omega, hb (o2 x t3)⟩
theorem lnOne (hc : ChOK S j r) {ta : Tr} (hf : Fit S j r (numsT ta)) (md : Nat) (L : List Str) (base a : Nat) : ∀ x, ((cmp ta md ((j, L) :: r) base a S).1 x).length = ln (cmp ta md ((j, L) :: r) base a S) := (mo_all ta md j L r base a S hc hf).ln
theorem at1 {qa : Out} {d : Cod} (h1 : ∀ x, (qa.1 x).length = ln qa) (h : At F j a (qa.1 x ++ d)) : At F j a (qa.1 x) ∧ At F j (a + ln qa) d := by
  obtain ⟨t1, t2⟩ := h.app
  rw [h1] at t2
  exact ⟨t1, t2⟩
theorem cor_un {op : Nat} {ta : Tr} (ha : CorE ta) (hl : 1 ≤ op ∧ op ≤ 3) : CorE (Ex.un op ta) := fun {j L r base x a S F} h => by
  obtain ⟨t1, t2⟩ := at1 (lnOne (ta := ta) h.ch h.fit 0 L 0 a) (show At F j a (_ ++ [unI op]) from h.at')
  exact CE_un.2 ⟨_, ha ⟨h.ch, h.fit, h.cov, t1⟩, t2.hd, by simp [cmp, Ex.un, cK1, ln, Nat.add_assoc], hl.1, hl.2⟩
theorem cor_table {ta : Tr} (ha : CorI ta) : CorE (Ex.table ta) := fun {j L r base x a S F} h => by
  have hat : At F j a ((14, 0) :: (cmp ta 1 ((j, L) :: r) 0 (a + 1) S).1 x) := h.at'
  have := ha (by decide) ⟨h.ch, h.fit, h.cov, hat.tl⟩
  have e : a + ln (cmp (Ex.table ta) 0 ((j, L) :: r) base a S) = a + 1 + ln (cmp ta 1 ((j, L) :: r) 0 (a + 1) S) := by simp [cmp, Ex.table, cK1, ln, Nat.add_assoc, Nat.add_comm 1]
  rw [e]
  exact CE_table.2 ⟨hat.hd, this⟩
theorem cor_func {n : Nat} {ps : List Str} {b : Tr} (hb : CorB b false) (hW : FnW n ps) : CorE (Ex.func n ps b) := fun {j L r base x a S F} h =>
  CE_func.2 ⟨At.hd h.at', rfl, fnF_cf hb hW h.ch h.fit h.cov⟩
theorem cor_nilA : CorA ExL.nil := fun {j L r base x a S F} h => CA_nil.2 rfl
theorem cor_nilI : CorI ExL.nil := fun {i j L r base x a S F} hi h => CI_nil.2 rfl
theorem cor_consA {ta tb : Tr} (ha : CorE ta) (hb : CorA tb) : CorA (ExL.cons ta tb) := fun {j L r base x a S F} h => by
  obtain ⟨l1, l2, o1, o2, -, -⟩ := h.two (ta := ta) (tb := tb) (L1 := L) (L2 := L) rfl rfl
  obtain ⟨t1, t2⟩ := at1 l1 (show At F j a (_ ++ _) from h.at')
  have e : a + ln (cmp (ExL.cons ta tb) 0 ((j, L) :: r) base a S) = a + ln (cmp ta 0 ((j, L) :: r) 0 a S) + ln (cmp tb 0 ((j, L) :: r) 0 (a + ln (cmp ta 0 ((j, L) :: r) 0 a S)) (cmp ta 0 ((j, L) :: r) 0 a S).2) := by simp [cmp, ExL.cons, cK2, ln, Nat.add_assoc]
  rw [e]
  exact CA_cons.2 ⟨_, ha (o1 x t1), hb (o2 x t2)⟩
theorem cor_consI {ta tb : Tr} (ha : CorE ta) (hb : CorI tb) : CorI (ExL.cons ta tb) := fun {i j L r base x a S F} hi h => by
  have e0 : cmp (ExL.cons ta tb) i ((j, L) :: r) base a S = (fun x => (cmp ta 0 ((j, L) :: r) 0 a S).1 x ++ [(13, i)] ++ (cmp tb (i + 1) ((j, L) :: r) 0 (a + ln (cmp ta 0 ((j, L) :: r) 0 a S) + 1) (cmp ta 0 ((j, L) :: r) 0 a S).2).1 x, (cmp tb (i + 1) ((j, L) :: r) 0 (a + ln (cmp ta 0 ((j, L) :: r) 0 a S) + 1) (cmp ta 0 ((j, L) :: r) 0 a S).2).2) := by
    show (if i = 0 then _ else _ : Out) = _
    rw [if_neg hi]
  rw [e0] at h ⊢
  obtain ⟨l1, l2, o1, o2, -, -⟩ := h.two (ta := ta) (tb := tb) (L1 := L) (L2 := L) rfl rfl
  have hat := h.at'
  obtain ⟨t1, t2, t3, t4⟩ := at3 l1 l2 (show At F j a (_ ++ [(13, i)] ++ _ ++ []) by rw [List.append_nil]; exact hat)
  have e : a + ln (fun x => (cmp ta 0 ((j, L) :: r) 0 a S).1 x ++ [(13, i)] ++ (cmp tb (i + 1) ((j, L) :: r) 0 (a + ln (cmp ta 0 ((j, L) :: r) 0 a S) + 1) (cmp ta 0 ((j, L) :: r) 0 a S).2).1 x, (cmp tb (i + 1) ((j, L) :: r) 0 (a + ln (cmp ta 0 ((j, L) :: r) 0 a S) + 1) (cmp ta 0 ((j, L) :: r) 0 a S).2).2) = a + ln (cmp ta 0 ((j, L) :: r) 0 a S) + 1 + ln (cmp tb (i + 1) ((j, L) :: r) 0 (a + ln (cmp ta 0 ((j, L) :: r) 0 a S) + 1) (cmp ta 0 ((j, L) :: r) 0 a S).2) := by simp [ln, Nat.add_assoc]; omega
  rw [e]
  exact CI_cons.2 ⟨_, ha (o1 x t1), t2.hd, hb (by omega) (o2 x t3)⟩
end

end Go.Proofs.Qxb6500568aGreatDoor
