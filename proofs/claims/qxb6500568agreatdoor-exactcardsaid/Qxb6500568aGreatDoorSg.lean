import Derived.Test.Qxb6500568aGreatDoorSf
namespace Go.Proofs.Qxb6500568aGreatDoor
open Ieee
set_option linter.unusedVariables false
set_option linter.unusedSimpArgs false
set_option linter.unusedSectionVars false

/-! What the parser's trees are like. -/

def TkOK (l : List Tok) : Prop := ∀ t ∈ l, (t.k = 2 → NmW t.s) ∧ (t.k = 4 → t.s.length ≤ 40) ∧ (t.k = 3 → W64 t.n ∧ (isNaNW t.n = true → t.n = nanB))
/-- operands of an expression at level lv; at rank r. -/
def bE (lv : Nat) : Nat := 6 * (13 - lv)
def bR (lv r : Nat) : Nat := bE lv - (if 7 ≤ r then 3 else if r = 6 then 2 else if r = 5 then 1 else if r = 4 then 1 else 0)
def Top (t : Tr) : Prop := (t.c = 3 → ∃ s, t = Ex.name s) ∧ (t.c = 4 → ∃ a b, t = Ex.index a b ∧ LyE 0 a ∧ LyE 0 b) ∧ (t.c = 5 → ∃ f l, t = Ex.call f l ∧ LyE 0 f ∧ LyL 1 l)
structure QE (t : Tr) (d : Nat) : Prop where
  ly : LyE 0 t
  w : ∀ lp n, W t lp n
  d : dE t ≤ d
  top : Top t
theorem QE.le {t : Tr} {d e : Nat} (h : QE t d) (hd : d ≤ e) : QE t e := ⟨h.ly, h.w, Nat.le_trans h.d hd, h.top⟩
structure QL (l : Tr) (lv : Nat) : Prop where
  ly : LyL 1 l
  w : ∀ lp n, W l lp n
  a : dA l ≤ lenE l + bE lv - 1
  i : dI l ≤ bE lv
/-- literals between two states. -/
def rgF (s s' : PS) : List Nat := List.range' (s.fu + 1) (s'.fu - s.fu)
/-- what every mode keeps. -/
structure Cm (s s' : PS) : Prop where
  tk : s'.tk <:+ s.tk
  fu : s.fu ≤ s'.fu
  f12 : s'.fu ≤ 12
structure Pe (s : PS) : Prop where
  tk : TkOK s.tk
  fu : s.fu ≤ 12
theorem Pe.cm {s s' : PS} (h : Pe s) (c : Cm s s') : Pe s' := ⟨fun t ht => h.tk t (c.tk.subset ht), c.f12⟩
theorem Cm.refl {s : PS} (h : Pe s) : Cm s s := ⟨List.suffix_refl _, Nat.le_refl _, h.fu⟩
theorem Cm.trans {a b c : PS} (h : Cm a b) (k : Cm b c) : Cm a c := ⟨k.tk.trans h.tk, Nat.le_trans h.fu k.fu, k.f12⟩
theorem Cm.adv {s : PS} (h : Pe s) : Cm s s.adv := ⟨List.tail_suffix _, Nat.le_refl _, h.fu⟩
theorem rgF_trans {a b c : PS} (h : a.fu ≤ b.fu) (k : b.fu ≤ c.fu) : rgF a b ++ rgF b c = rgF a c := by
  unfold rgF
  rw [show c.fu - a.fu = (b.fu - a.fu) + (c.fu - b.fu) by omega, show b.fu + 1 = (a.fu + 1) + (b.fu - a.fu) by omega]
  rw [← List.range'_append_1]
theorem rgF_eq {a b : PS} (h : b.fu = a.fu) : rgF a b = [] := by unfold rgF; rw [h, Nat.sub_self]; rfl
theorem rgF_adv {s : PS} : rgF s s.adv = [] := rgF_eq rfl
structure Sm (s s' : PS) : Prop extends Cm s s' where
  al : s'.al = s.al
  lo : s'.lo = s.lo
theorem Sm.trans {a b c : PS} (h : Sm a b) (k : Sm b c) : Sm a c := ⟨h.toCm.trans k.toCm, k.al.trans h.al, k.lo.trans h.lo⟩
theorem Sm.adv {s : PS} (h : Pe s) : Sm s s.adv := ⟨Cm.adv h, rfl, rfl⟩
theorem Sm.refl {s : PS} (h : Pe s) : Sm s s := ⟨Cm.refl h, rfl, rfl⟩

def Po (Q : Tr → PS → Prop) (o : PR) : Prop := ∀ t s, o = some (.inr (t, s)) → Q t s
section
variable {Q Q' : Tr → PS → Prop} {s : PS}
theorem Po.fail {e : Nat} : Po Q (failP e s) := fun t s h => by unfold failP at h; injection h with h; cases h
theorem Po.ok {t : Tr} (h : Q t s) : Po Q (okP t s) := fun t' s' e => by
  unfold okP at e; injection e with e; injection e with e; injection e with e1 e2; subst e1; subst e2; exact h
theorem Po.bd {o : PR} {f : Tr → PS → PR} (h : Po Q' o) (k : ∀ t s, Q' t s → Po Q (f t s)) : Po Q (bdP o f) := fun t s e => by
  rcases o with _ | q | ⟨t1, s1⟩
  · cases e
  · injection e with e; cases e
  · exact k t1 s1 (h t1 s1 rfl) t s e
theorem Po.ite {c : Prop} [Decidable c] {a b : PR} (h : c → Po Q a) (k : ¬ c → Po Q b) : Po Q (if c then a else b) := by
  by_cases hc : c
  · rw [if_pos hc]; exact h hc
  · rw [if_neg hc]; exact k hc
theorem Po.exp {k : Nat} {f : PS → PR} (h : s.k = k → Po Q (f s.adv)) : Po Q (expP k s f) := .ite h fun _ => .fail
theorem cur_mem (h : s.k ≠ 0) : s.cur ∈ s.tk := by
  unfold PS.k PS.cur at *
  rcases hq : s.tk with _ | ⟨t, r⟩
  · rw [hq] at h; exact absurd rfl h
  · exact List.mem_cons_self
theorem Po.name {k : Nat} {f : Str → PS → PR} (hp : Pe s) (h : NmW s.cur.s → (0 < k → s.al + k ≤ 12) → Po Q (f s.cur.s s.adv)) : Po Q (nameP k s f) :=
  .ite (fun _ => .fail) fun e => .ite (fun _ => .fail) fun e2 => by
    have e : s.k = 2 := by omega
    exact h ((hp.tk _ (cur_mem (by rw [e]; decide))).1 e) (fun hk => by omega)
theorem Po.imp {o : PR} (h : Po Q' o) (k : ∀ t s, Q' t s → Q t s) : Po Q o := fun t s e => k t s (h t s e)
end
/-- the lp of a state. -/
def lpS (s : PS) : Bool := decide (0 < s.lo)
def PreM (m lv r n : Nat) (x : Tr) (s : PS) : Prop :=
  Pe s ∧ (m = 1 → lv ≤ 12 ∧ QE x (bR lv r)) ∧ (m = 4 → lv ≤ 12 ∧ QE x (bR lv 7)) ∧ (m = 5 → r = 40 ∨ r = 42) ∧ (m = 5 → r = 40 → n ≤ 3) ∧ (m = 11 → n ≤ 3 ∧ x.ps.length = n ∧ ∀ s ∈ x.ps, NmW s) ∧ (m = 7 ∨ m = 8 ∨ m = 9 ∨ m = 10 ∨ m = 12 → lv ≤ 12) ∧ (m = 10 → True) ∧ (m = 12 → s.fu < 12)
def QM (m lv r n : Nat) (x : Tr) (s : PS) (t : Tr) (s' : PS) : Prop :=
  if m = 0 then QE t (bR lv r) ∧ Sm s s' ∧ numsT t = rgF s s' ∧ lv ≤ 12
  else if m = 1 then QE t (bR lv r) ∧ Sm s s' ∧ numsT t = numsT x ++ rgF s s'
  else if m = 2 ∨ m = 3 then QE t (bR lv 7) ∧ Sm s s' ∧ numsT t = rgF s s' ∧ lv ≤ 12
  else if m = 4 then QE t (bR lv 7) ∧ Sm s s' ∧ numsT t = numsT x ++ rgF s s'
  else if m = 5 then QL t lv ∧ (r = 40 → lenE t ≤ 3 - n) ∧ Sm s s' ∧ numsT t = rgF s s'
  else if m = 6 then LyL 3 t ∧ W t (lpS s) s.al ∧ Sm s s' ∧ numsT t = rgF s s'
  else if m = 7 then LyL 3 t ∧ W t (lpS s) s.al ∧ Cm s s' ∧ s'.lo = s.lo ∧ numsT t = rgF s s'
  else if m = 8 then LyE 2 t ∧ W t (lpS s) s.al ∧ Cm s s' ∧ s'.lo = s.lo ∧ s'.al = aftN s.al t ∧ numsT t = rgF s s'
  else if m = 9 then LyE 2 t ∧ W t (lpS s) s.al ∧ Sm s s' ∧ numsT t = rgF s s' ∧ t.c = 21
  else if m = 10 then LyL 3 t ∧ W t true (s.al + r) ∧ Sm s s' ∧ numsT t = rgF s s'
  else if m = 11 then (t.ps.length ≤ 3 ∧ ∀ s ∈ t.ps, NmW s) ∧ Sm s s' ∧ s'.fu = s.fu
  else ∃ k ps b, t = Ex.func k ps b ∧ LyL 3 b ∧ FnW k ps ∧ W b false ps.length ∧ Sm s s' ∧ numsT t = rgF s s'

end Go.Proofs.Qxb6500568aGreatDoor
