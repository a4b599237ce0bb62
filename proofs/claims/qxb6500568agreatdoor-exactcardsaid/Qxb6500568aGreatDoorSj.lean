import Derived.Test.Qxb6500568aGreatDoorSi
namespace Go.Proofs.Qxb6500568aGreatDoor
open Ieee
set_option linter.unusedVariables false
set_option linter.unusedSimpArgs false
set_option linter.unusedSectionVars false

/-! Statements: the modes. -/

section
variable {f : Nat} {lv r n : Nat} {x : Tr} {s : PS}
theorem IH.i6 (I : IH f) (hp : Pe s) : Po (fun t s' => LyL 3 t ∧ W t (lpS s) s.al ∧ Sm s s' ∧ numsT t = rgF s s') (parP f 6 lv r n x s) :=
  I 6 lv r n x s (by decide) ⟨hp, (fun e => by cases e), (fun e => by cases e), (fun e => by cases e), (fun e => by cases e), (fun e => by cases e), (fun e => by omega), (fun e => by cases e), (fun e => by cases e)⟩
theorem IH.i7 (I : IH f) (hp : Pe s) (hl : lv ≤ 12) : Po (fun t s' => LyL 3 t ∧ W t (lpS s) s.al ∧ Cm s s' ∧ s'.lo = s.lo ∧ numsT t = rgF s s') (parP f 7 lv r n x s) :=
  I 7 lv r n x s (by decide) ⟨hp, (fun e => by cases e), (fun e => by cases e), (fun e => by cases e), (fun e => by cases e), (fun e => by cases e), fun _ => hl, (fun e => by cases e), (fun e => by cases e)⟩
theorem IH.i8 (I : IH f) (hp : Pe s) (hl : lv ≤ 12) : Po (fun t s' => LyE 2 t ∧ W t (lpS s) s.al ∧ Cm s s' ∧ s'.lo = s.lo ∧ s'.al = aftN s.al t ∧ numsT t = rgF s s') (parP f 8 lv r n x s) :=
  I 8 lv r n x s (by decide) ⟨hp, (fun e => by cases e), (fun e => by cases e), (fun e => by cases e), (fun e => by cases e), (fun e => by cases e), fun _ => hl, (fun e => by cases e), (fun e => by cases e)⟩
theorem IH.i9 (I : IH f) (hp : Pe s) (hl : lv ≤ 12) : Po (fun t s' => LyE 2 t ∧ W t (lpS s) s.al ∧ Sm s s' ∧ numsT t = rgF s s' ∧ t.c = 21) (parP f 9 lv r n x s) :=
  I 9 lv r n x s (by decide) ⟨hp, (fun e => by cases e), (fun e => by cases e), (fun e => by cases e), (fun e => by cases e), (fun e => by cases e), fun _ => hl, (fun e => by cases e), (fun e => by cases e)⟩
theorem IH.i10 (I : IH f) (hp : Pe s) (hl : lv ≤ 12) : Po (fun t s' => LyL 3 t ∧ W t true (s.al + r) ∧ Sm s s' ∧ numsT t = rgF s s') (parP f 10 lv r n x s) :=
  I 10 lv r n x s (by decide) ⟨hp, (fun e => by cases e), (fun e => by cases e), (fun e => by cases e), (fun e => by cases e), (fun e => by cases e), fun _ => hl, fun _ => trivial, (fun e => by cases e)⟩
theorem IH.i11 (I : IH f) (hp : Pe s) (h1 : n ≤ 3) (h2 : x.ps.length = n) (h3 : ∀ s ∈ x.ps, NmW s) : Po (fun t s' => (t.ps.length ≤ 3 ∧ ∀ s ∈ t.ps, NmW s) ∧ Sm s s' ∧ s'.fu = s.fu) (parP f 11 lv r n x s) :=
  I 11 lv r n x s (by decide) ⟨hp, (fun e => by cases e), (fun e => by cases e), (fun e => by cases e), (fun e => by cases e), fun _ => ⟨h1, h2, h3⟩, (fun e => by omega), (fun e => by cases e), (fun e => by cases e)⟩
/-- an expression of a statement. -/
theorem IH.ie (I : IH f) (hp : Pe s) : Po (fun t s' => QE t 78 ∧ Sm s s' ∧ numsT t = rgF s s') (parP f 0 (lv + 1) 1 n x s) :=
  (I.i0 hp).imp fun t s' q => ⟨q.1.le (by rw [bR1]; unfold bE; omega), q.2.1, q.2.2.1⟩

theorem st_block (I : IH f) (hp : Pe s) : Po (fun t s' => LyL 3 t ∧ W t (lpS s) s.al ∧ Sm s s' ∧ numsT t = rgF s s') (pBlock (parP f) lv s) :=
  .ite (fun _ => .fail) fun hl => .bd (I.i7 hp (by omega)) fun t s1 ⟨q1, q2, q3, q4, q5⟩ => .ok ⟨q1, q2, ⟨⟨q3.tk, q3.fu, q3.f12⟩, rfl, q4⟩, q5⟩
theorem st_stmts (I : IH f) (hp : Pe s) (hl : lv ≤ 12) : Po (fun t s' => LyL 3 t ∧ W t (lpS s) s.al ∧ Cm s s' ∧ s'.lo = s.lo ∧ numsT t = rgF s s') (pStmts (parP f) lv r s) := by
  refine .ite (fun _ => .ok ⟨ly_nilB, trivial, Cm.refl hp, rfl, by rw [rgF_eq rfl]; rfl⟩) fun _ => .ite (fun _ => .fail) fun _ => .bd (I.i8 hp hl) fun t s1 ⟨q1, q2, q3, q4, q5, q6⟩ => ?_
  refine .bd (I.i7 (hp.cm q3) hl) fun l s2 ⟨k1, k2, k3, k4, k5⟩ => .ok ⟨ly_consB q1 k1, ⟨q2, ?_⟩, q3.trans k3, k4.trans q4, ?_⟩
  · rw [← q5]
    have e : lpS s = lpS s1 := by unfold lpS; rw [q4]
    rw [e]; exact k2
  · show numsT t ++ numsT l = _
    rw [q6, k5, rgF_trans q3.fu k3.fu]
theorem st_pars (I : IH f) (hp : Pe s) (h1 : n ≤ 3) (h2 : x.ps.length = n) (h3 : ∀ s ∈ x.ps, NmW s) : Po (fun t s' => (t.ps.length ≤ 3 ∧ ∀ s ∈ t.ps, NmW s) ∧ Sm s s' ∧ s'.fu = s.fu) (pPars (parP f) n x s) := by
  have go : ∀ s1 : PS, Sm s s1 → s1.fu = s.fu → Po (fun t s' => (t.ps.length ≤ 3 ∧ ∀ s ∈ t.ps, NmW s) ∧ Sm s s' ∧ s'.fu = s.fu) (if n = 3 then failP 19 s1 else nameP 0 s1 fun nm s => parP f 11 0 0 (n + 1) { x with ps := x.ps ++ [nm] } s) := fun s1 hs hfu => by
    have hp1 := hp.cm hs.toCm
    refine .ite (fun _ => .fail) fun hn3 => .name hp1 fun hnm _ => ?_
    have hc := hs.trans (Sm.adv hp1)
    refine (I.i11 (x := { x with ps := x.ps ++ [s1.cur.s] }) (hp.cm hc.toCm) (by omega) (by simp [h2]) (fun u hu => ?_)).imp fun t s2 ⟨k1, k2, k3⟩ => ⟨k1, hc.trans k2, k3.trans hfu⟩
    rcases List.mem_append.1 hu with hu | hu
    · exact h3 u hu
    · rw [List.mem_singleton.1 hu]; exact hnm
  exact .ite (fun _ => .ok ⟨⟨by omega, h3⟩, Sm.adv hp, rfl⟩) fun _ => .ite (fun _ => .exp fun _ => go _ (Sm.adv hp) rfl) fun _ => go _ (Sm.refl hp) rfl
theorem st_lit (I : IH f) (hp : Pe s) (hf : s.fu < 12) : Po (fun t s' => ∃ k ps b, t = Ex.func k ps b ∧ LyL 3 b ∧ FnW k ps ∧ W b false ps.length ∧ Sm s s' ∧ numsT t = rgF s s') (pLit (parP f) lv s) := by
  refine .exp fun _ => ?_
  have hp1 : Pe { s.adv with fu := s.adv.fu + 1 } := ⟨(hp.cm (Cm.adv hp)).tk, by show s.fu + 1 ≤ 12; omega⟩
  refine .bd (I.i11 hp1 (by omega) rfl (fun u hu => by cases hu)) fun t s2 ⟨⟨q0, q0'⟩, q1, q2⟩ => ?_
  have hp2 : Pe { s2 with al := t.ps.length, lo := 0 } := ⟨(hp1.cm q1.toCm).tk, q1.f12⟩
  refine .bd (I.i6 hp2) fun b s3 ⟨k1, k2, k3, k4⟩ => .exp fun _ => .ok ⟨s.fu + 1, t.ps, b, rfl, k1, ⟨by omega, q0', q0⟩, k2, ?_, ?_⟩
  · have h1 : s2.tk <:+ s.tk := q1.tk.trans (List.tail_suffix _)
    have h2 : s3.tk <:+ s2.tk := k3.tk
    have h3 : s2.fu = s.fu + 1 := q2
    have h4 : s2.fu ≤ s3.fu := k3.fu
    exact ⟨⟨(List.tail_suffix _).trans (h2.trans h1), by show s.fu ≤ s3.fu; omega, k3.f12⟩, q1.al, q1.lo⟩
  · show (s.fu + 1) :: numsT b = List.range' (s.fu + 1) (s3.fu - s.fu)
    rw [k4]
    have h3 : s2.fu = s.fu + 1 := q2
    have h4 : s2.fu ≤ s3.fu := k3.fu
    show (s.fu + 1) :: List.range' (s2.fu + 1) (s3.fu - s2.fu) = _
    rw [h3, show s3.fu - s.fu = (s3.fu - (s.fu + 1)) + 1 by omega, List.range'_succ]
theorem st_body (I : IH f) (hp : Pe s) : Po (fun t s' => LyL 3 t ∧ W t true (s.al + r) ∧ Sm s s' ∧ numsT t = rgF s s') (pBody (parP f) lv r s) := by
  refine .exp fun _ => ?_
  have hp1 : Pe { s.adv with al := s.adv.al + r, lo := s.adv.lo + 1 } := ⟨(hp.cm (Cm.adv hp)).tk, hp.fu⟩
  refine .bd (I.i6 hp1) fun b s3 ⟨k1, k2, k3, k4⟩ => .exp fun _ => .ok ⟨k1, ?_, ?_, k4⟩
  · have e : lpS { s.adv with al := s.adv.al + r, lo := s.adv.lo + 1 } = true := by unfold lpS; simp
    rw [e] at k2; exact k2
  · have h2 : s3.tk <:+ s.adv.tk := k3.tk
    have ha : s3.al = s.al + r := k3.al
    have hlo : s3.lo = s.lo + 1 := k3.lo
    exact ⟨⟨(List.tail_suffix _).trans (h2.trans (List.tail_suffix _)), k3.fu, k3.f12⟩, by show s3.al - r = s.al; omega, by show s3.lo - 1 = s.lo; omega⟩
theorem st_if (I : IH f) (hp : Pe s) (hl : lv ≤ 12) : Po (fun t s' => LyE 2 t ∧ W t (lpS s) s.al ∧ Sm s s' ∧ numsT t = rgF s s' ∧ t.c = 21) (pIf (parP f) lv s) := by
  have hpa := hp.cm (Cm.adv hp)
  refine .bd ((I.i0 (lv := lv + 1) (r := 1) (n := 0) (x := dumT) hpa)) fun c s1 ⟨q1, q2, q3, q12⟩ => .exp fun _ => ?_
  have hqe : QE c 78 := q1.le (by rw [bR1]; unfold bE; omega)
  have c1 := ((Sm.adv hp).trans q2).trans (Sm.adv (hpa.cm q2.toCm))
  have e1 : ∀ {s' : PS}, Sm s s' → lpS s' = lpS s := fun h => by unfold lpS; rw [h.lo]
  refine .bd (I.i6 (hp.cm c1.toCm)) fun b s2 ⟨k1, k2, k3, k4⟩ => ?_
  rw [e1 c1, c1.al] at k2
  have c2 := c1.trans k3
  have hp2 := hp.cm c2.toCm
  have hd := hqe.d
  have fin : ∀ {e : Tr} {s3 : PS}, LyL 3 e → W e (lpS s) s.al → Sm s2 s3 → numsT e = rgF s2 s3 → (LyE 2 (St.iff c b e) ∧ W (St.iff c b e) (lpS s) s.al ∧ Sm s s3 ∧ numsT (St.iff c b e) = rgF s s3 ∧ (St.iff c b e).c = 21) := fun {e s3} l1 l2 l3 l4 =>
    ⟨ly_iff hqe.ly k1 l1, ⟨by omega, hqe.w _ _, k2, l2⟩, c2.trans l3, by
      show numsT c ++ (numsT b ++ numsT e) = _
      have h1 : s.fu ≤ s1.fu := q2.fu
      have h2 : s1.fu ≤ s2.fu := k3.fu
      rw [q3, k4, l4, rg_adv, show rgF s1.adv s2 = rgF s1 s2 from rfl, rgF_trans h2 l3.fu, rgF_trans h1 (Nat.le_trans h2 l3.fu)], rfl⟩
  refine .ite (fun _ => .bd (I.i9 hp2 (by omega)) fun t s3 ⟨g1, g2, g3, g4, g5⟩ => .ok ?_) fun _ => .ite (fun _ => ?_) fun _ => .exp fun _ => .ok ?_
  · rw [e1 c2, c2.al] at g2
    refine fin (ly_consB g1 ly_nilB) ⟨g2, trivial⟩ g3 ?_
    show numsT t ++ [] = _
    rw [List.append_nil]; exact g4
  · refine .bd (I.i6 (hp2.cm (Cm.adv hp2))) fun e s3 ⟨g1, g2, g3, g4⟩ => .exp fun _ => .ok ?_
    have g2 : W e (lpS s2) s2.al := g2
    rw [e1 c2, c2.al] at g2
    have c3 := (Sm.adv hp2).trans g3
    exact fin g1 g2 (c3.trans (Sm.adv (hp2.cm c3.toCm))) g4
  · exact fin ly_nilB trivial (Sm.adv hp2) (by rw [rgF_adv]; rfl)
end

end Go.Proofs.Qxb6500568aGreatDoor
