import Derived.Test.Qxb6500568aGreatDoorSj
namespace Go.Proofs.Qxb6500568aGreatDoor
open Ieee
set_option linter.unusedVariables false
set_option linter.unusedSimpArgs false
set_option linter.unusedSectionVars false

/-! Statements: the rest; all modes. -/

section
variable {f : Nat} {lv r n : Nat} {x : Tr} {s : PS}
/-- what a statement's tree is like. -/
def QS (s : PS) (t : Tr) (s' : PS) : Prop := LyE 2 t ∧ W t (lpS s) s.al ∧ Cm s s' ∧ s'.lo = s.lo ∧ s'.al = aftN s.al t ∧ numsT t = rgF s s'
theorem st_local (I : IH f) (hp : Pe s) (hl : lv ≤ 12) : Po (QS s) (pLocal (parP f) lv s) := by
  refine .ite (fun _ => .ite (fun _ => .fail) fun hfu => .name (hp.cm (Cm.adv hp)) fun hnm hal => ?_) fun _ => .name hp fun hnm hal => .ite (fun _ => ?_) fun _ => .ite (fun _ => ?_) fun _ => .ok ?_
  · have c1 := (Sm.adv hp).trans (Sm.adv (hp.cm (Cm.adv hp)))
    have hp1 : Pe { s.adv.adv with al := s.adv.adv.al + 1 } := ⟨(hp.cm c1.toCm).tk, hp.fu⟩
    refine .bd (I.i12 hp1 hl (by show s.fu < 12; omega)) fun t s2 ⟨k, ps, b, q1, q2, q3, q4, q5, q6⟩ => .ok ?_
    subst q1
    have h2 : s2.tk <:+ s.adv.adv.tk := q5.tk
    exact ⟨ly_locFn q2, ⟨hnm, hal (by omega), q3, q4⟩, ⟨h2.trans c1.tk, q5.fu, q5.f12⟩, q5.lo, q5.al, q6⟩
  · have c1 := Sm.adv hp
    have hp1 := hp.cm c1.toCm
    have c2 := c1.trans (Sm.adv hp1)
    have hp2 := hp.cm c2.toCm
    refine .name hp2 fun hnm2 hal2 => .exp fun _ => ?_
    have c3 := (c2.trans (Sm.adv hp2)).trans (Sm.adv (hp.cm (c2.trans (Sm.adv hp2)).toCm))
    refine .bd (I.ie (hp.cm c3.toCm)) fun v s4 ⟨q1, q2, q3⟩ => .ite (fun hc => .ok ?_) fun _ => .fail
    obtain ⟨g, zs, rfl, l1, l2⟩ := q1.top.2.2 hc
    have c4 := c3.trans q2
    have hw : lenE zs ≤ 3 ∧ W g false s.al ∧ W zs false s.al := q1.w false s.al
    have hd := q1.d
    rw [dE_call] at hd
    have ha : s4.al = s.al := c4.al
    show QS s (St.loc2 s.cur.s s.adv.adv.cur.s g zs) { s4 with al := s4.al + 2 }
    exact ⟨ly_loc2 l1 l2, ⟨hnm, hnm2, hal2 (by omega), ⟨by omega, hw.1⟩, hw.2.1, hw.2.2⟩, ⟨c4.tk, c4.fu, c4.f12⟩, c4.lo, by show s4.al + 2 = s.al + 2; rw [ha], q3⟩
  · have c1 := Sm.adv hp
    have hp1 := hp.cm c1.toCm
    have c2 := c1.trans (Sm.adv hp1)
    refine .bd (I.ie (hp.cm c2.toCm)) fun v s4 ⟨q1, q2, q3⟩ => .ok ?_
    have c4 := c2.trans q2
    have ha : s4.al = s.al := c4.al
    have hd := q1.d
    exact ⟨ly_locV q1.ly, ⟨hnm, hal (by omega), by omega, q1.w _ _⟩, ⟨c4.tk, c4.fu, c4.f12⟩, c4.lo, by show s4.al + 1 = s.al + 1; rw [ha], q3⟩
  · have c1 := Sm.adv hp
    exact ⟨ly_loc, ⟨hnm, hal (by omega)⟩, ⟨c1.tk, c1.fu, c1.f12⟩, rfl, rfl, (rgF_adv (s := s)).symm⟩
theorem st_for (I : IH f) (hp : Pe s) (hl : lv ≤ 12) : Po (QS s) (pFor (parP f) lv s) := by
  refine .name hp fun hnm hal => .ite (fun _ => ?_) fun _ => .exp fun _ => ?_
  · have c1 := Sm.adv hp
    have hp1 := hp.cm c1.toCm
    have c2 := c1.trans (Sm.adv hp1)
    have hp2 := hp.cm c2.toCm
    refine .name hp2 fun hnm2 _ => .exp fun _ => ?_
    have c3 := (c2.trans (Sm.adv hp2)).trans (Sm.adv (hp.cm (c2.trans (Sm.adv hp2)).toCm))
    refine .bd (I.ie (hp.cm c3.toCm)) fun v s4 ⟨q1, q2, q3⟩ => ?_
    have c4 := c3.trans q2
    have ha : s4.al = s.al := c4.al
    refine .bd (I.i10 (r := 4) (hp.cm c4.toCm) hl) fun b s5 ⟨k1, k2, k3, k4⟩ => .ok ?_
    have c5 := c4.trans k3
    rw [ha] at k2
    have hd := q1.d
    exact ⟨ly_forIn q1.ly k1, ⟨hnm, hnm2, hal (by omega), by omega, q1.w _ _, k2⟩, c5.toCm, c5.lo, c5.al, by show numsT v ++ numsT b = _; rw [q3, k4]; exact rgF_trans (a := s) (b := s4) (c := s5) c4.fu k3.fu⟩
  · have c1 := Sm.adv hp
    have hp1 := hp.cm c1.toCm
    have c2 := c1.trans (Sm.adv hp1)
    refine .bd (I.ie (hp.cm c2.toCm)) fun v1 s3 ⟨q1, q2, q3⟩ => .exp fun _ => ?_
    have c3 := c2.trans q2
    have c3' := c3.trans (Sm.adv (hp.cm c3.toCm))
    refine .bd (I.ie (hp.cm c3'.toCm)) fun v2 s4 ⟨g1, g2, g3⟩ => .ite (fun _ => ?_) fun _ => ?_
    · have c4 := c3'.trans g2
      have c4' := c4.trans (Sm.adv (hp.cm c4.toCm))
      refine .bd (I.ie (hp.cm c4'.toCm)) fun v3 s5 ⟨l1, l2, l3⟩ => ?_
      have c5 := c4'.trans l2
      have ha : s5.al = s.al := c5.al
      refine .bd (I.i10 (r := 4) (hp.cm c5.toCm) hl) fun b s6 ⟨k1, k2, k3, k4⟩ => .ok ?_
      have c6 := c5.trans k3
      rw [ha] at k2
      have hd := q1.d
      have hd2 := g1.d
      have hd3 := l1.d
      refine ⟨ly_for3 q1.ly g1.ly l1.ly k1, ⟨hnm, hal (by omega), by omega, by omega, by omega, q1.w _ _, g1.w _ _, l1.w _ _, k2⟩, c6.toCm, c6.lo, c6.al, ?_⟩
      show numsT v1 ++ (numsT v2 ++ (numsT v3 ++ numsT b)) = _
      have f1 : s.fu ≤ s3.fu := c3.fu
      have f2 : s3.fu ≤ s4.fu := g2.fu
      have f3 : s4.fu ≤ s5.fu := l2.fu
      have f4 : s5.fu ≤ s6.fu := k3.fu
      rw [q3, g3, l3, k4]
      show rgF s s3 ++ (rgF s3 s4 ++ (rgF s4 s5 ++ rgF s5 s6)) = _
      rw [rgF_trans f3 f4, rgF_trans f2 (by omega), rgF_trans f1 (by omega)]
    · have c4 := c3'.trans g2
      have ha : s4.al = s.al := c4.al
      refine .bd (I.i10 (r := 4) (hp.cm c4.toCm) hl) fun b s6 ⟨k1, k2, k3, k4⟩ => .ok ?_
      have c6 := c4.trans k3
      rw [ha] at k2
      have hd := q1.d
      have hd2 := g1.d
      refine ⟨ly_for2 q1.ly g1.ly k1, ⟨hnm, hal (by omega), by omega, by omega, q1.w _ _, g1.w _ _, k2⟩, c6.toCm, c6.lo, c6.al, ?_⟩
      show numsT v1 ++ (numsT v2 ++ numsT b) = _
      have f1 : s.fu ≤ s3.fu := c3.fu
      have f2 : s3.fu ≤ s4.fu := g2.fu
      have f4 : s4.fu ≤ s6.fu := k3.fu
      rw [q3, g3, k4]
      show rgF s s3 ++ (rgF s3 s4 ++ rgF s4 s6) = _
      rw [rgF_trans f2 f4, rgF_trans f1 (by omega)]
theorem st_ret (I : IH f) (hp : Pe s) : Po (QS s) (pRet (parP f) lv s) := by
  refine .ite (fun _ => .ok ⟨ly_ret0, trivial, Cm.refl hp, rfl, rfl, by rw [rgF_eq rfl]; rfl⟩) fun _ => .bd (I.ie hp) fun v s1 ⟨q1, q2, q3⟩ => .ite (fun _ => ?_) fun _ => .ok ?_
  · have c1 := q2.trans (Sm.adv (hp.cm q2.toCm))
    refine .bd (I.ie (hp.cm c1.toCm)) fun w s2 ⟨k1, k2, k3⟩ => .ok ?_
    have c2 := c1.trans k2
    have hd := q1.d
    have hd2 := k1.d
    exact ⟨ly_ret2 q1.ly k1.ly, ⟨by omega, by omega, q1.w _ _, k1.w _ _⟩, c2.toCm, c2.lo, c2.al, by show numsT v ++ numsT w = _; rw [q3, k3]; exact rgF_trans (a := s) (b := s1) (c := s2) q2.fu k2.fu⟩
  · have hd := q1.d
    exact ⟨ly_ret1 q1.ly, ⟨by omega, q1.w _ _⟩, q2.toCm, q2.lo, q2.al, q3⟩
theorem st_stmt (I : IH f) (hp : Pe s) (hl : lv ≤ 12) : Po (QS s) (pStmt (parP f) lv s) := by
  have hpa := hp.cm (Cm.adv hp)
  have ca := Sm.adv hp
  have lift : ∀ {t s'}, QS s.adv t s' → QS s t s' := fun {t s'} ⟨q1, q2, q3, q4, q5, q6⟩ => ⟨q1, q2, ca.toCm.trans q3, q4, q5, q6⟩
  refine .ite (fun _ => (st_local I hpa hl).imp fun _ _ => lift) fun _ => .ite (fun _ => (I.i9 hp hl).imp fun t s' ⟨q1, q2, q3, q4, q5⟩ => ⟨q1, q2, q3.toCm, q3.lo, ?_, q4⟩) fun _ => .ite (fun _ => (st_for I hpa hl).imp fun _ _ => lift) fun _ => .ite (fun _ => ?_) fun _ =>
    .ite (fun _ => .ite (fun _ => .fail) fun h0 => .ok ⟨ly_brk, by show lpS s = true; unfold lpS; simp; omega, ca.toCm, rfl, rfl, (rgF_adv (s := s)).symm⟩) fun _ => .ite (fun _ => (st_ret I hpa).imp fun _ _ => lift) fun _ => .bd (I.i3 hp) fun t s1 ⟨q1, q2, q3, q4⟩ => ?_
  · rw [q3.al]; unfold aftN; rw [q5]; simp
  · refine .bd (I.ie hpa) fun c s1 ⟨q1, q2, q3⟩ => ?_
    have c1 := ca.trans q2
    have ha : s1.al = s.al := c1.al
    refine .bd (I.i10 (r := 0) (hp.cm c1.toCm) hl) fun b s2 ⟨k1, k2, k3, k4⟩ => .ok ?_
    have c2 := c1.trans k3
    rw [ha] at k2
    have hd := q1.d
    exact ⟨ly_whl q1.ly k1, ⟨by omega, q1.w _ _, k2⟩, c2.toCm, c2.lo, c2.al, by show numsT c ++ numsT b = _; rw [q3, k4]; exact rgF_trans (a := s) (b := s1) (c := s2) c1.fu k3.fu⟩
  · have c1 := q2.trans (Sm.adv (hp.cm q2.toCm))
    have hqd : dE t ≤ 78 := Nat.le_trans q1.d (by unfold bR bE; omega)
    refine .ite (fun _ => .ite (fun h3 => ?_) fun _ => .ite (fun h4 => ?_) fun _ => .fail) fun _ => .ite (fun h5 => .ok ?_) fun _ => .fail
    · obtain ⟨nm, rfl⟩ := q1.top.1 h3
      refine .bd (I.ie (hp.cm c1.toCm)) fun v s2 ⟨k1, k2, k3⟩ => .ok ?_
      have c2 := c1.trans k2
      have hd := k1.d
      have hw : NmW nm := q1.w false 0
      refine ⟨ly_setN k1.ly, ⟨hw, by omega, k1.w _ _⟩, c2.toCm, c2.lo, c2.al, ?_⟩
      show numsT v = _
      have f1 : s.fu ≤ s1.fu := q2.fu
      have f2 : s1.fu ≤ s2.fu := k2.fu
      have h0 : [] = rgF s s1 := q3
      rw [k3, ← rgF_trans f1 f2, ← h0]; rfl
    · obtain ⟨a, k, rfl, l1, l2⟩ := q1.top.2.1 h4
      refine .bd (I.ie (hp.cm c1.toCm)) fun v s2 ⟨k1, k2, k3⟩ => .ok ?_
      have c2 := c1.trans k2
      have hd := k1.d
      rw [dE_index] at hqd
      have hw : W a false s.al ∧ W k false s.al := q1.w false s.al
      show QS s (St.setI a k v) s2
      refine ⟨ly_setI l1 l2 k1.ly, ⟨by omega, by omega, by omega, hw.1, hw.2, k1.w _ _⟩, c2.toCm, c2.lo, c2.al, ?_⟩
      show numsT a ++ (numsT k ++ numsT v) = _
      have f1 : s.fu ≤ s1.fu := q2.fu
      have f2 : s1.fu ≤ s2.fu := k2.fu
      have h0 : numsT a ++ numsT k = rgF s s1 := q3
      rw [← List.append_assoc, h0, k3]
      exact rgF_trans f1 f2
    · obtain ⟨g, zs, rfl, l1, l2⟩ := q1.top.2.2 h5
      rw [dE_call] at hqd
      have hw : lenE zs ≤ 3 ∧ W g false s.al ∧ W zs false s.al := q1.w false s.al
      show QS s (St.call g zs) s1
      exact ⟨ly_scall l1 l2, ⟨⟨by omega, hw.1⟩, hw.2.1, hw.2.2⟩, q2.toCm, q2.lo, q2.al, q3⟩
end

end Go.Proofs.Qxb6500568aGreatDoor
