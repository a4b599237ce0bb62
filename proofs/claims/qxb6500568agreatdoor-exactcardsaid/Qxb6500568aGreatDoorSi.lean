import Derived.Test.Qxb6500568aGreatDoorSh
namespace Go.Proofs.Qxb6500568aGreatDoor
open Ieee
set_option linter.unusedVariables false
set_option linter.unusedSimpArgs false
set_option linter.unusedSectionVars false

/-! Expressions: the modes. -/

section
variable {f : Nat} {lv r n : Nat} {x : Tr} {s : PS}
theorem rg_adv {s s' : PS} : rgF s.adv s' = rgF s s' := rfl
theorem st_expr (I : IH f) (hp : Pe s) : Po (fun t s' => QE t (bR lv r) ∧ Sm s s' ∧ numsT t = rgF s s' ∧ lv ≤ 12) (pExpr (parP f) lv r s) :=
  .bd (I.i2 hp) fun t s1 ⟨q1, q2, q3, q4⟩ => by
    by_cases h7 : r ≤ 7
    · exact (I.i1 (hp.cm q2.toCm) q4 (q1.le (bR_le h7))).imp fun t' s2 ⟨k1, k2, k3⟩ => ⟨k1, q2.trans k2, by rw [k3, q3, rgF_trans q2.fu k2.fu], q4⟩
    · have e : bR lv r = bR lv 7 := by unfold bR; rw [if_pos (by omega), if_pos (by omega)]
      exact (I.i1 (hp.cm q2.toCm) q4 (q1.le (by rw [e]; exact Nat.le_refl _))).imp fun t' s2 ⟨k1, k2, k3⟩ => ⟨k1, q2.trans k2, by rw [k3, q3, rgF_trans q2.fu k2.fu], q4⟩
theorem st_climb (I : IH f) (hp : Pe s) (hl : lv ≤ 12) (hx : QE x (bR lv r)) : Po (fun t s' => QE t (bR lv r) ∧ Sm s s' ∧ numsT t = numsT x ++ rgF s s') (pClimb (parP f) lv r x s) := by
  refine .ite (fun e => ?_) fun _ => .ok ⟨hx, Sm.refl hp, by rw [rgF_eq rfl, List.append_nil]⟩
  have hpa := hp.cm (Cm.adv hp)
  refine .bd (Q' := fun y s' => QE y (if rankK s.k = 4 then bR (lv + 1) 4 else bR lv (rankK s.k + 1)) ∧ Sm s.adv s' ∧ numsT y = rgF s.adv s') (.ite (fun h4 => ?_) fun h4 => ?_) fun y s1 ⟨q1, q2, q3⟩ => ?_
  · rw [if_pos h4]; exact (I.i0 hpa).imp fun _ _ q => ⟨q.1, q.2.1, q.2.2.1⟩
  · rw [if_neg h4]; exact (I.i0 hpa).imp fun _ _ q => ⟨q.1, q.2.1, q.2.2.1⟩
  · have hb := qe_bin e.1 hx q1 (bin_bound e.1 e.2 hl)
    have q2' := (Sm.adv hp).trans q2
    exact (I.i1 (hp.cm q2'.toCm) hl hb).imp fun t' s2 ⟨k1, k2, k3⟩ => ⟨k1, q2'.trans k2, by rw [k3, nums_bin e.1, q3, rg_adv, List.append_assoc, rgF_trans q2'.fu k2.fu]⟩
theorem st_unary (I : IH f) (hp : Pe s) : Po (fun t s' => QE t (bR lv 7) ∧ Sm s s' ∧ numsT t = rgF s s' ∧ lv ≤ 12) (pUnary (parP f) lv s) := by
  have hpa := hp.cm (Cm.adv hp)
  refine .ite (fun _ => .fail) fun hl => ?_
  have go : ∀ u, 1 ≤ u → u ≤ 3 → Po (fun t s' => QE t (bR lv 7) ∧ Sm s s' ∧ numsT t = rgF s s' ∧ lv ≤ 12) (bdP (parP f 2 (lv + 1) 0 0 dumT s.adv) fun x s => okP (Ex.un u x) s) := fun u h1 h3 =>
    .bd (I.i2 hpa) fun t s1 ⟨q1, q2, q3, q4⟩ => .ok ⟨⟨ly_un q1.ly, fun lp n => ⟨⟨h1, h3⟩, q1.w _ _⟩, by
      rw [dE_un]
      have := q1.d
      rw [bR7 q4] at this
      rw [bR7 (by omega)]
      unfold bE at *
      omega, top_of (c := 9) rfl (by decide) (by decide) (by decide)⟩, (Sm.adv hp).trans q2, by show numsT t = _; rw [q3]; rfl, by omega⟩
  exact .ite (fun _ => go 1 (by omega) (by omega)) fun _ => .ite (fun _ => go 2 (by omega) (by omega)) fun _ => .ite (fun _ => go 3 (by omega) (by omega)) fun _ => I.i3 hp
theorem st_prim (I : IH f) (hp : Pe s) (hl : lv ≤ 12) : Po (fun t s' => QE t (bR lv 7) ∧ Sm s s' ∧ numsT t = rgF s s') (pPrim (parP f) lv s) := by
  have hpa := hp.cm (Cm.adv hp)
  have h3 : 3 ≤ bR lv 7 := by rw [bR7 hl]; omega
  have lit : ∀ {t : Tr} {c : Nat}, LyE 0 t → (∀ lp n, W t lp n) → dE t = 1 → Top t → numsT t = [] → Po (fun t s' => QE t (bR lv 7) ∧ Sm s s' ∧ numsT t = rgF s s') (okP t s.adv) := fun a b c d e => .ok ⟨⟨a, b, by omega, d⟩, Sm.adv hp, by rw [e, rgF_adv]⟩
  refine .ite (fun e => ?_) fun _ => .ite (fun e => ?_) fun _ => .ite (fun e => ?_) fun _ => .ite (fun e => ?_) fun _ => .ite (fun e => ?_) fun _ => .ite (fun e => ?_) fun _ =>
    .ite (fun e => ?_) fun _ => .ite (fun e => .ite (fun _ => .fail) fun hfu => ?_) fun _ => .ite (fun e => ?_) fun _ => .fail
  · exact lit (c := 1) ly_num (fun lp n => (hp.tk _ (cur_mem (by rw [e]; decide))).2.2 e) dE_num (top_of (c := 1) rfl (by decide) (by decide) (by decide)) rfl
  · exact lit (c := 2) ly_str (fun lp n => (hp.tk _ (cur_mem (by rw [e]; decide))).2.1 e) dE_str (top_of (c := 2) rfl (by decide) (by decide) (by decide)) rfl
  · exact lit (c := 3) ly_name (fun lp n => (hp.tk _ (cur_mem (by rw [e]; decide))).1 e) dE_name ⟨fun _ => ⟨_, rfl⟩, (fun e => by cases e), (fun e => by cases e)⟩ rfl
  · exact lit (c := 0) (ly_lit (by omega)) (fun lp n => trivial) dE_lit (top_of (c := 0) rfl (by decide) (by decide) (by decide)) rfl
  · exact lit (c := 0) (ly_lit (by omega)) (fun lp n => trivial) dE_lit (top_of (c := 0) rfl (by decide) (by decide) (by decide)) rfl
  · exact lit (c := 0) (ly_lit (by omega)) (fun lp n => trivial) dE_lit (top_of (c := 0) rfl (by decide) (by decide) (by decide)) rfl
  · exact .bd (I.i0 hpa) fun t s1 ⟨q1, q2, q3, _⟩ => .exp fun _ => .ok ⟨q1.le (by rw [bR1, bR7 hl]; omega), ((Sm.adv hp).trans q2).trans (Sm.adv (hpa.cm q2.toCm)), q3⟩
  · exact (I.i12 hpa hl (by show s.fu < 12; omega)).imp fun t s1 ⟨k, ps, b, q1, q2, q3, q4, q5, q6⟩ => by
      subst q1
      exact ⟨⟨ly_func q2, fun lp n => ⟨q3, q4⟩, by rw [dE_func]; omega, top_of (c := 6) rfl (by decide) (by decide) (by decide)⟩, (Sm.adv hp).trans q5, q6⟩
  · exact .bd (I.i5 hpa (.inr rfl) (fun e => by cases e)) fun t s1 ⟨q1, q2, q3, q4⟩ => .ok ⟨⟨ly_table q1.ly, fun lp n => q1.w _ _, by rw [dE_table, bR7 hl]; have := q1.i; omega, top_of (c := 7) rfl (by decide) (by decide) (by decide)⟩, (Sm.adv hp).trans q3, q4⟩
theorem st_post (I : IH f) (hp : Pe s) : Po (fun t s' => QE t (bR lv 7) ∧ Sm s s' ∧ numsT t = rgF s s' ∧ lv ≤ 12) (pPost (parP f) lv s) := by
  refine .ite (fun _ => .fail) fun hl => .bd (st_prim I hp (by omega)) fun t s1 ⟨q1, q2, q3⟩ => ?_
  exact (I.i4 (hp.cm q2.toCm) (by omega) q1).imp fun t' s2 ⟨k1, k2, k3⟩ => ⟨k1, q2.trans k2, by rw [k3, q3, rgF_trans q2.fu k2.fu], by omega⟩
theorem st_tail (I : IH f) (hp : Pe s) (hl : lv ≤ 12) (hx : QE x (bR lv 7)) : Po (fun t s' => QE t (bR lv 7) ∧ Sm s s' ∧ numsT t = numsT x ++ rgF s s') (pTail (parP f) lv x s) := by
  have hpa := hp.cm (Cm.adv hp)
  have hxd := hx.d
  have idx : ∀ {k : Tr}, QE k (bE (lv + 1) + 1) → QE (Ex.index x k) (bR lv 7) := fun hk => ⟨ly_index hx.ly hk.ly, fun lp n => ⟨hx.w _ _, hk.w _ _⟩, by
    have := hk.d
    rw [dE_index]
    rw [bR7 hl] at hxd ⊢
    omega, ⟨(fun e => by cases e), fun _ => ⟨_, _, rfl, hx.ly, hk.ly⟩, (fun e => by cases e)⟩⟩
  refine .ite (fun _ => .name hpa fun hnm _ => ?_) fun _ => .ite (fun _ => .bd (I.i0 hpa) fun k s1 ⟨q1, q2, q3, _⟩ => .exp fun _ => ?_) fun _ => .ite (fun _ => .bd (I.i5 hpa (.inl rfl) (fun _ => by omega)) fun l s1 ⟨q1, q2, q3, q4⟩ => ?_) fun _ => .ok ⟨hx, Sm.refl hp, by rw [rgF_eq rfl, List.append_nil]⟩
  · have hc := (Sm.adv hp).trans (Sm.adv hpa)
    refine (I.i4 (hp.cm hc.toCm) hl (idx (k := Ex.str s.adv.cur.s) ⟨ly_str, fun lp n => hnm.2, by rw [dE_str]; omega, top_of (c := 2) rfl (by decide) (by decide) (by decide)⟩)).imp fun t s2 ⟨k1, k2, k3⟩ => ⟨k1, hc.trans k2, ?_⟩
    rw [k3]
    show numsT x ++ [] ++ rgF s s2 = _
    rw [List.append_nil]
  · have hc := ((Sm.adv hp).trans q2).trans (Sm.adv (hpa.cm q2.toCm))
    refine (I.i4 (hp.cm hc.toCm) hl (idx (q1.le (by rw [bR1]; omega)))).imp fun t s2 ⟨k1, k2, k3⟩ => ⟨k1, hc.trans k2, ?_⟩
    rw [k3]
    show numsT x ++ numsT k ++ rgF s1 s2 = _
    have h1 : s.fu ≤ s1.fu := hc.fu
    have h2 : s1.fu ≤ s2.fu := k2.fu
    rw [q3, List.append_assoc, rg_adv, rgF_trans h1 h2]
  · have hc := (Sm.adv hp).trans q3
    have hq : QE (Ex.call x l) (bR lv 7) := ⟨ly_call hx.ly q1.ly, fun lp n => ⟨q2 rfl, hx.w _ _, q1.w _ _⟩, by
      have h1 := q1.a
      have h2 := q2 rfl
      rw [dE_call]
      rw [bR7 hl] at hxd ⊢
      omega, ⟨(fun e => by cases e), (fun e => by cases e), fun _ => ⟨_, _, rfl, hx.ly, q1.ly⟩⟩⟩
    refine (I.i4 (hp.cm hc.toCm) hl hq).imp fun t s2 ⟨k1, k2, k3⟩ => ⟨k1, hc.trans k2, ?_⟩
    rw [k3]
    show numsT x ++ numsT l ++ rgF s1 s2 = _
    rw [q4, List.append_assoc, rg_adv, rgF_trans hc.fu k2.fu]
theorem st_list (I : IH f) (hp : Pe s) (hr : r = 40 ∨ r = 42) (hn : r = 40 → n ≤ 3) : Po (fun t s' => QL t lv ∧ (r = 40 → lenE t ≤ 3 - n) ∧ Sm s s' ∧ numsT t = rgF s s') (pList (parP f) lv r n s) := by
  have go : ∀ s1 : PS, Sm s s1 → s1.fu = s.fu → Po (fun t s' => QL t lv ∧ (r = 40 → lenE t ≤ 3 - n) ∧ Sm s s' ∧ numsT t = rgF s s') (if r = 40 ∧ n = 3 then failP 19 s1 else bdP (parP f 0 lv 1 0 dumT s1) fun x s => bdP (parP f 5 lv r (n + 1) dumT s) fun l s => okP (ExL.cons x l) s) := fun s1 hs hfu => by
    refine .ite (fun _ => .fail) fun h3 => .bd (I.i0 (hp.cm hs.toCm)) fun t s2 ⟨q1, q2, q3, q12⟩ => ?_
    have hc := hs.trans q2
    refine .bd (I.i5 (hp.cm hc.toCm) hr (fun e => by have := hn e; omega)) fun l s3 ⟨k1, k2, k3, k4⟩ => .ok ⟨⟨ly_consA q1.ly k1.ly, fun lp n => ⟨q1.w _ _, k1.w _ _⟩, ?_, ?_⟩, fun e => ?_, hc.trans k3, ?_⟩
    · have h1 := q1.d
      have h2 := k1.a
      have h4 : 1 ≤ bE lv := by unfold bE; omega
      rw [bR1] at h1
      rw [dA_cons, lenE_cons]
      omega
    · have h1 := q1.d
      have h2 := k1.i
      rw [bR1] at h1
      rw [dI_cons]
      omega
    · have := k2 e
      have := hn e
      rw [lenE_cons]
      have : ¬ n = 3 := fun q => h3 ⟨e, q⟩
      omega
    · show numsT t ++ numsT l = _
      rw [q3, k4, rgF_trans q2.fu k3.fu]
      unfold rgF; rw [hfu]
  refine .ite (fun _ => .ok ⟨⟨ly_nilA, fun lp n => trivial, by rw [dA_nil]; omega, by rw [dI_nil]; omega⟩, fun _ => by rw [lenE_nil]; omega, Sm.adv hp, by rw [rgF_adv]; rfl⟩) fun _ => .ite (fun _ => .exp fun _ => go _ (Sm.adv hp) rfl) fun _ => go _ (Sm.refl hp) rfl
end

end Go.Proofs.Qxb6500568aGreatDoor
