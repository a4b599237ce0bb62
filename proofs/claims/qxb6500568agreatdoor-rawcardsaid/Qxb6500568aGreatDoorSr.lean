import Derived.Test.Qxb6500568aGreatDoorSp
/- Every node of a tree is paid by a token of its own. -/
namespace Go.Proofs.Qxb6500568aGreatDoor
open Ieee
set_option linter.unusedVariables false
set_option linter.unusedSimpArgs false
set_option linter.unusedSectionVars false

def el (t : Tr) : Nat := if t.c = 5 then 1 else 0
theorem el_no {t : Tr} (h : Nat.beq t.c 5 = false) : el t = 0 := if_neg (nc h)
theorem el_bin (k : Nat) (x y : Tr) : el (binT k x y) = 0 := by
  unfold binT
  repeat' split
  all_goals rfl
def mBE (s : PS) (t : Tr) (s' : PS) : Prop := SpT t ∧ ndT t + el t + s'.len ≤ s.len
def mBC (x : Tr) (s : PS) (t : Tr) (s' : PS) : Prop := SpT t ∧ ndT t + el t + s'.len ≤ ndT x + el x + s.len
def mBL (s : PS) (t : Tr) (s' : PS) : Prop := ndT t + s'.len ≤ s.len
def mBL1 (s : PS) (t : Tr) (s' : PS) : Prop := ndT t + 1 + s'.len ≤ s.len
def mBS (s : PS) (t : Tr) (s' : PS) : Prop := ndT t + s'.len ≤ s.len
def mBP (x : Tr) (s : PS) (t : Tr) (s' : PS) : Prop := t.ps.length + s'.len ≤ x.ps.length + s.len
def mBF (s : PS) (t : Tr) (s' : PS) : Prop := mBE s t s' ∧ 1 + t.ps.length + ndT (t.ks.headD dumT) ≤ ndT t
structure JB (f : Nat) : Prop where
  e : ∀ {lv r n : Nat} {x : Tr} {s : PS}, Po (mBE s) (parP f 0 lv r n x s)
  c : ∀ {lv r n : Nat} {x : Tr} {s : PS}, SpT x → Po (mBC x s) (parP f 1 lv r n x s)
  u : ∀ {lv r n : Nat} {x : Tr} {s : PS}, Po (mBE s) (parP f 2 lv r n x s)
  p : ∀ {lv r n : Nat} {x : Tr} {s : PS}, Po (mBE s) (parP f 3 lv r n x s)
  t : ∀ {lv r n : Nat} {x : Tr} {s : PS}, SpT x → Po (mBC x s) (parP f 4 lv r n x s)
  l : ∀ {lv r n : Nat} {x : Tr} {s : PS}, r ≠ 0 → Po (mBL1 s) (parP f 5 lv r n x s)
  b : ∀ {lv r n : Nat} {x : Tr} {s : PS}, Po (mBL s) (parP f 6 lv r n x s)
  ss : ∀ {lv r n : Nat} {x : Tr} {s : PS}, Po (mBL s) (parP f 7 lv r n x s)
  s8 : ∀ {lv r n : Nat} {x : Tr} {s : PS}, Po (mBS s) (parP f 8 lv r n x s)
  i9 : ∀ {lv r n : Nat} {x : Tr} {s : PS}, s.k ≠ 0 → Po (mBS s) (parP f 9 lv r n x s)
  d : ∀ {lv r n : Nat} {x : Tr} {s : PS}, Po (mBL s) (parP f 10 lv r n x s)
  ps : ∀ {lv r n : Nat} {x : Tr} {s : PS}, Po (mBP x s) (parP f 11 lv r n x s)
  fn : ∀ {lv r n : Nat} {x : Tr} {s : PS}, Po (mBF s) (parP f 12 lv r n x s)
section
variable {f lv r n : Nat} {x : Tr} {s : PS}
theorem jb_prim (I : JB f) : Po (mBE s) (pPrim (parP f) lv s) := by
  have lf : ∀ (t : Tr) (h4 : Nat.beq t.c 4 = false) (h5 : Nat.beq t.c 5 = false) (hn : ndT t = 1), s.k ≠ 0 → Po (mBE s) (okP t s.adv) := fun t h4 h5 hn hk => .ok ⟨sp_no h4 h5 (by omega), by have := adv_len' hk; rw [el_no h5]; omega⟩
  refine .ite (fun h => lf _ rfl rfl rfl (by omega)) fun _ => .ite (fun h => lf _ rfl rfl rfl (by omega)) fun _ => .ite (fun h => lf _ rfl rfl rfl (by omega)) fun _ => .ite (fun h => lf _ rfl rfl rfl (by omega)) fun _ => .ite (fun h => lf _ rfl rfl rfl (by omega)) fun _ => .ite (fun h => lf _ rfl rfl rfl (by omega)) fun _ => ?_
  refine .ite (fun h => ?_) fun _ => .ite (fun h => .ite (fun _ => .fail) fun _ => ?_) fun _ => .ite (fun h => ?_) fun _ => .fail
  · have ha := adv_len' (s := s) (by omega)
    refine .bd I.e fun x s1 ⟨h1, h2⟩ => .exp fun hk => .ok ⟨h1, ?_⟩
    have := adv_len' (s := s1) (by omega)
    omega
  · have ha := adv_len' (s := s) (by omega)
    exact I.fn.imp fun t s1 ⟨⟨h1, h2⟩, h3⟩ => ⟨h1, by omega⟩
  · have ha := adv_len' (s := s) (by omega)
    refine .bd (I.l (by decide)) fun l s1 h1 => .ok ⟨sp_no rfl rfl (by show 1 ≤ 1 + ndT l; omega), ?_⟩
    have h1 : ndT l + 1 + s1.len ≤ s.adv.len := h1
    show 1 + ndT l + 0 + s1.len ≤ s.len
    omega
theorem jb_local (I : JB f) (hs : ∃ s0 : PS, s.len + 1 = s0.len) : Po (fun t s' => ndT t + s'.len ≤ (s.len + 1)) (pLocal (parP f) lv s) := by
  refine .ite (fun hk => .ite (fun _ => .fail) fun _ => .nm fun hk2 => ?_) fun _ => .nm fun hk2 => ?_
  · have a1 := adv_len' (s := s) (by omega)
    have a2 := adv_len' (s := s.adv) (by omega)
    refine .bd I.fn fun t s1 ⟨⟨h1, h2⟩, h3⟩ => .ok ?_
    have h2 : ndT t + el t + s1.len ≤ s.adv.adv.len := h2
    show (2 + t.ps.length) + ndT (t.ks.headD dumT) + s1.len ≤ _
    omega
  · have a1 := adv_len' (s := s) (by omega)
    refine .ite (fun hk3 => .nm fun hk4 => .exp fun hk5 => ?_) fun _ => .ite (fun hk3 => ?_) fun _ => .ok ?_
    · have a2 := adv_len' (s := s.adv) (by omega)
      have a3 := adv_len' (s := s.adv.adv) (by omega)
      have a4 := adv_len' (s := s.adv.adv.adv) (by omega)
      refine .bd I.e fun v s1 ⟨h1, h2⟩ => .ite (fun hc => .ok ?_) fun _ => .fail
      have h3 := h1.1 (.inr hc)
      show 4 + ndT (v.ks.headD dumT) + ndT (v.ks.getD 1 dumT) + s1.len ≤ _
      omega
    · have a2 := adv_len' (s := s.adv) (by omega)
      refine .bd I.e fun v s1 ⟨h1, h2⟩ => .ok ?_
      show 1 + ndT v + s1.len ≤ _
      omega
    · show 1 + s.adv.len ≤ _
      omega
theorem jb_for (I : JB f) : Po (fun t s' => ndT t + s'.len ≤ (s.len + 1)) (pFor (parP f) lv s) := by
  refine .nm fun hk => ?_
  have a1 := adv_len' (s := s) (by omega)
  refine .ite (fun hk2 => .nm fun hk3 => .exp fun hk4 => ?_) fun _ => .exp fun hk2 => ?_
  · have a2 := adv_len' (s := s.adv) (by omega)
    have a3 := adv_len' (s := s.adv.adv) (by omega)
    have a4 := adv_len' (s := s.adv.adv.adv) (by omega)
    refine .bd I.e fun v s1 ⟨h1, h2⟩ => .bd I.d fun b s2 h3 => .ok ?_
    have h3 : ndT b + s2.len ≤ s1.len := h3
    show 3 + ndT v + ndT b + s2.len ≤ _
    omega
  · have a2 := adv_len' (s := s.adv) (by omega)
    refine .bd I.e fun v s1 ⟨h1, h2⟩ => .exp fun hk3 => ?_
    have a3 := adv_len' (s := s1) (by omega)
    refine .bd I.e fun v2 s2 ⟨h3, h4⟩ => .ite (fun hk4 => ?_) fun _ => ?_
    · have a4 := adv_len' (s := s2) (by omega)
      refine .bd I.e fun v3 s3 ⟨h5, h6⟩ => .bd I.d fun b s4 h7 => .ok ?_
      have h7 : ndT b + s4.len ≤ s3.len := h7
      show 1 + ndT v + ndT v2 + ndT v3 + ndT b + s4.len ≤ _
      omega
    · refine .bd I.d fun b s4 h7 => .ok ?_
      have h7 : ndT b + s4.len ≤ s2.len := h7
      show 1 + ndT v + ndT v2 + ndT b + s4.len ≤ _
      omega
theorem jb_ret (I : JB f) : Po (fun t s' => ndT t + s'.len ≤ (s.len + 1)) (pRet (parP f) lv s) := by
  refine .ite (fun _ => .ok (by show 1 + s.len ≤ _; omega)) fun _ => .bd I.e fun a s1 ⟨h1, h2⟩ => .ite (fun hk => ?_) fun _ => .ok (by show 1 + ndT a + s1.len ≤ _; omega)
  have a1 := adv_len' (s := s1) (by omega)
  refine .bd I.e fun b s2 ⟨h3, h4⟩ => .ok ?_
  show 1 + ndT a + ndT b + s2.len ≤ _
  omega
theorem jb_stmt (I : JB f) : Po (mBS s) (pStmt (parP f) lv s) := by
  refine .ite (fun hk => ?_) fun _ => .ite (fun hk => I.i9 (by omega)) fun _ => .ite (fun hk => ?_) fun _ => .ite (fun hk => ?_) fun _ => .ite (fun hk => .ite (fun _ => .fail) fun _ => .ok ?_) fun _ => .ite (fun hk => ?_) fun _ => ?_
  · have a1 := adv_len' (s := s) (by omega)
    exact (jb_local I ⟨s, a1⟩).imp fun t s1 h => by show _ ≤ s.len; omega
  · have a1 := adv_len' (s := s) (by omega)
    exact (jb_for I).imp fun t s1 h => by show _ ≤ s.len; omega
  · have a1 := adv_len' (s := s) (by omega)
    refine .bd I.e fun c s1 ⟨h1, h2⟩ => .bd I.d fun b s2 h3 => .ok ?_
    have h3 : ndT b + s2.len ≤ s1.len := h3
    show 1 + ndT c + ndT b + s2.len ≤ s.len
    omega
  · have a1 := adv_len' (s := s) (by omega)
    show 1 + s.adv.len ≤ s.len
    omega
  · have a1 := adv_len' (s := s) (by omega)
    exact (jb_ret I).imp fun t s1 h => by show _ ≤ s.len; omega
  · refine .bd I.p fun x s1 ⟨h1, h2⟩ => .ite (fun hk => ?_) fun _ => .ite (fun hc => .ok ?_) fun _ => .fail
    · have a1 := adv_len' (s := s1) (by omega)
      refine .ite (fun hc => ?_) fun _ => .ite (fun hc => ?_) fun _ => .fail
      · refine .bd I.e fun v s2 ⟨h3, h4⟩ => .ok ?_
        have hp := h1.2
        show 2 + ndT v + s2.len ≤ s.len
        omega
      · have h5 := h1.1 (.inl hc)
        refine .bd I.e fun v s2 ⟨h3, h4⟩ => .ok ?_
        show 2 + ndT (x.ks.headD dumT) + ndT (x.ks.getD 1 dumT) + ndT v + s2.len ≤ s.len
        omega
    · have h5 := h1.1 (.inr hc)
      have e5 : el x = 1 := if_pos hc
      show 2 + ndT (x.ks.headD dumT) + ndT (x.ks.getD 1 dumT) + s1.len ≤ s.len
      omega
theorem jb_if (I : JB f) (hk : s.k ≠ 0) : Po (mBS s) (pIf (parP f) lv s) := by
  have a1 := adv_len' hk
  refine .bd I.e fun c s1 ⟨h1, h2⟩ => .exp fun hk1 => ?_
  have a2 := adv_len' (s := s1) (by omega)
  refine .bd I.b fun b s2 h3 => ?_
  have h3 : ndT b + s2.len ≤ s1.adv.len := h3
  refine .ite (fun hk2 => ?_) fun _ => .ite (fun hk2 => ?_) fun _ => .exp fun hk2 => .ok ?_
  · refine .bd (I.i9 (by omega)) fun x s3 h4 => .ok ?_
    have h4 : ndT x + s3.len ≤ s2.len := h4
    show 1 + ndT c + ndT b + (0 + ndT x + 0) + s3.len ≤ s.len
    omega
  · have a3 := adv_len' (s := s2) (by omega)
    refine .bd I.b fun e s3 h4 => .exp fun hk3 => .ok ?_
    have a4 := adv_len' (s := s3) (by omega)
    have h4 : ndT e + s3.len ≤ s2.adv.len := h4
    show 1 + ndT c + ndT b + ndT e + s3.adv.len ≤ s.len
    omega
  · have a3 := adv_len' (s := s2) (by omega)
    show 1 + ndT c + ndT b + 0 + s2.adv.len ≤ s.len
    omega
theorem jb_step (I : JB f) : JB (f + 1) where
  e := by
    intro lv r n x s
    show Po _ (pExpr (parP f) lv r s)
    exact .bd I.u fun x s1 ⟨h1, h2⟩ => (I.c h1).imp fun t s2 ⟨g1, g2⟩ => ⟨g1, by omega⟩
  c := by
    intro lv r n x s hx
    show Po _ (pClimb (parP f) lv r x s)
    refine .ite (fun hc => ?_) fun _ => .ok ⟨hx, Nat.le_refl _⟩
    have hk : s.k ≠ 0 := fun e => by have := hc.1; rw [e] at this; cases this
    have a1 := adv_len' hk
    refine .bd (Q' := mBE s.adv) (.ite (fun _ => I.e) fun _ => I.e) fun y s1 ⟨h1, h2⟩ => ((I.c (sp_bin s.k x y)).imp fun t s2 ⟨g1, g2⟩ => ⟨g1, ?_⟩)
    rw [nd_bin, el_bin] at g2
    omega
  u := by
    intro lv r n x s
    show Po _ (pUnary (parP f) lv s)
    have go : ∀ k : Nat, s.k ≠ 0 → Po (mBE s) (bdP (parP f 2 (lv + 1) 0 0 dumT s.adv) fun x s => okP (Ex.un k x) s) := fun k hk => by
      have a1 := adv_len' hk
      refine .bd I.u fun x s1 ⟨h1, h2⟩ => .ok ⟨sp_no rfl rfl (by show 1 ≤ 1 + ndT x; omega), ?_⟩
      show 1 + ndT x + 0 + s1.len ≤ s.len
      omega
    exact .ite (fun _ => .fail) fun _ => .ite (fun h => go _ (by omega)) fun _ => .ite (fun h => go _ (by omega)) fun _ => .ite (fun h => go _ (by omega)) fun _ => I.p
  p := by
    intro lv r n x s
    show Po _ (pPost (parP f) lv s)
    exact .ite (fun _ => .fail) fun _ => .bd (jb_prim I) fun x s1 ⟨h1, h2⟩ => (I.t h1).imp fun t s2 ⟨g1, g2⟩ => ⟨g1, by omega⟩
  t := by
    intro lv r n x s hx
    show Po _ (pTail (parP f) lv x s)
    refine .ite (fun hk => .nm fun hk2 => ?_) fun _ => .ite (fun hk => ?_) fun _ => .ite (fun hk => ?_) fun _ => .ok ⟨hx, Nat.le_refl _⟩
    · have a1 := adv_len' (s := s) (by omega)
      have a2 := adv_len' (s := s.adv) (by omega)
      refine (I.t (sp_index _ _)).imp fun t s2 ⟨g1, g2⟩ => ⟨g1, ?_⟩
      have g2 : ndT t + el t + s2.len ≤ 1 + ndT x + 1 + 0 + s.adv.adv.len := g2
      omega
    · have a1 := adv_len' (s := s) (by omega)
      refine .bd I.e fun k s1 ⟨h1, h2⟩ => .exp fun hk2 => ?_
      have a2 := adv_len' (s := s1) (by omega)
      refine (I.t (sp_index _ _)).imp fun t s2 ⟨g1, g2⟩ => ⟨g1, ?_⟩
      have g2 : ndT t + el t + s2.len ≤ 1 + ndT x + ndT k + 0 + s1.adv.len := g2
      omega
    · have a1 := adv_len' (s := s) (by omega)
      refine .bd (I.l (by decide)) fun k s1 h1 => ?_
      have h1 : ndT k + 1 + s1.len ≤ s.adv.len := h1
      refine (I.t (sp_call _ _)).imp fun t s2 ⟨g1, g2⟩ => ⟨g1, ?_⟩
      have g2 : ndT t + el t + s2.len ≤ 1 + ndT x + ndT k + 1 + s1.len := g2
      omega
  l := by
    intro lv r n x s hr
    show Po _ (pList (parP f) lv r n s)
    have go : ∀ s1 : PS, s1.len ≤ s.len → Po (mBL1 s) (if r = 40 ∧ n = 3 then failP 19 s1 else bdP (parP f 0 lv 1 0 dumT s1) fun x s => bdP (parP f 5 lv r (n + 1) dumT s) fun l s => okP (ExL.cons x l) s) := fun s1 hs => by
      refine .ite (fun _ => .fail) fun _ => .bd I.e fun x s2 ⟨h1, h2⟩ => .bd (I.l hr) fun l s3 h3 => .ok ?_
      have h3 : ndT l + 1 + s3.len ≤ s2.len := h3
      show 0 + ndT x + ndT l + 1 + s3.len ≤ s.len
      omega
    refine .ite (fun hk => .ok ?_) fun _ => .ite (fun _ => .exp fun hk => go _ ?_) fun _ => go _ (Nat.le_refl _)
    · have a1 := adv_len' (s := s) (by omega)
      show 0 + 1 + s.adv.len ≤ s.len
      omega
    · have a1 := adv_len' (s := s) (by omega)
      omega
  b := by
    intro lv r n x s
    show Po _ (pBlock (parP f) lv s)
    exact .ite (fun _ => .fail) fun _ => .bd I.ss fun l s1 h => .ok h
  ss := by
    intro lv r n x s
    show Po _ (pStmts (parP f) lv r s)
    refine .ite (fun _ => .ok (by show 0 + s.len ≤ s.len; omega)) fun _ => .ite (fun _ => .fail) fun _ => .bd I.s8 fun x s1 h1 => .bd I.ss fun l s2 h2 => .ok ?_
    have h1 : ndT x + s1.len ≤ s.len := h1
    have h2 : ndT l + s2.len ≤ s1.len := h2
    show 0 + ndT x + ndT l + s2.len ≤ s.len
    omega
  s8 := by
    intro lv r n x s
    exact jb_stmt I
  i9 := by
    intro lv r n x s hk
    exact jb_if I hk
  d := by
    intro lv r n x s
    show Po _ (pBody (parP f) lv r s)
    refine .exp fun hk => ?_
    have a1 := adv_len' (s := s) (by omega)
    refine .bd I.b fun b s1 h1 => .exp fun hk1 => .ok ?_
    have a2 := adv_len' (s := s1) (by omega)
    have h1 : ndT b + s1.len ≤ s.adv.len := h1
    show ndT b + s1.adv.len ≤ s.len
    omega
  ps := by
    intro lv r n x s
    show Po _ (pPars (parP f) n x s)
    have go : ∀ s1 : PS, s1.len ≤ s.len → Po (mBP x s) (if n = 3 then failP 19 s1 else nameP 0 s1 fun nm s => parP f 11 0 0 (n + 1) { x with ps := x.ps ++ [nm] } s) := fun s1 hs => by
      refine .ite (fun _ => .fail) fun _ => .nm fun hk => ?_
      have a1 := adv_len' (s := s1) (by omega)
      refine I.ps.imp fun t s2 h => ?_
      have h : t.ps.length + s2.len ≤ (x.ps ++ [s1.cur.s]).length + s1.adv.len := h
      rw [List.length_append] at h
      simp only [List.length_cons, List.length_nil] at h
      show t.ps.length + s2.len ≤ x.ps.length + s.len
      omega
    refine .ite (fun hk => .ok ?_) fun _ => .ite (fun _ => .exp fun hk => go _ ?_) fun _ => go _ (Nat.le_refl _)
    · have a1 := adv_len' (s := s) (by omega)
      show x.ps.length + s.adv.len ≤ x.ps.length + s.len
      omega
    · have a1 := adv_len' (s := s) (by omega)
      omega
  fn := by
    intro lv r n x s
    show Po _ (pLit (parP f) lv s)
    refine .exp fun hk => ?_
    have a1 := adv_len' (s := s) (by omega)
    refine .bd I.ps fun x s1 h1 => .bd I.b fun b s2 h2 => .exp fun hk2 => .ok ?_
    have a2 := adv_len' (s := s2) (by omega)
    have h1 : x.ps.length + s1.len ≤ 0 + s.adv.len := h1
    have h2 : ndT b + s2.len ≤ s1.len := h2
    refine ⟨⟨sp_no rfl rfl (by show 1 ≤ (1 + x.ps.length) + ndT b; omega), ?_⟩, ?_⟩
    · show (1 + x.ps.length) + ndT b + 0 + s2.adv.len ≤ s.len
      omega
    · show 1 + x.ps.length + ndT b ≤ (1 + x.ps.length) + ndT b
      omega
end
theorem JB.all : ∀ f : Nat, JB f
  | 0 => by constructor <;> (intros; intro t s h; cases h)
  | f + 1 => jb_step (JB.all f)
theorem block_nd {f lv r n : Nat} {x t : Tr} {s s1 : PS} (h : parP f 6 lv r n x s = some (.inr (t, s1))) : ndT t + s1.len ≤ s.len := (JB.all f).b t s1 h
end Go.Proofs.Qxb6500568aGreatDoor
