import Derived.Test.Qxb6500568aGreatDoorWl
namespace Go.Proofs.Qxb6500568aGreatDoor
set_option linter.unusedVariables false
set_option linter.unusedSimpArgs false

/-! Regions that draw their order and whose last operation waits for all others: what it leaves need not meet 'S'. -/

section
variable {P : Program} {ops : Array Oper} {Q : Exit → Act → World → Prop} {md : Region.Mode} {S : World → Prop} {last : Nat}

/-- Whoever is listed, all that it waits for is listed. -/
def Cl (md : Region.Mode) (ops : Array Oper) (listed : Array Bool) : Prop := ∀ i o, ops[i]? = some o → listed.getD i false = true → ∀ e ∈ o.after, Region.binds md e = true → listed.getD e.on false = true

def depB (md : Region.Mode) (ops : Array Oper) : Nat → Nat → Nat → Bool
  | 0, _, _ => false
  | n + 1, j, i => match ops[j]? with
    | some o => o.after.any fun e => Region.binds md e && (e.on == i || depB md ops n e.on i)
    | none => false

theorem dep_listed {listed : Array Bool} (hc : Cl md ops listed) : ∀ (n j i : Nat), depB md ops n j i = true → (∀ o, ops[j]? = some o → ∀ e ∈ o.after, Region.binds md e = true → listed.getD e.on false = true) → listed.getD i false = true
  | 0, j, i, h, _ => by simp [depB] at h
  | n + 1, j, i, h, hj => by
    simp only [depB] at h
    cases ho : ops[j]? with
    | none => rw [ho] at h; simp at h
    | some o =>
      rw [ho] at h
      obtain ⟨e, he, hb⟩ := Array.any_eq_true'.1 h
      simp only [Bool.and_eq_true, Bool.or_eq_true, beq_iff_eq] at hb
      have hl := hj o ho e he hb.1
      rcases hb.2 with h1 | h1
      · rw [← h1]; exact hl
      · exact dep_listed hc n e.on i h1 (fun o' ho' e' he' hb' => hc e.on o' ho' hl e' he' hb')

theorem getD_set_same (listed : Array Bool) (i : Nat) (h : i < listed.size) : (listed.setIfInBounds i true).getD i false = true := by simp [h]

theorem getD_set_other {listed : Array Bool} {i j : Nat} (d : Bool) (h : i ≠ j) : (listed.setIfInBounds i true).getD j d = listed.getD j d := by
  simp [Array.getElem?_setIfInBounds, h]

theorem cl_set {listed : Array Bool} {i : Nat} (hc : Cl md ops listed) (hi : i ∈ Region.ready md ops listed) : Cl md ops (listed.setIfInBounds i true) := by
  intro k o hk hl e he hb
  obtain ⟨hun, oi, hoi, hall⟩ := mem_ready.1 hi
  have key : listed.getD e.on false = true → (listed.setIfInBounds i true).getD e.on false = true := by
    intro h
    by_cases hx : i = e.on
    · rw [← hx] at h ⊢
      rcases Nat.lt_or_ge i listed.size with hlt | hge
      · exact getD_set_same listed i hlt
      · simp [Array.getElem?_eq_none hge] at h
    · rw [getD_set_other _ hx]; exact h
  by_cases hik : i = k
  · subst hik
    rw [hk] at hoi
    cases hoi
    exact key (hall e he hb)
  · rw [getD_set_other _ hik] at hl
    exact key (hc k o hk hl e he hb)

/-- Whatever order is picked from here on; behind every operation but the last 'S' holds. -/
def wpAnyL (P : Program) (md : Region.Mode) (ops : Array Oper) (Q : Exit → Act → World → Prop) (S : World → Prop) (last : Nat) : Nat → Array Bool → Act → World → Prop
  | 0, listed, a, w => Region.ready md ops listed = [] ∧ Q .normal a w
  | fuel + 1, listed, a, w =>
    (Region.ready md ops listed = [] → Q .normal a w) ∧
    ∀ i ∈ Region.ready md ops listed, wpOp P ops Q i (fun a' w' => (i ≠ last → S w') ∧ wpAnyL P md ops Q S last fuel (listed.setIfInBounds i true) a' w') a w

theorem wpAny_of_L : ∀ (fuel : Nat) (listed : Array Bool) (a : Act) (w : World), wpAnyL P md ops Q S last fuel listed a w → wpAny P md ops Q fuel listed a w
  | 0, _, _, _, h => h
  | fuel + 1, _, _, _, h => ⟨h.1, fun i hi => wpOp_mono (fun a' w' h' => wpAny_of_L fuel _ a' w' h'.2) (h.2 i hi)⟩

theorem wpAnyL_first {i : Nat} {oi : Oper} {v : Value} (hi : ops[i]? = some oi) (hsel : ∀ (j : Nat) (o : Oper) cs b, ops[j]? = some o → o.op ≠ .select cs b) (hil : i ≠ last) (hdep : depB md ops 4 last i = true)
    (hQ : ∀ c a w, Q (.panic c) (a.put oi.dst v) w → Q (.panic c) a w) :
    ∀ (fuel : Nat) (listed : Array Bool) (a : Act) (w : World), Cl md ops listed →
      (∀ j oj, ops[j]? = some oj → j ≠ i → listed.getD j true = false → (∀ e ∈ oj.after, Region.binds md e = true → e.on ≠ i) → oi.apart ops oj = true) →
      i ∈ Region.ready md ops listed → YieldsIf P ops S oi v a → S w →
      wpAnyL P md ops Q S last fuel (listed.setIfInBounds i true) (a.put oi.dst v) w → wpAnyL P md ops Q S last (fuel + 1) listed a w := by
  intro fuel
  induction fuel with
  | zero =>
    intro listed a w _ _ hr hy hS H
    refine ⟨fun h => (by rw [h] at hr; cases hr), fun j hj => ?_⟩
    by_cases hji : j = i
    · subst hji; exact hy.wpOp hi hS ⟨fun _ => hS, H⟩
    · have := ready_mono hj hji
      rw [H.1] at this
      cases this
  | succ fuel ih =>
    intro listed a w hcl hfree hr hy hS H
    refine ⟨fun h => (by rw [h] at hr; cases hr), fun j hj => ?_⟩
    by_cases hji : j = i
    · subst hji; exact hy.wpOp hi hS ⟨fun _ => hS, H⟩
    · have h1 := H.2 j (ready_mono hj hji)
      obtain ⟨hjun, oj, hoj, hall⟩ := mem_ready.1 hj
      have hiun : listed.getD i false = false := by
        have h0 := (mem_ready.1 hr).1
        rcases Nat.lt_or_ge i listed.size with h' | h'
        · simp [h'] at h0 ⊢; exact h0
        · simp [Array.getElem?_eq_none h']
      have hjl : j ≠ last := by
        intro e
        subst e
        have := dep_listed hcl 4 j i hdep (fun o ho e he hb => by rw [hoj] at ho; cases ho; exact hall e he hb)
        rw [hiun] at this
        cases this
      have hnot : ∀ e ∈ oj.after, Region.binds md e = true → e.on ≠ i := fun e he hb heq => by
        have h1 := hall e he hb
        rw [heq, hiun] at h1
        cases h1
      have h2 := wpOp_putIf hoj (hfree j oj hoj hji hjun hnot) (fun cs b => hsel i oi cs b hi) (fun cs b => hsel j oj cs b hoj) hQ hy h1
      have hfree' : ∀ k ok, ops[k]? = some ok → k ≠ i → (listed.setIfInBounds j true).getD k true = false →
          (∀ e ∈ ok.after, Region.binds md e = true → e.on ≠ i) → oi.apart ops ok = true := fun k ok hk hki hun hno => by
        refine hfree k ok hk hki ?_ hno
        by_cases hjk : j = k
        · subst hjk; exact hjun
        · rw [getD_set_ne true hjk] at hun; exact hun
      refine wpOp_mono (fun a' w' h3 => ⟨h3.2.1, ih (listed.setIfInBounds j true) a' w' (cl_set hcl hj) hfree' (ready_mono hr (Ne.symm hji)) h3.1 (h3.2.1 hjl) ?_⟩) h2
      rw [Array.setIfInBounds_comm _ _ hji]
      exact h3.2.2

def piL (P : Program) (ops : Array Oper) (Q : Exit → Act → World → Prop) (S : World → Prop) (last : Nat) : List (Nat × Bool) → Act → World → Prop
  | [], a, w => wpOp P ops Q last (fun a' w' => Q .normal a' w') a w
  | (i, false) :: r, a, w => ∃ o v, ops[i]? = some o ∧ YieldsIf P ops S o v a ∧ piL P ops Q S last r (a.put o.dst v) w
  | (i, true) :: r, a, w => wpOp P ops Q i (fun a' w' => S w' ∧ piL P ops Q S last r a' w') a w

def piLOK (md : Region.Mode) (ops : Array Oper) (last : Nat) : List (Nat × Bool) → Array Bool → Bool
  | [], listed => (Region.ready md ops listed == [last]) && (Region.ready md ops (listed.setIfInBounds last true)).isEmpty
  | (i, false) :: r, listed => (i != last) && depB md ops 4 last i && Region.free md ops listed i && (Region.ready md ops listed).contains i && piLOK md ops last r (listed.setIfInBounds i true)
  | (i, true) :: r, listed => (i != last) && (Region.ready md ops listed == [i]) && piLOK md ops last r (listed.setIfInBounds i true)

theorem piL_sound (hs : Region.noSelect ops = true) (hQ : PanOk Q) : ∀ (π : List (Nat × Bool)) (fuel : Nat) (listed : Array Bool) (a : Act) (w : World), π.length + 1 ≤ fuel → Cl md ops listed → piLOK md ops last π listed = true → S w → piL P ops Q S last π a w → wpAnyL P md ops Q S last fuel listed a w
  | [], fuel, listed, a, w, hf, hcl, hk, hS, h => by
    simp only [piLOK, Bool.and_eq_true, beq_iff_eq, List.isEmpty_iff] at hk
    cases fuel with
    | zero => simp at hf
    | succ fuel =>
      refine ⟨fun h0 => (by rw [hk.1] at h0; cases h0), fun i hi => ?_⟩
      rw [hk.1] at hi
      have : i = last := by simpa using hi
      subst this
      refine wpOp_mono (fun a' w' h' => ⟨fun hne => absurd rfl hne, ?_⟩) h
      cases fuel with
      | zero => exact ⟨hk.2, h'⟩
      | succ fuel => exact ⟨fun _ => h', fun j hj => by rw [hk.2] at hj; cases hj⟩
  | (i, false) :: r, fuel, listed, a, w, hf, hcl, hk, hS, h => by
    obtain ⟨o, v, hi, hy, hr⟩ := h
    simp only [piLOK, Bool.and_eq_true, bne_iff_ne, ne_eq] at hk
    obtain ⟨⟨⟨⟨k1, k2⟩, k3⟩, k4⟩, k5⟩ := hk
    have hir : i ∈ Region.ready md ops listed := by simpa using k4
    cases fuel with
    | zero => simp at hf
    | succ fuel =>
      refine wpAnyL_first hi (Region.noSelect_spec hs) k1 k2 (fun c a' w' hp => hQ c _ _ w' (put_defers_eq a' o.dst v) hp) fuel listed a w hcl (Region.free_spec hi k3) hir hy hS ?_
      exact piL_sound hs hQ r fuel _ _ w (by simpa using hf) (cl_set hcl hir) k5 hS hr
  | (i, true) :: r, fuel, listed, a, w, hf, hcl, hk, hS, h => by
    simp only [piLOK, Bool.and_eq_true, beq_iff_eq, bne_iff_ne, ne_eq] at hk
    obtain ⟨⟨k1, k2⟩, k3⟩ := hk
    cases fuel with
    | zero => simp at hf
    | succ fuel =>
      refine ⟨fun h0 => (by rw [k2] at h0; cases h0), fun j hj => ?_⟩
      have hir : i ∈ Region.ready md ops listed := by rw [k2]; simp
      rw [k2] at hj
      have : j = i := by simpa using hj
      subst this
      exact wpOp_mono (fun a' w' h' => ⟨fun _ => h'.1, piL_sound hs hQ r fuel _ a' w' (by simpa using hf) (cl_set hcl hir) k3 h'.1 h'.2⟩) h

structure WQ (P : Program) (ops : Array Oper) (Q : Exit → Act → World → Prop) (S : World → Prop) (last : Nat) (π : List (Nat × Bool)) (a : Act) (w : World) : Prop where
  out : piL P ops Q S last π a w

theorem c_piL {id : Nat} {a : Act} {w : World} (last : Nat) (π : List (Nat × Bool)) (S : World → Prop) (hm : P.follows .mixedOrders = true) (hs : Region.noSelect ops = true) (hl : Nat.ble (π.length + 1) ops.size = true)
    (hk : piLOK .any ops last π (Array.replicate ops.size false) = true) (hQ : PanOk Q) (hS : S { w with drawn := w.drawn + 1 }) (h : WQ P ops Q S last π a { w with drawn := w.drawn + 1 }) : WC P (Code.region id ops true) Q a w :=
  ⟨wp_region_any hm (wpAny_of_L _ _ _ _ (piL_sound hs hQ π _ _ _ _ (by simpa using hl) (fun i o _ hl => by
    rcases Nat.lt_or_ge i ops.size with h' | h'
    · simp [h'] at hl
    · simp [h'] at hl) hk hS h.out))⟩

variable {n : Nat} {e : Nat → Option Value} {ds : List Deferred} {w w1 : World} {r : List (Nat × Bool)} {i d : Nat} {op : Op} {ty : TypeId} {ps : String} {af : Array Edge} {v : Value}

theorem ql_ro (hi : ops[i]? = some ⟨some d, op, ty, ps, af, none⟩) (h : ∀ w, S w → RO P n e w op v) (k : WQ P ops Q S last r (Fr n (upd e d v) ds) w) : WQ P ops Q S last ((i, false) :: r) (Fr n e ds) w :=
  ⟨⟨_, v, hi, .inl ⟨rfl, fun w hw => h w hw ds _ _ _ _ _⟩, by rw [put_some]; exact k.out⟩⟩

theorem ql_eo (hi : ops[i]? = some ⟨some d, op, ty, ps, af, none⟩) (h : EO P n e w op v w1) (hS : S w1) (k : WQ P ops Q S last r (Fr n (upd e d v) ds) w1) : WQ P ops Q S last ((i, true) :: r) (Fr n e ds) w := by
  refine ⟨?_⟩
  show wpOp P ops Q i _ _ _
  unfold wpOp
  rw [hi]
  simp only [Region.wanted, if_true]
  refine .inl ?_
  unfold Oper.wp
  rw [h ds]
  simp only [Oper.upon, put_some]
  exact ⟨hS, k.out⟩

theorem ql_call {f : FuncId} {args : List Operand} {ats : Array TypeId} {vs : List Value} {R : Value → World → Prop} (hi : ops[i]? = some ⟨some d, .call ⟨.value (.func f), args.toArray, ats⟩, ty, ps, af, none⟩) (ha : evArgs n e args = some vs) (hf : Enters P f) (hc : Ret P f vs w R)
    (k : ∀ v w', R v w' → S w' ∧ WQ P ops Q S last r (Fr n (upd e d v) ds) w') : WQ P ops Q S last ((i, true) :: r) (Fr n e ds) w := by
  refine ⟨?_⟩
  show wpOp P ops Q i _ _ _
  unfold wpOp
  rw [hi]
  simp only [Region.wanted, if_true]
  refine .inl ?_
  unfold Oper.wp
  rw [run_call ha hf]
  simp only [Oper.upon]
  refine Calls.mono hc fun en w' ⟨v, he, hv⟩ => ?_
  subst he
  simp only [put_some]
  exact ⟨(k v w' hv).1, (k v w' hv).2.out⟩

theorem ql_last (hi : ops[last]? = some ⟨none, op, ty, ps, af, none⟩) (h : SO P n e w op w1) (k : Q .normal (Fr n e ds) w1) : WQ P ops Q S last [] (Fr n e ds) w := by
  refine ⟨?_⟩
  show wpOp P ops Q last _ _ _
  unfold wpOp
  rw [hi]
  simp only [Region.wanted, if_true]
  refine .inl ?_
  unfold Oper.wp
  rw [h ds]
  simp only [Oper.upon, put_none]
  exact k

theorem ql_lastE (hi : ops[last]? = some ⟨some d, op, ty, ps, af, none⟩) (h : EO P n e w op v w1) (k : Q .normal (Fr n (upd e d v) ds) w1) : WQ P ops Q S last [] (Fr n e ds) w := by
  refine ⟨?_⟩
  show wpOp P ops Q last _ _ _
  unfold wpOp
  rw [hi]
  simp only [Region.wanted, if_true]
  refine .inl ?_
  unfold Oper.wp
  rw [h ds]
  simp only [Oper.upon, put_some]
  exact k

theorem ql_lastC {f : FuncId} {args : List Operand} {ats : Array TypeId} {vs : List Value} {R : Value → World → Prop} (hi : ops[last]? = some ⟨some d, .call ⟨.value (.func f), args.toArray, ats⟩, ty, ps, af, none⟩) (ha : evArgs n e args = some vs) (hf : Enters P f) (hc : Ret P f vs w R)
    (k : ∀ v w', R v w' → Q .normal (Fr n (upd e d v) ds) w') : WQ P ops Q S last [] (Fr n e ds) w := by
  refine ⟨?_⟩
  show wpOp P ops Q last _ _ _
  unfold wpOp
  rw [hi]
  simp only [Region.wanted, if_true]
  refine .inl ?_
  unfold Oper.wp
  rw [run_call ha hf]
  simp only [Oper.upon]
  refine Calls.mono hc fun en w' ⟨v, he, hv⟩ => ?_
  subst he
  simp only [put_some]
  exact k v w' hv

end
end Go.Proofs.Qxb6500568aGreatDoor
