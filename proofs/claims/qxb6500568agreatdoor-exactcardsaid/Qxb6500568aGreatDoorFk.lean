import Derived.Test.Qxb6500568aGreatDoorFi
import Derived.Test.Qxb6500568aGreatDoorFb
/- Library: a region of any order whose loads all stand ahead of its stores. -/
namespace Go.Proofs.Qxb6500568aGreatDoor
set_option linter.unusedVariables false
set_option linter.unusedSimpArgs false
section
variable {P : Program} {ops : Array Oper} {Q : Exit → Act → World → Prop} {md : Region.Mode} {S : World → Prop} {brk : List Nat}

/-- No operation of brk has been done yet. -/
def unb (brk : List Nat) (listed : Array Bool) : Prop := ∀ b ∈ brk, listed.getD b false = false

/-- Whatever order is picked from here on; as long as no operation of brk is done, 'S' holds. -/
def wpAnyB (P : Program) (md : Region.Mode) (ops : Array Oper) (Q : Exit → Act → World → Prop) (S : World → Prop) (brk : List Nat) : Nat → Array Bool → Act → World → Prop
  | 0, listed, a, w => Region.ready md ops listed = [] ∧ Q .normal a w
  | fuel + 1, listed, a, w =>
    (Region.ready md ops listed = [] → Q .normal a w) ∧
    ∀ i ∈ Region.ready md ops listed, wpOp P ops Q i (fun a' w' => (unb brk (listed.setIfInBounds i true) → S w') ∧ wpAnyB P md ops Q S brk fuel (listed.setIfInBounds i true) a' w') a w

theorem wpAny_of_B : ∀ (fuel : Nat) (listed : Array Bool) (a : Act) (w : World), wpAnyB P md ops Q S brk fuel listed a w → wpAny P md ops Q fuel listed a w
  | 0, _, _, _, h => h
  | fuel + 1, _, _, _, h => ⟨h.1, fun i hi => wpOp_mono (fun a' w' h' => wpAny_of_B fuel _ a' w' h'.2) (h.2 i hi)⟩

theorem unb_set {listed : Array Bool} {i : Nat} (hi : i ∉ brk) (h : unb brk (listed.setIfInBounds i true)) : unb brk listed := by
  intro b hb
  have := h b hb
  rw [getD_set_other false (fun e => hi (by rw [e]; exact hb))] at this
  exact this
theorem unb_put {listed : Array Bool} {i : Nat} (hi : i ∉ brk) (h : unb brk listed) : unb brk (listed.setIfInBounds i true) := by
  intro b hb
  rw [getD_set_other false (fun e => hi (by rw [e]; exact hb))]
  exact h b hb

theorem wpAnyB_first {T : World → Prop} {i : Nat} {oi : Oper} {v : Value} (hi : ops[i]? = some oi) (hsel : ∀ (j : Nat) (o : Oper) cs b, ops[j]? = some o → o.op ≠ .select cs b) (hib : i ∉ brk)
    (hT : ∀ (listed : Array Bool) (w : World), Cl md ops listed → listed.getD i false = false → (unb brk listed → S w) → T w) (hQ : ∀ c a w, Q (.panic c) (a.put oi.dst v) w → Q (.panic c) a w) :
    ∀ (fuel : Nat) (listed : Array Bool) (a : Act) (w : World), Cl md ops listed →
      (∀ j oj, ops[j]? = some oj → j ≠ i → listed.getD j true = false → (∀ e ∈ oj.after, Region.binds md e = true → e.on ≠ i) → oi.apart ops oj = true) →
      i ∈ Region.ready md ops listed → YieldsIf P ops T oi v a → (unb brk listed → S w) →
      wpAnyB P md ops Q S brk fuel (listed.setIfInBounds i true) (a.put oi.dst v) w → wpAnyB P md ops Q S brk (fuel + 1) listed a w := by
  have hiun : ∀ listed : Array Bool, i ∈ Region.ready md ops listed → listed.getD i false = false := by
    intro listed hr
    have h0 := (mem_ready.1 hr).1
    rcases Nat.lt_or_ge i listed.size with h' | h'
    · simp [h'] at h0 ⊢; exact h0
    · simp [Array.getElem?_eq_none h']
  intro fuel
  induction fuel with
  | zero =>
    intro listed a w hcl _ hr hy hS H
    refine ⟨fun h => (by rw [h] at hr; cases hr), fun j hj => ?_⟩
    by_cases hji : j = i
    · subst hji; exact hy.wpOp hi (hT listed w hcl (hiun listed hr) hS) ⟨fun hu => hS (unb_set hib hu), H⟩
    · have := ready_mono hj hji
      rw [H.1] at this
      cases this
  | succ fuel ih =>
    intro listed a w hcl hfree hr hy hS H
    refine ⟨fun h => (by rw [h] at hr; cases hr), fun j hj => ?_⟩
    by_cases hji : j = i
    · subst hji; exact hy.wpOp hi (hT listed w hcl (hiun listed hr) hS) ⟨fun hu => hS (unb_set hib hu), H⟩
    · have h1 := H.2 j (ready_mono hj hji)
      obtain ⟨hjun, oj, hoj, hall⟩ := mem_ready.1 hj
      have hnot : ∀ e ∈ oj.after, Region.binds md e = true → e.on ≠ i := fun e he hb heq => by
        have h1 := hall e he hb
        rw [heq, hiun listed hr] at h1
        cases h1
      have h2 := wpOp_putIf hoj (hfree j oj hoj hji hjun hnot) (fun cs b => hsel i oi cs b hi) (fun cs b => hsel j oj cs b hoj) hQ hy h1
      have hfree' : ∀ k ok, ops[k]? = some ok → k ≠ i → (listed.setIfInBounds j true).getD k true = false →
          (∀ e ∈ ok.after, Region.binds md e = true → e.on ≠ i) → oi.apart ops ok = true := fun k ok hk hki hun hno => by
        refine hfree k ok hk hki ?_ hno
        by_cases hjk : j = k
        · subst hjk; exact hjun
        · rw [getD_set_ne true hjk] at hun; exact hun
      have hS' : ∀ w', (unb brk ((listed.setIfInBounds i true).setIfInBounds j true) → S w') → unb brk (listed.setIfInBounds j true) → S w' := fun w' h hu => h (by
        rw [← Array.setIfInBounds_comm _ _ hji]
        exact unb_put hib hu)
      refine wpOp_mono (fun a' w' h3 => ⟨hS' w' h3.2.1, ih (listed.setIfInBounds j true) a' w' (cl_set hcl hj) hfree' (ready_mono hr (Ne.symm hji)) h3.1 (hS' w' h3.2.1) ?_⟩) h2
      rw [Array.setIfInBounds_comm _ _ hji]
      exact h3.2.2

/-- Kinds: 0 a pure operation ahead of all of brk; 1 one that does not look at the memory; else an operation of brk. -/
def piB (P : Program) (ops : Array Oper) (Q : Exit → Act → World → Prop) (S : World → Prop) : List (Nat × Nat) → Act → World → Prop
  | [], a, w => Q .normal a w
  | (i, 0) :: r, a, w => ∃ o v, ops[i]? = some o ∧ YieldsIf P ops S o v a ∧ piB P ops Q S r (a.put o.dst v) w
  | (i, 1) :: r, a, w => ∃ o v, ops[i]? = some o ∧ YieldsIf P ops (fun _ => True) o v a ∧ piB P ops Q S r (a.put o.dst v) w
  | (i, _ + 2) :: r, a, w => wpOp P ops Q i (fun a' w' => piB P ops Q S r a' w') a w

def piBOK (md : Region.Mode) (ops : Array Oper) (brk : List Nat) : List (Nat × Nat) → Array Bool → Bool
  | [], listed => (Region.ready md ops listed).isEmpty
  | (i, 0) :: r, listed => !brk.contains i && brk.all (fun b => depB md ops 9 b i && decide (b < ops.size)) && Region.free md ops listed i && (Region.ready md ops listed).contains i && piBOK md ops brk r (listed.setIfInBounds i true)
  | (i, 1) :: r, listed => !brk.contains i && Region.free md ops listed i && (Region.ready md ops listed).contains i && piBOK md ops brk r (listed.setIfInBounds i true)
  | (i, _ + 2) :: r, listed => brk.contains i && (Region.ready md ops listed == [i]) && piBOK md ops brk r (listed.setIfInBounds i true)

theorem piB_sound (hs : Region.noSelect ops = true) (hQ : PanOk Q) : ∀ (π : List (Nat × Nat)) (fuel : Nat) (listed : Array Bool) (a : Act) (w : World), π.length ≤ fuel → Cl md ops listed → piBOK md ops brk π listed = true → (unb brk listed → S w) → piB P ops Q S π a w → wpAnyB P md ops Q S brk fuel listed a w
  | [], fuel, listed, a, w, hf, hcl, hk, hS, h => by
    simp only [piBOK, List.isEmpty_iff] at hk
    cases fuel with
    | zero => exact ⟨hk, h⟩
    | succ fuel => exact ⟨fun _ => h, fun i hi => by rw [hk] at hi; cases hi⟩
  | (i, 0) :: r, fuel, listed, a, w, hf, hcl, hk, hS, h => by
    obtain ⟨o, v, hi, hy, hr⟩ := h
    simp only [piBOK, Bool.and_eq_true, Bool.not_eq_true', List.all_eq_true, decide_eq_true_eq] at hk
    obtain ⟨⟨⟨⟨k1, k2⟩, k3⟩, k4⟩, k5⟩ := hk
    have hib : i ∉ brk := by
      intro h
      rw [List.contains_iff_mem.2 h] at k1
      cases k1
    have hir : i ∈ Region.ready md ops listed := by simpa using k4
    cases fuel with
    | zero => simp at hf
    | succ fuel =>
      refine wpAnyB_first hi (Region.noSelect_spec hs) hib (T := S) ?_ (fun c a' w' hp => hQ c _ _ w' (put_defers_eq a' o.dst v) hp) fuel listed a w hcl (Region.free_spec hi k3) hir hy hS ?_
      · intro l1 w1 hc1 h1 h2
        apply h2
        intro b hb
        cases hbl : l1.getD b false with
        | false => rfl
        | true =>
          exfalso
          obtain ⟨kb1, kb2⟩ := k2 b hb
          have := dep_listed hc1 9 b i kb1 (fun o' ho' e he hbd => hc1 b o' ho' hbl e he hbd)
          rw [h1] at this
          cases this
      · exact piB_sound hs hQ r fuel _ _ w (by simpa using hf) (cl_set hcl hir) k5 (fun hu => hS (unb_set hib hu)) hr
  | (i, 1) :: r, fuel, listed, a, w, hf, hcl, hk, hS, h => by
    obtain ⟨o, v, hi, hy, hr⟩ := h
    simp only [piBOK, Bool.and_eq_true, Bool.not_eq_true'] at hk
    obtain ⟨⟨⟨k1, k3⟩, k4⟩, k5⟩ := hk
    have hib : i ∉ brk := by
      intro h
      rw [List.contains_iff_mem.2 h] at k1
      cases k1
    have hir : i ∈ Region.ready md ops listed := by simpa using k4
    cases fuel with
    | zero => simp at hf
    | succ fuel =>
      refine wpAnyB_first hi (Region.noSelect_spec hs) hib (T := fun _ => True) (fun _ _ _ _ _ => trivial) (fun c a' w' hp => hQ c _ _ w' (put_defers_eq a' o.dst v) hp) fuel listed a w hcl (Region.free_spec hi k3) hir hy hS ?_
      exact piB_sound hs hQ r fuel _ _ w (by simpa using hf) (cl_set hcl hir) k5 (fun hu => hS (unb_set hib hu)) hr
  | (i, k + 2) :: r, fuel, listed, a, w, hf, hcl, hk, hS, h => by
    simp only [piBOK, Bool.and_eq_true, beq_iff_eq] at hk
    obtain ⟨⟨k1, k2⟩, k3⟩ := hk
    have hib : i ∈ brk := by simpa using k1
    cases fuel with
    | zero => simp at hf
    | succ fuel =>
      refine ⟨fun h0 => (by rw [k2] at h0; cases h0), fun j hj => ?_⟩
      have hir : i ∈ Region.ready md ops listed := by rw [k2]; simp
      rw [k2] at hj
      have : j = i := by simpa using hj
      subst this
      have hno : ¬ unb brk (listed.setIfInBounds j true) := by
        intro hu
        have h1 := hu j hib
        have h0 := (mem_ready.1 hir).1
        rcases Nat.lt_or_ge j listed.size with h' | h'
        · rw [getD_set_same listed j h'] at h1
          cases h1
        · simp [Array.getElem?_eq_none h'] at h0
      exact wpOp_mono (fun a' w' h' => ⟨fun hu => absurd hu hno, piB_sound hs hQ r fuel _ a' w' (by simpa using hf) (cl_set hcl hir) k3 (fun hu => absurd hu hno) h'⟩) h

structure WB (P : Program) (ops : Array Oper) (Q : Exit → Act → World → Prop) (S : World → Prop) (π : List (Nat × Nat)) (a : Act) (w : World) : Prop where
  out : piB P ops Q S π a w

theorem c_piB {id : Nat} {a : Act} {w : World} (brk : List Nat) (π : List (Nat × Nat)) (S : World → Prop) (hm : P.follows .mixedOrders = true) (hs : Region.noSelect ops = true) (hl : Nat.ble π.length ops.size = true)
    (hk : piBOK .any ops brk π (Array.replicate ops.size false) = true) (hQ : PanOk Q) (hS : S { w with drawn := w.drawn + 1 }) (h : WB P ops Q S π a { w with drawn := w.drawn + 1 }) : WC P (Code.region id ops true) Q a w :=
  ⟨wp_region_any hm (wpAny_of_B _ _ _ _ (piB_sound hs hQ π _ _ _ _ (by simpa using hl) (fun i o _ hl => by
    rcases Nat.lt_or_ge i ops.size with h' | h'
    · simp [h'] at hl
    · simp [h'] at hl) hk (fun _ => hS) h.out))⟩

variable {n : Nat} {e : Nat → Option Value} {ds : List Deferred} {w w1 : World} {r : List (Nat × Nat)} {i d : Nat} {op : Op} {ty : TypeId} {ps : String} {af : Array Edge} {v : Value}

theorem pb_nil {a : Act} (h : Q .normal a w) : WB P ops Q S [] a w := ⟨h⟩
theorem pb_ro0 (hi : ops[i]? = some ⟨some d, op, ty, ps, af, none⟩) (h : ∀ w, S w → RO P n e w op v) (k : WB P ops Q S r (Fr n (upd e d v) ds) w) : WB P ops Q S ((i, 0) :: r) (Fr n e ds) w :=
  ⟨⟨_, v, hi, .inl ⟨rfl, fun w hw => h w hw ds _ _ _ _ _⟩, by rw [put_some]; exact k.out⟩⟩
theorem pb_ro1 (hi : ops[i]? = some ⟨some d, op, ty, ps, af, none⟩) (h : ∀ w, RO P n e w op v) (k : WB P ops Q S r (Fr n (upd e d v) ds) w) : WB P ops Q S ((i, 1) :: r) (Fr n e ds) w :=
  ⟨⟨_, v, hi, .inl ⟨rfl, fun w hw => h w ds _ _ _ _ _⟩, by rw [put_some]; exact k.out⟩⟩
theorem pb_so (hi : ops[i]? = some ⟨none, op, ty, ps, af, none⟩) (h : SO P n e w op w1) (k : WB P ops Q S r (Fr n e ds) w1) : WB P ops Q S ((i, 2) :: r) (Fr n e ds) w := by
  refine ⟨?_⟩
  show wpOp P ops Q i _ _ _
  unfold wpOp
  rw [hi]
  simp only [Region.wanted, if_true]
  refine .inl ?_
  unfold Oper.wp
  rw [h ds]
  simp only [Oper.upon, put_none]
  exact k.out
theorem pb_puta {t t' : TypeId} {x y : Operand} {b j m : Nat} {l l' cs : List Value} (ho : ops[i]? = some ⟨none, .store t x y, ty, ps, af, none⟩) (hx : evO n e x = some (.pointer (some ⟨b, j, none⟩))) (hy : evO n e y = some (.agg cs.toArray)) (h1 : ∀ u ∈ cs, u.oneCell' = true) (ht : sizeB P t m = true) (hm : cs.length = m)
    (hB : Blk w.heap b l t') (hi : j + m ≤ l.length) (hl : l.take j ++ cs ++ l.drop (j + m) = l') (k : ∀ w1, Blk w1.heap b l' t' → Fram (one b) w w1 → WB P ops Q S r (Fr n e ds) w1) : WB P ops Q S ((i, 2) :: r) (Fr n e ds) w := by
  subst hl
  exact pb_so ho (so_storeAggB hx hy h1 ht hm hB hi) (k _ (hB.set _) (set_fram hB _))

end
end Go.Proofs.Qxb6500568aGreatDoor
