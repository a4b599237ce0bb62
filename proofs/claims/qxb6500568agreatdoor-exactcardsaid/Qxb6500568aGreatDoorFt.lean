import Derived.Test.Qxb6500568aGreatDoorFi
/- Library: a region of any order in which two operations wait side by side; a cut behind a region. -/
namespace Go.Proofs.Qxb6500568aGreatDoor
set_option linter.unusedVariables false
set_option linter.unusedSimpArgs false
section
variable {P : Program} {ops : Array Oper} {Q : Exit → Act → World → Prop} {md : Region.Mode} {S : World → Prop} {last : Nat}

def piF (P : Program) (ops : Array Oper) (Q : Exit → Act → World → Prop) (S : World → Prop) (last i j : Nat) (π2 π3 : List (Nat × Bool)) : List Nat → Act → World → Prop
  | [], a, w => piL P ops Q S last ((i, true) :: π2) a w ∧ piL P ops Q S last ((j, true) :: π3) a w
  | k :: r, a, w => ∃ o v, ops[k]? = some o ∧ YieldsIf P ops S o v a ∧ piF P ops Q S last i j π2 π3 r (a.put o.dst v) w

def piFOK (md : Region.Mode) (ops : Array Oper) (last i j : Nat) (π2 π3 : List (Nat × Bool)) : List Nat → Array Bool → Bool
  | [], listed => (i != last) && (j != last) && (Region.ready md ops listed == [i, j]) && piLOK9 md ops last π2 (listed.setIfInBounds i true) && piLOK9 md ops last π3 (listed.setIfInBounds j true)
  | k :: r, listed => (k != last) && depB md ops 9 last k && Region.free md ops listed k && (Region.ready md ops listed).contains k && piFOK md ops last i j π2 π3 r (listed.setIfInBounds k true)

theorem piF_sound (hs : Region.noSelect ops = true) (hQ : PanOk Q) {i j : Nat} {π2 π3 : List (Nat × Bool)} : ∀ (π1 : List Nat) (fuel : Nat) (listed : Array Bool) (a : Act) (w : World), π1.length + π2.length + 2 ≤ fuel → π1.length + π3.length + 2 ≤ fuel → Cl md ops listed → piFOK md ops last i j π2 π3 π1 listed = true → S w → piF P ops Q S last i j π2 π3 π1 a w → wpAnyL P md ops Q S last fuel listed a w
  | [], fuel, listed, a, w, hf, hf3, hcl, hk, hS, h => by
    simp only [piFOK, Bool.and_eq_true, beq_iff_eq, bne_iff_ne, ne_eq] at hk
    obtain ⟨⟨⟨⟨k1, k2⟩, k3⟩, k4⟩, k5⟩ := hk
    have hf' : π2.length + 2 ≤ fuel := by simpa using hf
    have hf3' : π3.length + 2 ≤ fuel := by simpa using hf3
    cases fuel with
    | zero => omega
    | succ fuel =>
      refine ⟨fun h0 => (by rw [k3] at h0; cases h0), fun q hq => ?_⟩
      have hqr := hq
      rw [k3] at hq
      simp only [List.mem_cons, List.not_mem_nil, or_false] at hq
      rcases hq with rfl | rfl
      · exact wpOp_mono (fun a' w' h' => ⟨fun _ => h'.1, piL_sound9 hs hQ π2 fuel _ a' w' (by omega) (cl_set hcl hqr) k4 h'.1 h'.2⟩) h.1
      · exact wpOp_mono (fun a' w' h' => ⟨fun _ => h'.1, piL_sound9 hs hQ π3 fuel _ a' w' (by omega) (cl_set hcl hqr) k5 h'.1 h'.2⟩) h.2
  | k :: r, fuel, listed, a, w, hf, hf3, hcl, hk, hS, h => by
    obtain ⟨o, v, hi, hy, hr⟩ := h
    simp only [piFOK, Bool.and_eq_true, bne_iff_ne, ne_eq] at hk
    obtain ⟨⟨⟨⟨k1, k2⟩, k3⟩, k4⟩, k5⟩ := hk
    have hir : k ∈ Region.ready md ops listed := by simpa using k4
    rw [List.length_cons] at hf hf3
    cases fuel with
    | zero => omega
    | succ fuel =>
      refine wpAnyL_first9 hi (Region.noSelect_spec hs) k1 k2 (fun c a' w' hp => hQ c _ _ w' (put_defers_eq a' o.dst v) hp) fuel listed a w hcl (Region.free_spec hi k3) hir hy hS ?_
      exact piF_sound hs hQ r fuel _ _ w (by omega) (by omega) (cl_set hcl hir) k5 hS hr

structure WFk (P : Program) (ops : Array Oper) (Q : Exit → Act → World → Prop) (S : World → Prop) (last i j : Nat) (π2 π3 : List (Nat × Bool)) (π1 : List Nat) (a : Act) (w : World) : Prop where
  out : piF P ops Q S last i j π2 π3 π1 a w

theorem c_piF {id : Nat} {a : Act} {w : World} (last i j : Nat) (π1 : List Nat) (π2 π3 : List (Nat × Bool)) (S : World → Prop) (hm : P.follows .mixedOrders = true) (hs : Region.noSelect ops = true) (hl : Nat.ble (π1.length + π2.length + 2) ops.size = true) (hl3 : Nat.ble (π1.length + π3.length + 2) ops.size = true)
    (hk : piFOK .any ops last i j π2 π3 π1 (Array.replicate ops.size false) = true) (hQ : PanOk Q) (hS : S { w with drawn := w.drawn + 1 }) (h : WFk P ops Q S last i j π2 π3 π1 a { w with drawn := w.drawn + 1 }) : WC P (Code.region id ops true) Q a w :=
  ⟨wp_region_any hm (wpAny_of_L _ _ _ _ (piF_sound hs hQ π1 _ _ _ _ (Nat.le_of_ble_eq_true hl) (Nat.le_of_ble_eq_true hl3) (fun i o _ hl => by
    rcases Nat.lt_or_ge i ops.size with h' | h'
    · simp [h'] at hl
    · simp [h'] at hl) hk hS h.out))⟩

theorem wf_fork {i j : Nat} {π2 π3 : List (Nat × Bool)} {a : Act} {w : World} (h1 : WQ P ops Q S last ((i, true) :: π2) a w) (h2 : WQ P ops Q S last ((j, true) :: π3) a w) : WFk P ops Q S last i j π2 π3 [] a w := ⟨⟨h1.out, h2.out⟩⟩

variable {n : Nat} {e : Nat → Option Value} {ds : List Deferred} {w w1 : World} {r : List Nat} {i j k d : Nat} {π2 π3 : List (Nat × Bool)} {op : Op} {ty : TypeId} {ps : String} {af : Array Edge} {v : Value}

theorem wf_ro (hi : ops[k]? = some ⟨some d, op, ty, ps, af, none⟩) (h : ∀ w, S w → RO P n e w op v) (k' : WFk P ops Q S last i j π2 π3 r (Fr n (upd e d v) ds) w) : WFk P ops Q S last i j π2 π3 (k :: r) (Fr n e ds) w :=
  ⟨⟨_, v, hi, .inl ⟨rfl, fun w hw => h w hw ds _ _ _ _ _⟩, by rw [put_some]; exact k'.out⟩⟩

/-- A cut: what holds behind the code, whatever was asked. -/
theorem c_cut {c : Code} {a : Act} (M : Act → World → Prop) (h : WC P c (fun ex a' w' => ex = .normal ∧ M a' w') a w) (k : ∀ a' w', M a' w' → Q .normal a' w') : WC P c Q a w :=
  ⟨wp_mono h.out (fun ex a' w' hq => by obtain ⟨rfl, hm⟩ := hq; exact k a' w' hm)⟩
theorem po_cut {M : Act → World → Prop} : PanOk (fun ex a' w' => ex = .normal ∧ M a' w') := fun c a a' w hd hq => by cases hq.1
end
end Go.Proofs.Qxb6500568aGreatDoor
