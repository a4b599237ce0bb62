import Derived.Test.Qxb6500568aGreatDoorGf
import Derived.RangeFuncNested
import Derived.TacticsIn
import Derived.OrdersIn
/- Library: ranges over a function: code within a round; calls of yield. -/
namespace Go.Proofs.Qxb6500568aGreatDoor
set_option linter.unusedVariables false
set_option linter.unusedSimpArgs false

section
variable {P : Program} {n m l : Nat} {e : Nat → Option Value} {w w1 : World} {ds : List Deferred} {ops : Array Oper} {Q : Exit → Act → World → Prop} {a : Act} {o : Oper} {K : Act → World → Prop}

def isDefer : Op → Bool
  | .defer _ => true
  | _ => false
theorem rowsIn_wide {row : String} {args : Array Value} {R : Value → World → Prop} (h : Rows P row args w R) : RowsIn Fence.wide n P row args w R :=
  fun c cs _ => let ⟨v, w', r, s⟩ := h c cs; ⟨v, w', r, stepsIn_wide.2 s⟩
/-- What an operation does outside it does within a round. -/
theorem op_in (hd : isDefer o.op = false) (h : o.wp P a w K Q) : o.wpIn (Fence.wide.inRound l) n P a w K Q := by
  refine ⟨fun f _ => trivial, ?_⟩
  have hs : Oper.semAt (Fence.wide.inRound l).round a.eval o = execOp a.eval o := Oper.semAt_some l _ _ (fun c hc => by rw [hc] at hd; simp [isDefer] at hd)
  rw [hs]
  unfold Oper.wp at h
  generalize (execOp a.eval o).run P w = r at h ⊢
  cases r with
  | ok x w' =>
    cases x <;> simp only [Oper.upon, Oper.uponIn] at h ⊢ <;> first
      | exact h
      | exact ⟨fun h' => by simp [Fence.wide] at h', (callsIn_wide.2 h).inRound l⟩
      | exact h.elim
      | skip
    exact ⟨fun h' => by simp [Fence.wide] at h', fun c cs _ => let ⟨v, w', r, s⟩ := h c cs; ⟨v, w', r, stepsIn_wide.2 s⟩⟩
  | halt x w' => cases x <;> simp only [Oper.upon, Oper.uponIn] at h ⊢ <;> exact h

theorem wpOp_in {i : Nat} (hd : ∀ o, ops[i]? = some o → isDefer o.op = false) (hL : ¬ LetsOut Q) (h : wpOp P ops Q i K a w) : wpOpIn (Fence.wide.inRound l) n P ops Q i K a w := by
  unfold wpOp at h
  unfold wpOpIn
  cases ho : ops[i]? with
  | none => rw [ho] at h; exact h
  | some o =>
    rw [ho] at h
    simp only at h ⊢
    split
    · rename_i hw
      rw [if_pos hw] at h
      rcases h with h | h
      · exact op_in (hd o ho) h
      · exact absurd h.2 hL
    · rename_i hw
      rw [if_neg hw] at h
      exact ⟨fun f _ => trivial, h⟩
theorem wpAny_in {md : Region.Mode} (hd : ∀ (i : Nat) o, ops[i]? = some o → isDefer o.op = false) (hL : ¬ LetsOut Q) : ∀ (fuel : Nat) (listed : Array Bool) (a : Act) (w : World), wpAny P md ops Q fuel listed a w → wpAnyIn (Fence.wide.inRound l) n P md ops Q fuel listed a w
  | 0, _, _, _, h => h
  | fuel + 1, listed, a, w, h => ⟨h.1, fun i hi => wpOpIn_mono (fun a' w' h' => wpAny_in hd hL fuel _ a' w' h') (wpOp_in (hd i) hL (h.2 i hi))⟩
theorem noDef (h : ops.all (fun o => !isDefer o.op) = true) (i : Nat) (o : Oper) (ho : ops[i]? = some o) : isDefer o.op = false := by
  have := Array.all_eq_true_iff_forall_mem.1 h o (Array.mem_of_getElem? ho)
  simpa using this
/-- A region of any order within a round. -/
theorem i_pi {id : Nat} {S : World → Prop} (π : List (Nat × Bool)) (S : World → Prop) (hm : P.follows .mixedOrders = true) (hs : Region.noSelect ops = true) (hl : Nat.ble π.length ops.size = true)
    (hk : piOK .any ops π (Array.replicate ops.size false) = true) (hdf : ops.all (fun o => !isDefer o.op) = true) (hL : ¬ LetsOut Q) (hQ : PanOk Q) (hS : S { w with drawn := w.drawn + 1 }) (h : WP P ops Q S π a { w with drawn := w.drawn + 1 }) : (Code.region id ops true).wpIn (Fence.wide.inRound l) n P Q a w :=
  wpIn_region_any hm (wpAny_in (noDef hdf) hL _ _ _ _ (wpAny_of_held _ _ _ _ (pi_sound hs hQ π _ _ _ _ (by simpa using hl) hk hS h.out)))
theorem wpList_in (hL : ¬ LetsOut Q) : ∀ (r : List Oper) (a : Act) (w : World), r.all (fun o => !isDefer o.op) = true → wpList P ops Q r a w → wpListIn (Fence.wide.inRound l) n P ops Q r a w
  | [], a, w, _, h => h
  | o :: r, a, w, hd, h => by
    simp only [List.all_cons, Bool.and_eq_true] at hd
    simp only [wpList] at h
    simp only [wpListIn]
    split
    · rename_i hw
      rw [if_pos hw] at h
      first
        | exact Oper.wpIn_mono (fun a' w' h' => wpList_in hL r a' w' hd.2 h') (op_in (by simpa using hd.1) h)
        | (rcases h with h | h
           · exact Oper.wpIn_mono (fun a' w' h' => wpList_in hL r a' w' hd.2 h') (op_in (by simpa using hd.1) h)
           · exact absurd h.2 hL)
    · rename_i hw
      rw [if_neg hw] at h
      exact ⟨fun f _ => trivial, wpList_in hL r _ w hd.2 h⟩
theorem i_reg {id : Nat} {r : List Oper} (hd : r.all (fun o => !isDefer o.op) = true) (hL : ¬ LetsOut Q) (h : WL P r.toArray Q r a w) : (Code.region id r.toArray false).wpIn (Fence.wide.inRound l) n P Q a w :=
  wpIn_region_lit (wpList_in hL r a w hd h.out)

/-! calls of yield -/

/-- The list of operations, calls of yield among them. -/
structure WY (P : Program) (n : Nat) (ops : Array Oper) (Q : Exit → Act → World → Prop) (rest : List Oper) (a : Act) (w : World) : Prop where
  out : wpListIn Fence.wide n P ops Q rest a w
theorem c_regY {id : Nat} {r : List Oper} (h : WY P n r.toArray Q r a w) : WC P (Code.region id r.toArray false) Q a w := ⟨wpIn_wide.1 (wpIn_region_lit h.out)⟩
variable {d : Nat} {op : Op} {ty : TypeId} {ps : String} {af : Array Edge} {v : Value} {rest : List Oper}
theorem wy (h : RO P n e w op v) (k : WY P m ops Q rest (Fr n (upd e d v) ds) w) : WY P m ops Q (⟨some d, op, ty, ps, af, none⟩ :: rest) (Fr n e ds) w := by
  refine ⟨wpListIn_plain rfl fun K hK => ⟨fun f _ => trivial, ?_⟩⟩
  have hs : Oper.semAt Fence.wide.round (Fr n e ds).eval ⟨some d, op, ty, ps, af, none⟩ = execOp (Fr n e ds).eval ⟨some d, op, ty, ps, af, none⟩ := rfl
  rw [hs, h ds]
  simp only [Oper.uponIn, put_some]
  exact hK _ _ k.out
theorem wy_nil (h : Q .normal a w) : WY P n ops Q [] a w := ⟨wpListIn_nil h⟩
theorem wy_yield {x : Operand} {args : List Operand} {ats : Array TypeId} {vs : List Value} {R : Ending → World → Prop} (hx : evO n e x = some (.func (.yield l) #[] #[])) (ha : evArgs n e args = some vs) (hy : YieldAt Fence.wide (m - 1) P l vs.toArray w R)
    (k : ∀ en w', R en w' → ∃ v, en = .returned v ∧ WY P m ops Q rest (Fr n (upd e d v) ds) w') : WY P m ops Q (⟨some d, .call ⟨.value x, args.toArray, ats⟩, ty, ps, af, none⟩ :: rest) (Fr n e ds) w := by
  refine ⟨wpListIn_plain rfl fun K hK => ⟨fun f _ => trivial, ?_⟩⟩
  obtain ⟨fn, tmps, assign, body, h1, h2⟩ := hy
  have hm := evArgs_map (ds := ds) args vs ha
  have hs : (Oper.semAt Fence.wide.round (Fr n e ds).eval ⟨some d, .call ⟨.value x, args.toArray, ats⟩, ty, ps, af, none⟩).run P w = .ok (.round l fn tmps assign body) w := by
    rw [show Oper.semAt Fence.wide.round (Fr n e ds).eval ⟨some d, .call ⟨.value x, args.toArray, ats⟩, ty, ps, af, none⟩ = execOp (Fr n e ds).eval ⟨some d, .call ⟨.value x, args.toArray, ats⟩, ty, ps, af, none⟩ from rfl]
    simp [execOp, resolve, evO_eval hx, Deferred.ofValue, invoke, hm, h1]
  rw [hs]
  simp only [Oper.uponIn]
  refine ⟨fun h' => by simp [Fence.wide] at h', h2.mono fun en w' hR => ?_⟩
  obtain ⟨v, rfl, hk⟩ := k en w' hR
  simp only [put_some]
  exact hK _ _ hk.out
end
end Go.Proofs.Qxb6500568aGreatDoor
