import Derived.Test.Qxb6500568aGreatDoorGj
import Derived.RangeFuncLeaves
/- Library: functions whose body holds a range over a function. -/
namespace Go.Proofs.Qxb6500568aGreatDoor
set_option linter.unusedVariables false
set_option linter.unusedSimpArgs false

section
variable {P : Program} {n : Nat} {e : Nat → Option Value} {w : World} {ds : List Deferred} {ops : Array Oper} {Q : Exit → Act → World → Prop} {S : World → Prop}
theorem pi_putm {i : Nat} {r : List (Nat × Bool)} {ty : TypeId} {ps : String} {af : Array Edge} {t t' : TypeId} {x y : Operand} {b j : Nat} {l l' : List Value} {v : Value} (ho : ops[i]? = some ⟨none, .store t x y, ty, ps, af, none⟩) (hx : evO n e x = some (.pointer (some ⟨b, j, none⟩))) (hy : evO n e y = some v) (h1 : v.oneCell' = true) (ht : sizeB P t 1 = true)
    (hB : Blk w.heap b l t') (hi : j < l.length) (hl : l.set j v = l') (hS : ∀ w1, Blk w1.heap b l' t' → Fram (one b) w w1 → S w1) (k : ∀ w1, Blk w1.heap b l' t' → Fram (one b) w w1 → WP P ops Q S r (Fr n e ds) w1) : WP P ops Q S ((i, true) :: r) (Fr n e ds) w := by
  subst hl
  exact pi_so ho (so_storeB hx hy h1 ht hB hi) (hS _ (hB.set _) (set_fram hB _)) (k _ (hB.set _) (set_fram hB _))
end
section
variable {P : Program} {n : Nat} {e : Nat → Option Value} {w : World}
def BPm (P : Program) (fn : Func) (R : Value → World → Prop) : Exit → Act → World → Prop := bodyPostM Fence.wide 3 P fn (fun en w' => ∃ v, en = .returned v ∧ R v w')
theorem retm_of {f : FuncId} {fn : Func} {c : Code} {args : List Value} {R : Value → World → Prop} {m : Nat} (hf : P.funcs[f]? = some fn) (hb : fn.body = some c) (hm : fn.ntmps = m) (hl : Nat.ble args.length m = true)
    (h : WC P c (NP (BPm P fn R)) (Fr m (ini args) []) w) : Ret P f args w R := by
  refine callsIn_wide.1 (callsIn_of_wp_marks (n := 3) (F := Fence.wide) hf hb trivial ?_)
  rw [hm, fr_ini args (by simpa using hl)]
  exact wpIn_wide.2 (c_np h).out
theorem bpm_ret {fn : Func} {R : Value → World → Prop} {v : Value} (h : (results fn (Fr n e []).tmps).run P w = .ok v w) (hR : R v w) : NP (BPm P fn R) .ret (Fr n e []) w := by
  show LeavesInM _ _ _ _ _ _ [] _ _
  exact ⟨v, h, ⟨v, rfl, hR⟩⟩
/-- Behind a range over a function the block for the rounds' deferred calls is taken. -/
theorem bpm_retD {fn : Func} {R : Value → World → Prop} {v : Value} {D : Nat} (hD : w.heap[D]? = some (.deferred (some []))) (h : (results fn (Fr n e []).tmps).run P (w.putObj D (.deferred none)) = .ok v (w.putObj D (.deferred none))) (hR : R v (w.putObj D (.deferred none))) :
    NP (BPm P fn R) .ret (Fr n e [{ target := .collected D, args := #[] }]) w := by
  show LeavesInM _ _ _ _ _ _ [_] _ _
  refine ⟨by simp, .inl ⟨_, _, rfl, run_takeDeferred hD, ?_⟩⟩
  exact ⟨v, h, ⟨v, rfl, hR⟩⟩
end
end Go.Proofs.Qxb6500568aGreatDoor
