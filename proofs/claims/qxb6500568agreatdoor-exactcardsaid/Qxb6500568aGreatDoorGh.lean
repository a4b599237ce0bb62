import Derived.Test.Qxb6500568aGreatDoorGg
import Derived.Defers
import Derived.Recover
/- Calls that may panic. -/
namespace Go.Proofs.Qxb6500568aGreatDoor
set_option linter.unusedVariables false
set_option linter.unusedSimpArgs false

def EndP (R E : Value → World → Prop) (en : Ending) (w' : World) : Prop := (∃ v, en = .returned v ∧ R v w') ∨ (∃ pv, en = .panicked [{ v := pv, recovered := false }] ∧ E pv w')

/-- The call returns with R, or panics with E. -/
def RetP (P : Program) (f : FuncId) (args : List Value) (w : World) (R E : Value → World → Prop) : Prop := Calls P f args.toArray w (EndP R E)

theorem RetP.mono {P : Program} {f : FuncId} {args : List Value} {w : World} {R E R' E' : Value → World → Prop} (h : RetP P f args w R E) (hr : ∀ v w', R v w' → R' v w') (he : ∀ v w', E v w' → E' v w') : RetP P f args w R' E' :=
  Calls.mono h fun en w' hh => by
    rcases hh with ⟨v, h1, h2⟩ | ⟨v, h1, h2⟩
    · exact .inl ⟨v, h1, hr v w' h2⟩
    · exact .inr ⟨v, h1, he v w' h2⟩

section
variable {P : Program} {n : Nat} {e : Nat → Option Value} {ds : List Deferred} {w w1 : World} {ops : Array Oper} {Q : Exit → Act → World → Prop} {rest : List Oper}
  {d : Nat} {op : Op} {ty : TypeId} {ps : String} {af : Array Edge} {v : Value}

def BPp (P : Program) (fn : Func) (R E : Value → World → Prop) : Exit → Act → World → Prop := bodyPost P fn (EndP R E)

theorem bpp_ret {fn : Func} {R E : Value → World → Prop} {rs : List ResultVar} {v : Value} (hrs : fn.results = rs.toArray) (h : resV n e rs = some v) (hR : R v w) : BPp P fn R E .ret (Fr n e []) w :=
  bodyPost_ret (results_fr hrs h) rfl (.inl ⟨v, rfl, hR⟩)

theorem bpp_end {fn : Func} {R E : Value → World → Prop} {rs : List ResultVar} {v : Value} (hrs : fn.results = rs.toArray) (h : resV n e rs = some v) (hR : R v w) : BPp P fn R E .normal (Fr n e []) w :=
  bodyPost_end (results_fr hrs h) rfl (.inl ⟨v, rfl, hR⟩)

theorem bpp_pan {fn : Func} {R E : Value → World → Prop} {pv : Value} (hE : E pv w) : BPp P fn R E (.panic [{ v := pv, recovered := false }]) (Fr n e []) w := ⟨rfl, .inr ⟨pv, rfl, hE⟩⟩

theorem po_bpp {fn : Func} {R E : Value → World → Prop} : PanOk (BPp P fn R E) := po_body

theorem retp_of {f : FuncId} {fn : Func} {c : Code} {args : List Value} {R E : Value → World → Prop} {m : Nat} (hf : P.funcs[f]? = some fn) (hb : fn.body = some c) (hm : fn.ntmps = m) (hl : Nat.ble args.length m = true)
    (h : WC P c (BPp P fn R E) (Fr m (ini args) []) w) : RetP P f args w R E := by
  refine calls_of_wp hf hb ?_
  rw [hm]
  rw [fr_ini args (by simpa using hl)]
  exact h.out

theorem wl_callP {f : FuncId} {args : List Operand} {ats : Array TypeId} {vs : List Value} {R E : Value → World → Prop} (ha : evArgs n e args = some vs) (hf : Enters P f) (hc : RetP P f vs w R E)
    (hp : ∀ pv w', E pv w' → Q (.panic [{ v := pv, recovered := false }]) (Fr n e ds) w')
    (k : ∀ v w', R v w' → WL P ops Q rest (Fr n (upd e d v) ds) w') : WL P ops Q (⟨some d, .call ⟨.value (.func f), args.toArray, ats⟩, ty, ps, af, none⟩ :: rest) (Fr n e ds) w :=
  wl_callp ha hf hc (fun en w' hR => by
    rcases hR with ⟨v, h1, h2⟩ | ⟨v, h1, h2⟩
    · exact .inl ⟨v, h1, k v w' h2⟩
    · exact .inr ⟨_, h1, hp v w' h2⟩)

theorem wl_panic {x : Operand} {t : TypeId} {v : Value} (hx : evO n e x = some (.iface t v)) (hq : Q (.panic [{ v := .iface t v, recovered := false }]) (Fr n e ds) w) : WL P ops Q (⟨none, .panic x, ty, ps, af, none⟩ :: rest) (Fr n e ds) w := by
  refine ⟨wpList_plain rfl fun K hK => ?_⟩
  unfold Oper.wp
  have : (execOp (Fr n e ds).eval ⟨none, .panic x, ty, ps, af, none⟩).run P w = .halt (.panic (.iface t v)) w := by
    simp [execOp, evO_eval hx, Instr.panic, goPanic]
  rw [this]
  exact hq

end
end Go.Proofs.Qxb6500568aGreatDoor
