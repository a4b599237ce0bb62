import Derived.Test.Qxb6500568aGreatDoorGi
import Derived.WideLaws
/- Deferred calls, recover, results in cells. -/
namespace Go.Proofs.Qxb6500568aGreatDoor
set_option linter.unusedVariables false
set_option linter.unusedSimpArgs false

section
variable {P : Program} {n : Nat} {e : Nat → Option Value} {ds : List Deferred} {w w1 : World} {ops : Array Oper} {Q : Exit → Act → World → Prop} {rest : List Oper}
  {d : Nat} {op : Op} {ty : TypeId} {ps : String} {af : Array Edge} {v : Value}

theorem wl_defer {x : Operand} {f : FuncId} {cs : List Value} (hx : evO n e x = some (.func (.func f) #[] cs.toArray)) (k : WL P ops Q rest (Fr n e ({ target := .fn (.func f) cs.toArray, args := #[] } :: ds)) w) :
    WL P ops Q (⟨none, .defer ⟨.value x, #[], #[]⟩, ty, ps, af, none⟩ :: rest) (Fr n e ds) w := by
  refine ⟨wpList_plain rfl fun K hK => ?_⟩
  unfold Oper.wp
  have : (execOp (Fr n e ds).eval ⟨none, .defer ⟨.value x, #[], #[]⟩, ty, ps, af, none⟩).run P w = .ok (.defer { target := .fn (.func f) cs.toArray, args := #[] }) w := by
    simp [execOp, resolve, evO_eval hx, Deferred.ofValue]
  rw [this]
  simp only [Oper.upon, put_none]
  exact hK _ _ k.out

theorem load_scal {t t' : TypeId} {b : Nat} {v : Value} (ht : scalB P t = true) (hB : Blk w.heap b [v] t') : (loadVar t ⟨b, 0, none⟩).run P w = .ok v w := by
  have hc : w.cell? ⟨b, 0, none⟩ = some v := by rw [hB.cell]; rfl
  simp [loadVar, run_isAgg_false ht, hc]

theorem results_cell2 {fn : Func} {a b ta tb : Nat} {ba bb : Nat} {u v : Value} {t1 t2 : TypeId} (hrs : fn.results = #[.cell a ta, .cell b tb]) (ha : evO n e (.tmp a) = some (ptr ba)) (hb : evO n e (.tmp b) = some (ptr bb)) (h1 : scalB P ta = true) (h2 : scalB P tb = true) (hA : Blk w.heap ba [u] t1) (hB : Blk w.heap bb [v] t2) :
    (results fn (Fr n e ds).tmps).run P w = .ok (.tuple #[u, v]) w := by
  have g1 := getD_of_evO (ds := ds) ha
  have g2 := getD_of_evO (ds := ds) hb
  have l1 := load_scal h1 hA
  have l2 := load_scal h2 hB
  simp at g1 g2
  simp [results, hrs, g1, g2, ptr, asAddr, l1, l2]

theorem ro_neqNilI {t t' u : TypeId} {x : Operand} {v : Value} (hx : evO n e x = some (.iface u v)) (ht : P.underlying t = some (.interface (P.methodsAt t))) : RO P n e w (.binOp .neq t x (.const .nilIface) t') (.bool true) := by
  intro ds dst ty ps af g
  have hc : (Fr n e ds).eval (.const .nilIface) = .nilIface := rfl
  simp [execOp, evO_eval hx, hc, eqGuard, run_neq_held_nil w t u v ht]

theorem ro_neqNilN {t t' : TypeId} {x : Operand} (hx : evO n e x = some .nilIface) (ht : P.underlying t = some (.interface (P.methodsAt t))) : RO P n e w (.binOp .neq t x (.const .nilIface) t') (.bool false) := by
  intro ds dst ty ps af g
  have hc : (Fr n e ds).eval (.const .nilIface) = .nilIface := rfl
  simp [execOp, evO_eval hx, hc, eqGuard_nil_constR, run_neq_nil_nil w t ht]

theorem ro_eqNilI {t t' u : TypeId} {x : Operand} {v : Value} (hx : evO n e x = some (.iface u v)) (ht : P.underlying t = some (.interface (P.methodsAt t))) : RO P n e w (.binOp .eql t x (.const .nilIface) t') (.bool false) := by
  intro ds dst ty ps af g
  have hc : (Fr n e ds).eval (.const .nilIface) = .nilIface := rfl
  simp [execOp, evO_eval hx, hc, eqGuard, run_eql_held_nil w t u v ht]

theorem ro_eqNilN {t t' : TypeId} {x : Operand} (hx : evO n e x = some .nilIface) (ht : P.underlying t = some (.interface (P.methodsAt t))) : RO P n e w (.binOp .eql t x (.const .nilIface) t') (.bool true) := by
  intro ds dst ty ps af g
  have hc : (Fr n e ds).eval (.const .nilIface) = .nilIface := rfl
  simp [execOp, evO_eval hx, hc, eqGuard_nil_constR, run_eql_nil_nil w t ht]

/-- No panic comes out. -/
def NP (Q : Exit → Act → World → Prop) : Exit → Act → World → Prop
  | .panic _, _, _ => False
  | .outgrown, _, _ => False
  | e, a, w => Q e a w

theorem po_np : PanOk (NP Q) := fun c a a' w _ h => h.elim

theorem c_np {c : Code} {a : Act} (h : WC P c (NP Q) a w) : WC P c Q a w := wc_mono h (fun e a w h => by
  cases e <;> first | exact h | exact h.elim)

def BPd (P : Program) (fn : Func) (R : Value → World → Prop) : Exit → Act → World → Prop := bodyPostD P fn (fun en w' => ∃ v, en = .returned v ∧ R v w')

theorem retd_of {f : FuncId} {fn : Func} {c : Code} {args : List Value} {R : Value → World → Prop} {m : Nat} (hf : P.funcs[f]? = some fn) (hb : fn.body = some c) (hm : fn.ntmps = m) (hl : Nat.ble args.length m = true)
    (h : WC P c (BPd P fn R) (Fr m (ini args) []) w) : Ret P f args w R := by
  refine calls_of_wp_defers hf hb ?_
  rw [hm]
  rw [fr_ini args (by simpa using hl)]
  exact h.out

end

section
variable {P : Program} {n : Nat} {e : Nat → Option Value} {w : World} {ops : Array Oper} {Q : Exit → Act → List Frame → World → Prop}

theorem ws_rec2 {d1 d2 : Nat} {ty1 ty2 : TypeId} {ps1 ps2 : String} {af1 af2 : Array Edge} {cs cs' : List Frame} {v : Value} (h1 : d1 < n)
    (hrec : recoverD cs = some (v, cs') ∨ (recoverD cs = none ∧ v = .nilIface ∧ cs' = cs))
    (k : Q .normal (Fr n (upd (upd e d1 v) d2 v) []) cs' w) : wpOpsS P #[⟨some d1, .call ⟨.builtin .recover, #[], #[]⟩, ty1, ps1, af1, none⟩, ⟨some d2, .assign (.tmp d1), ty2, ps2, af2, none⟩] Q [0, 1] (Fr n e []) cs w := by
  have hb : Nat.blt d1 n = true := by simp [Nat.blt_eq, h1]
  have hev : evO n (upd e d1 v) (.tmp d1) = some v := by simp [evO, upd, hb]
  have e2 : (Fr n (upd e d1 v) []).eval (.tmp d1) = v := evO_eval (n := n) (ds := []) hev
  have hr : ∀ ρ, (execOp ρ ⟨some d1, .call ⟨.builtin .recover, #[], #[]⟩, ty1, ps1, af1, none⟩).run P w = .ok .recover w := by
    intro ρ
    simp [execOp, resolve, invoke, builtin]
  rcases hrec with hrec | ⟨hrec, rfl, rfl⟩
  · simp [wpOpsS, Region.wanted, hr, hrec, put_some, execOp, Oper.upon, e2]
    exact k
  · simp [wpOpsS, Region.wanted, hr, hrec, put_some, execOp, Oper.upon, e2]
    exact k

end
end Go.Proofs.Qxb6500568aGreatDoor
