import Derived.Test.Qxb6500568aGreatDoorZb
/- The compiler's state: lists turned. -/
namespace Go.Proofs.Qxb6500568aGreatDoor
open Ieee
set_option linter.unusedVariables false
set_option linter.unusedSimpArgs false
set_option linter.unusedSectionVars false

theorem ro_max {P : Program} {n : Nat} {e : Nat → Option Value} {w : World} {x y : Operand} {k : IntKind} {a b : Int} {ts : Array TypeId} (hx : evO n e x = some (.int k a)) (hy : evO n e y = some (.int k b)) : RO P n e w (.call ⟨.builtin .max, #[x, y], ts⟩) (.int k (if b > a then b else a)) := by
  intro ds dst ty ps af g
  simp [execOp, resolve, evO_eval hx, evO_eval hy, invoke, builtin, Builtin.max_, Builtin.max2]

/-! ### deferred calls -/

/-- a call, by its code. -/
def RetW (P : Program) (f : FuncId) (args : List Value) (w : World) (R : Value → World → Prop) : Prop := ∃ fn c m, P.funcs[f]? = some fn ∧ fn.body = some c ∧ fn.ntmps = m ∧ Nat.ble args.length m = true ∧ WC P c (BP P fn R) (Fr m (ini args) []) w
section
variable {P : Program} {n : Nat} {e : Nat → Option Value} {ds : List Deferred} {w w1 : World} {ops : Array Oper} {Q : Exit → Act → World → Prop} {rest : List Oper} {ty : TypeId} {ps : String} {af : Array Edge}
theorem retw_of {f : FuncId} {fn : Func} {c : Code} {args : List Value} {R : Value → World → Prop} {m : Nat} (hf : P.funcs[f]? = some fn) (hb : fn.body = some c) (hm : fn.ntmps = m) (hl : Nat.ble args.length m = true) (h : WC P c (BP P fn R) (Fr m (ini args) []) w) : RetW P f args w R := ⟨fn, c, m, hf, hb, hm, hl, h⟩
theorem RetW.ret {f : FuncId} {args : List Value} {R : Value → World → Prop} (h : RetW P f args w R) : Ret P f args w R := by
  obtain ⟨fn, c, m, hf, hb, hm, hl, h⟩ := h
  exact ret_of hf hb hm hl h
theorem RetW.callsD {f : FuncId} {args : List Value} {R : Value → World → Prop} {u : FrameMode} (h : RetW P f args w R) : CallsD P f args.toArray u w fun en u' w' => u' = u ∧ ∃ v, en = .returned v ∧ R v w' := by
  obtain ⟨fn, c, m, hf, hb, hm, hl, h⟩ := h
  refine callsD_of_wp hf hb ?_
  rw [hm, fr_ini args (by simpa using hl)]
  exact h.out
theorem wl_deferA {f : FuncId} {args : List Operand} {ats : Array TypeId} {vs : List Value} (ha : evArgs n e args = some vs) (k : WL P ops Q rest (Fr n e ({ target := .fn (.func f) #[], args := vs.toArray } :: ds)) w) :
    WL P ops Q (⟨none, .defer ⟨.value (.func f), args.toArray, ats⟩, ty, ps, af, none⟩ :: rest) (Fr n e ds) w := by
  refine ⟨wpList_plain rfl fun K hK => ?_⟩
  unfold Oper.wp
  have hm := evArgs_map (ds := ds) args vs ha
  have : (execOp (Fr n e ds).eval ⟨none, .defer ⟨.value (.func f), args.toArray, ats⟩, ty, ps, af, none⟩).run P w = .ok (.defer { target := .fn (.func f) #[], args := vs.toArray }) w := by
    simp [execOp, resolve, Deferred.ofValue, Act.eval, hm]
  rw [this]
  simp only [Oper.upon, put_none]
  exact hK _ _ k.out
theorem bpd_one {f : FuncId} {fn : Func} {args : List Value} {R R1 : Value → World → Prop} (hr : fn.results = #[]) (hf : Enters P f) (h : RetW P f args w R1) (k : ∀ v w', R1 v w' → R (.tuple #[]) w') : BPd P fn R .normal (Fr n e [{ target := .fn (.func f) #[], args := args.toArray }]) w := by
  refine leaves_cons (f := f) (args := args.toArray) (by simp) ?_ (CallsD.mono h.callsD fun en u' w' ⟨hu, v, he, hv⟩ => ?_)
  · have := hf args.toArray w
    simpa [invoke] using this
  · subst hu he
    exact ⟨.tuple #[], by simp [results, hr], _, rfl, k v w' hv⟩
theorem bpd_oneR {f : FuncId} {fn : Func} {args : List Value} {R R1 : Value → World → Prop} (hr : fn.results = #[]) (hf : Enters P f) (h : RetW P f args w R1) (k : ∀ v w', R1 v w' → R (.tuple #[]) w') : BPd P fn R .ret (Fr n e [{ target := .fn (.func f) #[], args := args.toArray }]) w := bpd_one hr hf h k
end
/-! ### calls of function values -/

/-- calling v with vs answers R. -/
def CallsV (P : Program) (v : Value) (vs : List Value) (w : World) (R : Value → World → Prop) : Prop := ∃ f bs cs, v = .func (.func f) (List.toArray bs) (List.toArray cs) ∧ Enters P f ∧ Ret P f (bs ++ vs ++ cs) w R
section
variable {P : Program} {n : Nat} {e : Nat → Option Value} {ds : List Deferred} {w w1 : World} {ops : Array Oper} {Q : Exit → Act → World → Prop} {rest : List Oper} {d : Nat} {op : Op} {ty : TypeId} {ps : String} {af : Array Edge} {v : Value}
theorem wl_callV {x : Operand} {args : List Operand} {ats : Array TypeId} {vs : List Value} {R : Value → World → Prop} (hx : evO n e x = some v) (ha : evArgs n e args = some vs) (hc : CallsV P v vs w R)
    (k : ∀ v w', R v w' → WL P ops Q rest (Fr n (upd e d v) ds) w') : WL P ops Q (⟨some d, .call ⟨.value x, args.toArray, ats⟩, ty, ps, af, none⟩ :: rest) (Fr n e ds) w := by
  obtain ⟨f, bs, cs, rfl, hf, hc⟩ := hc
  refine ⟨wpList_plain rfl fun K hK => ?_⟩
  unfold Oper.wp
  have hm := evArgs_map (ds := ds) args vs ha
  have he : (execOp (Fr n e ds).eval ⟨some d, .call ⟨.value x, args.toArray, ats⟩, ty, ps, af, none⟩).run P w = .ok (.enter f (bs ++ vs ++ cs).toArray) w := by
    have := hf (bs ++ vs ++ cs).toArray w
    simp [execOp, resolve, evO_eval hx, Deferred.ofValue, invoke, hm]
    simpa using this
  rw [he]
  simp only [Oper.upon]
  refine Calls.mono hc fun en w' hR => ?_
  obtain ⟨v, rfl, h⟩ := hR
  simp only [put_some]
  exact hK _ _ (k v w' h).out
theorem ro_makeBound {f : FuncId} {x : Operand} {u : Value} (ha : evO n e x = some u) : RO P n e w (.makeFunc (.func f) #[x] #[]) (.func (.func f) #[u] #[]) := by
  intro ds dst ty ps af g
  simp [execOp, Instr.makeFunc, evO_eval ha]
end

section
variable {E : ZEnv} {w w1 w' u1 u2 : World} {ow ow' : Nat → Nat} {O : List Nat} {S : Fns} {A q : List ZAct} {F : Nat → Prop} {f : ZAct} {R : List ZRow} {z : ZSl} {v v' : Value}

/-- The locals grown or cut. -/
theorem CM.locS (h : CM E w ow O S (f :: q)) (op : ZOp E w ow O S (f :: q) f R z) {L' : List Str} {va : Option Addr} {vc : Nat} (hF : Fram none' w w1) (hon : Own u1.heap (.slice va L'.length vc) 9 1 L'.length (L'.map Go.Proofs.Qxb6500568aGreatDoor.S)) (G1 : Fram (own1 (.slice z.la f.L.length z.lc)) w1 u1) (hnb : nob (.slice z.la f.L.length z.lc) (.slice va L'.length vc) w1)
    (fr : Fram (one E.gb) u1 u2) (hB : Blk u2.heap E.gb ((rws fnc R).set (f.j * 11 + 3) (.slice va L'.length vc)) 199) : ZP E w ow O S ({ f with L := L' } :: q) u2 := by
  obtain ⟨x1, x2, x3⟩ := zapp3 h.ta h.gl op.loc hF hon G1 hnb fr (by have := op.j; omega)
  have hj := op.j
  have hfr := frF_of (E := E) (j := f.j) x3 (by unfold fnT; omega)
  obtain ⟨rows, p1, p2⟩ := op.lps
  refine ⟨_, x1, h.frC hj hfr, h.head hfr x1 (cut66_df _ _) op rfl (r' := mkR E S { f with L := L' } { z with la := va, lc := vc }) (op.set (o := 3) hB (by decide) rfl) ⟨x2, op.ups.off x3 x1 h.ta (by omega) (by omega), op.ks.off x3 x1 h.ta (by omega) (by omega), op.code.off x3 x1 h.ta (by omega) (by omega), rows, p1.off x3 x1 h.ta (by omega) (by omega), p2.off x3 x1 h.ta (by omega)⟩ ⟨rfl, rfl, rfl, rfl, rfl, rfl, ⟨_, rfl, op.nums.1.fram x3 (off_ne h.ta op.nums.2 (by omega) (by omega)), by rw [x1 _ op.nums.1.lt]; exact op.nums.2⟩, ⟨_, rfl, op.strs.1.fram x3 (off_ne h.ta op.strs.2 (by omega) (by omega)), by rw [x1 _ op.strs.1.lt]; exact op.strs.2⟩⟩ (fun _ _ => rfl)⟩
/-- one cell of the row put anew (a number). -/
theorem CM.numS (h : CM E w ow O S (f :: q)) (op : ZOp E w ow O S (f :: q) f R z) {S' : Fns} {o : Nat} (hF : Fram none' w w1) (fr : Fram (one E.gb) w1 u2) (hB : Blk u2.heap E.gb ((rws fnc R).set (f.j * 11 + o) v) 199) (ho : o < 11) (he : fnc (mkR E S' f z) = (fnc (mkR E S f z)).set o v)
    (e1 : (fsAt S' f.j).ups = (fsAt S f.j).ups) (e2 : (fsAt S' f.j).ks = (fsAt S f.j).ks) (hS : ∀ k, k ≠ f.j → fsAt S' k = fsAt S k) : ZP E w ow O S' (f :: q) u2 := by
  have hj := op.j
  have hfm : Fram (fun b => b = E.gb) w u2 := (hF.wide (G := fun b => b = E.gb)).trans' fr (fun c _ q => q)
  have hfr : Fram (frF E ow f.j) w u2 := hfm.mono (fun b _ q => .inl q)
  have hn : ∀ {b tag : Nat}, ow b = tag → tag ≠ 191 → ¬ (b = E.gb) := fun {b tag} e k y => by rw [y, h.ta] at e; exact k e.symm
  have x1 : Xt w ow (cut66 u2 ow) := fun b hb => cut66_xt _ _ b (by have := hfr.size; omega)
  obtain ⟨rows, p1, p2⟩ := op.lps
  refine ⟨_, x1, h.frC hj hfr, h.head hfr x1 (cut66_df _ _) op rfl (r' := mkR E S' f z) (op.set hB ho he) ⟨op.loc.far hfm (fun b y _ => hn y (by omega)) x1, ?_, ?_, op.code.far hfm (fun b y _ => hn y (by omega)) x1, rows, p1.far hfm (fun b y _ => hn y (by omega)) x1, p2.far hfm (fun b y _ z => by rcases y with y | y
                                                                                                                                                                                                                                                                                                          · exact hn y (by omega) z
                                                                                                                                                                                                                                                                                                          · exact hn rfl (by omega) z) x1⟩ ⟨rfl, rfl, rfl, rfl, rfl, rfl, ⟨_, rfl, ?_, by rw [x1 _ op.nums.1.lt]; exact op.nums.2⟩, ⟨_, rfl, ?_, by rw [x1 _ op.strs.1.lt]; exact op.strs.2⟩⟩ hS⟩
  · have := op.ups.far hfm (fun b y _ => hn y (by omega)) x1
    show OwT _ _ _ (.slice z.ua (fsAt S' f.j).ups.length z.uc) _ _ (fsAt S' f.j).ups.length (rws upc (fsAt S' f.j).ups)
    rw [e1]; exact this
  · have := op.ks.far hfm (fun b y _ => hn y (by omega)) x1
    show OwT _ _ _ (.slice z.ka (fsAt S' f.j).ks.length z.kc) _ _ (fsAt S' f.j).ks.length (rws pvc (fsAt S' f.j).ks)
    rw [e2]; exact this
  · have := op.nums.1.fram hfm (hn op.nums.2 (by omega))
    show MF _ _ _ _ (numF (fsAt S' f.j).ks)
    rw [e2]; exact this
  · have := op.strs.1.fram hfm (hn op.strs.2 (by omega))
    show MF _ _ _ _ (strF (fsAt S' f.j).ks)
    rw [e2]; exact this
/-- other states that say the same of the functions met. -/
theorem CM.eqS (h : CM E w ow O S A) {S' : Fns} (he : ∀ k ∈ O, (fsAt S' k).np = (fsAt S k).np ∧ (fsAt S' k).ns = (fsAt S k).ns ∧ (fsAt S' k).ups = (fsAt S k).ups ∧ (fsAt S' k).ks = (fsAt S k).ks) (hc : ∀ k ∈ O, (∀ f ∈ A, f.j ≠ k) → (fsAt S' k).code = (fsAt S k).code) : CM E w ow O S' A := by
  obtain ⟨R, h1, h2, h3⟩ := h.F
  refine ⟨h.cb, h.tc, h.ta, h.N, ⟨R, h1, h2, fun j r hr => ?_⟩, h.un, h.mem, h.df⟩
  obtain ⟨m, q⟩ := h3 j r hr
  refine ⟨m, q.k, fun ho => ?_, q.a, fun hn => ?_⟩
  · obtain ⟨e1, e2, e3, e4⟩ := he j ho
    have o := q.o ho
    exact ⟨o.c, o.par, by rw [e1]; exact o.np, by rw [e2]; exact o.ns, by rw [e3]; exact o.ups, by rw [e4]; exact o.ks, o.nums, o.strs⟩
  · obtain ⟨i1, i2⟩ := q.i hn
    refine ⟨i1, fun ho => ?_⟩
    rw [hc j ho hn, (he j ho).1]
    exact i2 ho
end
end Go.Proofs.Qxb6500568aGreatDoor
