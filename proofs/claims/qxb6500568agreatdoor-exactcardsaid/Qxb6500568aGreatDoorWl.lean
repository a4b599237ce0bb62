import Derived.Test.Qxb6500568aGreatDoorFr
namespace Go.Proofs.Qxb6500568aGreatDoor
set_option linter.unusedVariables false
set_option linter.unusedSimpArgs false

/-! The rules of the walk over frames 'Fr'. The two structures keep the goals shut. -/

structure WL (P : Program) (ops : Array Oper) (Q : Exit → Act → World → Prop) (rest : List Oper) (a : Act) (w : World) : Prop where
  out : wpList P ops Q rest a w

structure WC (P : Program) (c : Code) (Q : Exit → Act → World → Prop) (a : Act) (w : World) : Prop where
  out : c.wp P Q a w

section
variable {P : Program} {n : Nat} {e : Nat → Option Value} {ds : List Deferred} {w w1 : World} {ops : Array Oper} {Q : Exit → Act → World → Prop} {rest : List Oper}
  {d : Nat} {op : Op} {ty : TypeId} {ps : String} {af : Array Edge} {v : Value}

theorem wl (h : RO P n e w op v) (k : WL P ops Q rest (Fr n (upd e d v) ds) w) : WL P ops Q (⟨some d, op, ty, ps, af, none⟩ :: rest) (Fr n e ds) w := by
  refine ⟨wpList_plain rfl fun K hK => ?_⟩
  unfold Oper.wp
  rw [h ds]
  simp only [Oper.upon, put_some]
  exact hK _ _ k.out

theorem wl0 (h : RO P n e w op v) (k : WL P ops Q rest (Fr n e ds) w) : WL P ops Q (⟨none, op, ty, ps, af, none⟩ :: rest) (Fr n e ds) w := by
  refine ⟨wpList_plain rfl fun K hK => ?_⟩
  unfold Oper.wp
  rw [h ds]
  simp only [Oper.upon, put_none]
  exact hK _ _ k.out

theorem wle (h : EO P n e w op v w1) (k : WL P ops Q rest (Fr n (upd e d v) ds) w1) : WL P ops Q (⟨some d, op, ty, ps, af, none⟩ :: rest) (Fr n e ds) w := by
  refine ⟨wpList_plain rfl fun K hK => ?_⟩
  unfold Oper.wp
  rw [h ds]
  simp only [Oper.upon, put_some]
  exact hK _ _ k.out

theorem wle0 (h : EO P n e w op v w1) (k : WL P ops Q rest (Fr n e ds) w1) : WL P ops Q (⟨none, op, ty, ps, af, none⟩ :: rest) (Fr n e ds) w := by
  refine ⟨wpList_plain rfl fun K hK => ?_⟩
  unfold Oper.wp
  rw [h ds]
  simp only [Oper.upon, put_none]
  exact hK _ _ k.out

theorem wls (h : SO P n e w op w1) (k : WL P ops Q rest (Fr n e ds) w1) : WL P ops Q (⟨none, op, ty, ps, af, none⟩ :: rest) (Fr n e ds) w := by
  refine ⟨wpList_plain rfl fun K hK => ?_⟩
  unfold Oper.wp
  rw [h ds]
  simp only [Oper.upon, put_none]
  exact hK _ _ k.out

/-! guards -/

def gval (n : Nat) (e : Nat → Option Value) (ops : Array Oper) (j : Nat) : Option Bool :=
  match (ops[j]?).bind (·.dst) with
  | some t => bif Nat.blt t n then (match e t with | some (.bool b) => some b | _ => none) else none
  | none => none

def gno : Option Bool → Bool → Bool
  | none, _ => true
  | some true, false => true
  | some false, true => true
  | _, _ => false

theorem gno_spec {g : Option Bool} {b : Bool} (h : gno g b = true) : (g == some b) = false := by
  cases g with
  | none => cases b <;> rfl
  | some c => cases c <;> cases b <;> first | rfl | (simp [gno] at h)

theorem yielded_fr (j : Nat) : yielded ops (Fr n e ds).tmps j = gval n e ops j := by
  unfold yielded gval
  cases hd : (ops[j]?).bind (·.dst) with
  | none => rfl
  | some t =>
    simp only [Option.bind_some]
    cases hb : Nat.blt t n with
    | false =>
      have : ¬ t < n := by rw [← Nat.blt_eq, hb]; simp
      simp [Fr, this]
    | true =>
      have : t < n := by simpa [Nat.blt_eq] using hb
      simp only [Fr, cond_true]
      cases he : e t with
      | none => simp [this, he, undef]
      | some u => cases u <;> simp [this, he]

theorem wlg_yes {j : Nat} {b : Bool} (hg : gval n e ops j = some b) (h : RO P n e w op v) (k : WL P ops Q rest (Fr n (upd e d v) ds) w) : WL P ops Q (⟨some d, op, ty, ps, af, some (j, b)⟩ :: rest) (Fr n e ds) w := by
  refine ⟨wpList_step fun K hK => ?_⟩
  have : Region.wanted ⟨some d, op, ty, ps, af, some (j, b)⟩ (yielded ops (Fr n e ds).tmps) = true := by simp [Region.wanted, yielded_fr, hg]
  rw [if_pos this]
  unfold Oper.wp
  rw [h ds]
  simp only [Oper.upon, put_some]
  exact hK _ _ k.out

theorem wlg_eyes {j : Nat} {b : Bool} (hg : gval n e ops j = some b) (h : EO P n e w op v w1) (k : WL P ops Q rest (Fr n (upd e d v) ds) w1) : WL P ops Q (⟨some d, op, ty, ps, af, some (j, b)⟩ :: rest) (Fr n e ds) w := by
  refine ⟨wpList_step fun K hK => ?_⟩
  have : Region.wanted ⟨some d, op, ty, ps, af, some (j, b)⟩ (yielded ops (Fr n e ds).tmps) = true := by simp [Region.wanted, yielded_fr, hg]
  rw [if_pos this]
  unfold Oper.wp
  rw [h ds]
  simp only [Oper.upon, put_some]
  exact hK _ _ k.out

theorem wlg_no {j : Nat} {b : Bool} (hg' : gno (gval n e ops j) b = true) (k : WL P ops Q rest (Fr n (upd e d undef) ds) w) : WL P ops Q (⟨some d, op, ty, ps, af, some (j, b)⟩ :: rest) (Fr n e ds) w := by
  have hg := gno_spec hg'
  refine ⟨wpList_step fun K hK => ?_⟩
  have : ¬ Region.wanted ⟨some d, op, ty, ps, af, some (j, b)⟩ (yielded ops (Fr n e ds).tmps) = true := by simp only [Region.wanted, yielded_fr, hg]; simp
  rw [if_neg this, put_some]
  exact hK _ _ k.out

/-! calls -/

def evArgs (n : Nat) (e : Nat → Option Value) : List Operand → Option (List Value)
  | [] => some []
  | x :: r => match evO n e x, evArgs n e r with
    | some v, some vs => some (v :: vs)
    | _, _ => none

theorem evArgs_map : ∀ (l : List Operand) (vs : List Value), evArgs n e l = some vs → l.map (Fr n e ds).eval = vs
  | [], vs, h => by simp [evArgs] at h; simp [h]
  | x :: r, vs, h => by
    simp only [evArgs] at h
    split at h
    · rename_i v us h1 h2
      cases h
      simp [evO_eval h1, evArgs_map r us h2]
    · cases h

/-- Function 'f' has a body: a call of it enters it. -/
def Enters (P : Program) (f : FuncId) : Prop := ∀ args w, (callFunc f args).run P w = .ok (.enter f args) w

theorem enters_of {f : FuncId} {fn : Func} (hf : P.funcs[f]? = some fn) (hn : (fn.name == "runtime.NumGoroutine") = false) (hb : fn.body.isNone = false) : Enters P f := by
  intro args w
  have hn' : ¬ fn.name = "runtime.NumGoroutine" := by simpa using hn
  have hb' : ¬ fn.body = none := by intro h; rw [h] at hb; simp at hb
  simp [callFunc, hf, hn', hb']

theorem run_call {f : FuncId} {args : List Operand} {ats : Array TypeId} {vs : List Value} (ha : evArgs n e args = some vs) (hf : Enters P f) (dst : Option Tmp) (ty : TypeId) (ps : String) (af : Array Edge) (g : Option (Nat × Bool)) :
    (execOp (Fr n e ds).eval ⟨dst, .call ⟨.value (.func f), args.toArray, ats⟩, ty, ps, af, g⟩).run P w = .ok (.enter f vs.toArray) w := by
  have hm := evArgs_map (ds := ds) args vs ha
  have := hf vs.toArray w
  simp [execOp, resolve, Act.eval, Deferred.ofValue, invoke, hm, this]

/-- The call returns, and 'R' holds of what it returns and of the world behind it. -/
def Ret (P : Program) (f : FuncId) (args : List Value) (w : World) (R : Value → World → Prop) : Prop := Calls P f args.toArray w (fun en w' => ∃ v, en = .returned v ∧ R v w')

theorem Ret.mono {f : FuncId} {args : List Value} {R R' : Value → World → Prop} (h : Ret P f args w R) (hr : ∀ v w', R v w' → R' v w') : Ret P f args w R' :=
  Calls.mono h fun en w' ⟨v, he, hv⟩ => ⟨v, he, hr v w' hv⟩

theorem wl_call {f : FuncId} {args : List Operand} {ats : Array TypeId} {vs : List Value} {R : Value → World → Prop} (ha : evArgs n e args = some vs) (hf : Enters P f) (hc : Ret P f vs w R)
    (k : ∀ v w', R v w' → WL P ops Q rest (Fr n (upd e d v) ds) w') : WL P ops Q (⟨some d, .call ⟨.value (.func f), args.toArray, ats⟩, ty, ps, af, none⟩ :: rest) (Fr n e ds) w := by
  refine ⟨wpList_plain rfl fun K hK => ?_⟩
  unfold Oper.wp
  rw [run_call ha hf]
  simp only [Oper.upon]
  refine Calls.mono hc fun en w' ⟨v, he, hv⟩ => ?_
  subst he
  simp only [put_some]
  exact hK _ _ (k v w' hv).out

theorem wlg_call {j : Nat} {b : Bool} {f : FuncId} {args : List Operand} {ats : Array TypeId} {vs : List Value} {R : Value → World → Prop} (hg : gval n e ops j = some b) (ha : evArgs n e args = some vs) (hf : Enters P f) (hc : Ret P f vs w R)
    (k : ∀ v w', R v w' → WL P ops Q rest (Fr n (upd e d v) ds) w') : WL P ops Q (⟨some d, .call ⟨.value (.func f), args.toArray, ats⟩, ty, ps, af, some (j, b)⟩ :: rest) (Fr n e ds) w := by
  refine ⟨wpList_step fun K hK => ?_⟩
  have : Region.wanted ⟨some d, .call ⟨.value (.func f), args.toArray, ats⟩, ty, ps, af, some (j, b)⟩ (yielded ops (Fr n e ds).tmps) = true := by simp [Region.wanted, yielded_fr, hg]
  rw [if_pos this]
  unfold Oper.wp
  rw [run_call ha hf]
  simp only [Oper.upon]
  refine Calls.mono hc fun en w' ⟨v, he, hv⟩ => ?_
  subst he
  simp only [put_some]
  exact hK _ _ (k v w' hv).out

/-- A call that may panic. -/
theorem wl_callp {f : FuncId} {args : List Operand} {ats : Array TypeId} {vs : List Value} {R : Ending → World → Prop} (ha : evArgs n e args = some vs) (hf : Enters P f) (hc : Calls P f vs.toArray w R)
    (k : ∀ en w', R en w' → (∃ v, en = .returned v ∧ WL P ops Q rest (Fr n (upd e d v) ds) w') ∨ (∃ ch, en = .panicked ch ∧ Q (.panic ch) (Fr n e ds) w')) : WL P ops Q (⟨some d, .call ⟨.value (.func f), args.toArray, ats⟩, ty, ps, af, none⟩ :: rest) (Fr n e ds) w := by
  refine ⟨wpList_plain rfl fun K hK => ?_⟩
  unfold Oper.wp
  rw [run_call ha hf]
  simp only [Oper.upon]
  refine Calls.mono hc fun en w' hR => ?_
  rcases k en w' hR with ⟨v, rfl, h⟩ | ⟨ch, rfl, h⟩
  · simp only [put_some]
    exact hK _ _ h.out
  · exact h

end

/-! control -/

section
variable {P : Program} {n : Nat} {e : Nat → Option Value} {ds : List Deferred} {w : World} {ops : Array Oper} {Q : Exit → Act → World → Prop}

theorem wc_cond {c : Operand} {x y : Code} {b : Bool} (hc : evO n e c = some (.bool b)) (ht : b = true → WC P x Q (Fr n e ds) w) (hf : b = false → WC P y Q (Fr n e ds) w) : WC P (Code.cond c x y) Q (Fr n e ds) w :=
  ⟨wp_cond_split (evO_eval hc) (fun h => (ht h).out) (fun h => (hf h).out)⟩

theorem wc_condT {c : Operand} {x y : Code} (hc : evO n e c = some (.bool true)) (h : WC P x Q (Fr n e ds) w) : WC P (Code.cond c x y) Q (Fr n e ds) w := ⟨wp_cond_true (evO_eval hc) h.out⟩
theorem wc_condF {c : Operand} {x y : Code} (hc : evO n e c = some (.bool false)) (h : WC P y Q (Fr n e ds) w) : WC P (Code.cond c x y) Q (Fr n e ds) w := ⟨wp_cond_false (evO_eval hc) h.out⟩

theorem c_seq {x y : Code} {a : Act} (h : ∀ K : Act → World → Prop, (∀ a w, WC P y Q a w → K a w) → WC P x (Exit.then K Q) a w) : WC P (Code.seq x y) Q a w :=
  ⟨wp_seq_k fun K hK => (h K (fun a w hy => hK a w hy.out)).out⟩
theorem c_mid {x y : Code} {a : Act} (M : Act → World → Prop) (h1 : WC P x (Exit.then M Q) a w) (h2 : ∀ a w, M a w → WC P y Q a w) : WC P (Code.seq x y) Q a w :=
  ⟨wp_seq (wp_mono h1.out (fun ex a w hq => by cases ex <;> first | exact (h2 a w hq).out | exact hq))⟩
theorem c_block {id : Nat} {c : Code} {a : Act} (h : WC P c (Exit.inBlock id Q) a w) : WC P (Code.block id c) Q a w := ⟨wp_block h.out⟩
theorem c_skip {a : Act} (h : Q .normal a w) : WC P Code.skip Q a w := ⟨wp_skip h⟩
theorem c_label {a : Act} {l : Nat} (h : Q .normal a w) : WC P (Code.label l) Q a w := ⟨wp_label h⟩
theorem c_goto {a : Act} {l : Nat} (h : Q (.goto l) a w) : WC P (Code.goto l) Q a w := ⟨wp_goto h⟩
theorem c_exit {a : Act} {id : Nat} (h : Q (.exit id) a w) : WC P (Code.exit id) Q a w := ⟨wp_exit h⟩
theorem c_ret {a : Act} (h : Q .ret a w) : WC P Code.ret Q a w := ⟨wp_ret h⟩
theorem c_reg {id : Nat} {l : List Oper} {a : Act} (h : WL P l.toArray Q l a w) : WC P (Code.region id l.toArray false) Q a w := ⟨wp_region_lit h.out⟩
theorem wl_nil {a : Act} (h : Q .normal a w) : WL P ops Q [] a w := ⟨wpList_nil h⟩
theorem c_loop {c : Code} {a : Act} (I : Act → World → Prop) (μ : Act → World → Nat) (h₀ : I a w) (h : ∀ a w, I a w → WC P c (Exit.then (fun a' w' => I a' w' ∧ μ a' w' < μ a w) Q) a w) : WC P (Code.loop c) Q a w :=
  ⟨wp_loop I μ h₀ (fun a w hi => (h a w hi).out)⟩

theorem least_of {I : Nat → Prop} : ∀ (n m : Nat), m ≤ n → I m → ∃ k, k ≤ m ∧ I k ∧ ∀ j, j < k → ¬ I j := by
  intro n
  induction n with
  | zero => intro m hm h; have : m = 0 := by omega
            subst this; exact ⟨0, Nat.le_refl _, h, fun j hj => by omega⟩
  | succ n ih =>
    intro m hm h
    by_cases hx : ∃ j, j < m ∧ I j
    · obtain ⟨j, hj, hI⟩ := hx
      obtain ⟨k, hk, h1, h2⟩ := ih j (by omega) hI
      exact ⟨k, by omega, h1, h2⟩
    · exact ⟨m, Nat.le_refl _, h, fun j hj hI => hx ⟨j, hj, hI⟩⟩

/-- A loop whose measure stands in no slot. -/
theorem c_loopG {c : Code} {a : Act} (I : Nat → Act → World → Prop) (m0 : Nat) (h₀ : I m0 a w) (h : ∀ m a w, I m a w → WC P c (Exit.then (fun a' w' => ∃ m', m' < m ∧ I m' a' w') Q) a w) : WC P (Code.loop c) Q a w := by
  have hl : ∀ a w m, I m a w → ∃ k, I k a w ∧ ∀ j, j < k → ¬ I j a w := fun a w m hI => by
    obtain ⟨k, _, h1, h2⟩ := least_of (I := fun k => I k a w) m m (Nat.le_refl _) hI
    exact ⟨k, h1, h2⟩
  have hμ : ∃ μ : Act → World → Nat, ∀ a w m, I m a w → I (μ a w) a w ∧ μ a w ≤ m := by
    refine ⟨fun a w => Classical.epsilon (fun k => I k a w ∧ ∀ j, j < k → ¬ I j a w), ?_⟩
    intro a w m hI
    have := Classical.epsilon_spec (hl a w m hI)
    refine ⟨this.1, ?_⟩
    rcases Nat.lt_or_ge m (Classical.epsilon (fun k => I k a w ∧ ∀ j, j < k → ¬ I j a w)) with hlt | hge
    · exact absurd hI (this.2 m hlt)
    · exact hge
  obtain ⟨μ, hμ⟩ := hμ
  refine c_loop (fun a w => ∃ m, I m a w) μ ⟨m0, h₀⟩ ?_
  rintro a w ⟨m, hI⟩
  obtain ⟨h1, h2⟩ := hμ a w m hI
  refine ⟨wp_mono (h (μ a w) a w h1).out ?_⟩
  intro ex a' w' hq
  cases ex <;> first | exact hq | skip
  obtain ⟨m', hm', hI'⟩ := hq
  have := hμ a' w' m' hI'
  exact ⟨⟨m', hI'⟩, by omega⟩

theorem x_then {K : Act → World → Prop} {a : Act} (h : K a w) : Exit.then K Q .normal a w := h
theorem x_thenX {K : Act → World → Prop} {a : Act} {i : Nat} (h : Q (.exit i) a w) : Exit.then K Q (.exit i) a w := h
theorem x_thenR {K : Act → World → Prop} {a : Act} (h : Q .ret a w) : Exit.then K Q .ret a w := h
theorem x_thenG {K : Act → World → Prop} {a : Act} {i : Nat} (h : Q (.goto i) a w) : Exit.then K Q (.goto i) a w := h
theorem x_thenP {K : Act → World → Prop} {a : Act} {c : List PanicEntry} (h : Q (.panic c) a w) : Exit.then K Q (.panic c) a w := h
theorem x_blk {a : Act} {i : Nat} (h : Q .normal a w) : Exit.inBlock i Q .normal a w := h
theorem x_blkR {a : Act} {i : Nat} (h : Q .ret a w) : Exit.inBlock i Q .ret a w := h
theorem x_blkG {a : Act} {i j : Nat} (h : Q (.goto j) a w) : Exit.inBlock i Q (.goto j) a w := h
theorem x_blkP {a : Act} {i : Nat} {c : List PanicEntry} (h : Q (.panic c) a w) : Exit.inBlock i Q (.panic c) a w := h
theorem x_blkX {a : Act} {i : Nat} (h : Q .normal a w) : Exit.inBlock i Q (.exit i) a w := by simpa [Exit.inBlock] using h
theorem x_blkY {a : Act} {i j : Nat} (hn : Nat.beq j i = false) (h : Q (.exit j) a w) : Exit.inBlock i Q (.exit j) a w := by
  have : ¬ j = i := by intro he; subst he; simp at hn
  simpa [Exit.inBlock, this] using h

/-- Behind the arguments nothing is known of the frame. -/
def ini (l : List Value) : Nat → Option Value := fun t => l[t]?

theorem fr_ini {m : Nat} (l : List Value) (h : l.length ≤ m) : ({ tmps := l.toArray ++ Array.replicate (m - l.toArray.size) undef, defers := [] } : Act) = Fr m (ini l) [] := by
  simp only [Fr, Act.mk.injEq, and_true]
  apply Array.ext
  · simp; omega
  · intro i h1 h2
    simp at h1 h2
    by_cases hi : i < l.length
    · simp [Array.getElem_append, hi, ini]
    · simp [Array.getElem_append, hi, ini, Nat.not_lt.1 hi]

def resV (n : Nat) (e : Nat → Option Value) : List ResultVar → Option Value
  | [.tmp t] => bif Nat.blt t n then e t else none
  | [] => some (.tuple #[])
  | [.tmp t, .tmp u] => match evO n e (.tmp t), evO n e (.tmp u) with | some a, some b => some (.tuple #[a, b]) | _, _ => none
  | [.tmp t, .tmp u, .tmp x] => match evO n e (.tmp t), evO n e (.tmp u), evO n e (.tmp x) with | some a, some b, some c => some (.tuple #[a, b, c]) | _, _, _ => none
  | [.tmp t, .tmp u, .tmp x, .tmp y] => match evO n e (.tmp t), evO n e (.tmp u), evO n e (.tmp x), evO n e (.tmp y) with | some a, some b, some c, some d => some (.tuple #[a, b, c, d]) | _, _, _, _ => none
  | _ => none

theorem getD_of_evO {t : Nat} {v : Value} (h : evO n e (.tmp t) = some v) : (Fr n e ds).tmps.getD t undef = v := evO_eval (ds := ds) h

theorem results_fr {fn : Func} {rs : List ResultVar} {v : Value} (hrs : fn.results = rs.toArray) (h : resV n e rs = some v) : (results fn (Fr n e ds).tmps).run P w = .ok v w := by
  unfold resV at h
  split at h
  · rename_i t
    rw [results_tmp hrs, getD_of_evO h]
  · rw [results_none hrs]; cases h; rfl
  · rename_i t u
    split at h
    · rename_i a b h1 h2
      cases h
      rw [results_tmp2 hrs, getD_of_evO h1, getD_of_evO h2]
    · cases h
  · rename_i t u x
    split at h
    · rename_i a b c h1 h2 h3
      cases h
      have g1 := getD_of_evO (ds := ds) h1
      have g2 := getD_of_evO (ds := ds) h2
      have g3 := getD_of_evO (ds := ds) h3
      simp at g1 g2 g3
      simp [results, hrs, g1, g2, g3]
    · cases h
  · rename_i t u x y
    split at h
    · rename_i a b c d h1 h2 h3 h4
      cases h
      have g1 := getD_of_evO (ds := ds) h1
      have g2 := getD_of_evO (ds := ds) h2
      have g3 := getD_of_evO (ds := ds) h3
      have g4 := getD_of_evO (ds := ds) h4
      simp at g1 g2 g3 g4
      simp [results, hrs, g1, g2, g3, g4]
    · cases h
  · cases h

/-- The post of a body: 'R' of what is returned. -/
def BP (P : Program) (fn : Func) (R : Value → World → Prop) : Exit → Act → World → Prop := bodyPost P fn (fun en w' => ∃ v, en = .returned v ∧ R v w')

theorem bp_ret {fn : Func} {R : Value → World → Prop} {rs : List ResultVar} {v : Value} (hrs : fn.results = rs.toArray) (h : resV n e rs = some v) (hR : R v w) : BP P fn R .ret (Fr n e []) w :=
  bodyPost_ret (results_fr hrs h) rfl ⟨v, rfl, hR⟩

theorem bp_end {fn : Func} {R : Value → World → Prop} {rs : List ResultVar} {v : Value} (hrs : fn.results = rs.toArray) (h : resV n e rs = some v) (hR : R v w) : BP P fn R .normal (Fr n e []) w :=
  bodyPost_end (results_fr hrs h) rfl ⟨v, rfl, hR⟩

theorem ret_of {f : FuncId} {fn : Func} {c : Code} {args : List Value} {R : Value → World → Prop} {m : Nat} (hf : P.funcs[f]? = some fn) (hb : fn.body = some c) (hm : fn.ntmps = m) (hl : Nat.ble args.length m = true)
    (h : WC P c (BP P fn R) (Fr m (ini args) []) w) : Ret P f args w R := by
  refine calls_of_wp hf hb ?_
  rw [hm]
  rw [fr_ini args (by simpa using hl)]
  exact h.out

/-! What follows needs only these slots. -/

def upds (e : Nat → Option Value) : List (Nat × Value) → Nat → Option Value
  | [] => e
  | p :: l => upd (upds e l) p.1 p.2

def allL (e : Nat → Option Value) : List (Nat × Value) → Prop
  | [] => True
  | p :: l => e p.1 = some p.2 ∧ allL e l

theorem upds_self : ∀ (l : List (Nat × Value)) (e : Nat → Option Value), allL e l → upds e l = e
  | [], _, _ => rfl
  | p :: l, e, h => by
    simp only [upds]
    rw [upds_self l e h.2]
    exact upd_self e _ _ h.1

theorem kp (l : List (Nat × Value)) (h : allL e l) : ∃ e', Fr n e ds = Fr n (upds e' l) ds := ⟨e, by rw [upds_self l e h]⟩

theorem forget {c : Code} (l : List (Nat × Value)) (h : allL e l) (k : ∀ e', WC P c Q (Fr n (upds e' l) ds) w) : WC P c Q (Fr n e ds) w := by
  have := k e
  rwa [upds_self l e h] at this

theorem forgetK {K : Act → World → Prop} (l : List (Nat × Value)) (h : allL e l) (k : ∀ e', K (Fr n (upds e' l) ds) w) : K (Fr n e ds) w := by
  have := k e
  rwa [upds_self l e h] at this

/-- A number in a slot. -/
def slotN (a : Act) (t : Nat) : Nat := match a.eval (.tmp t) with | .int _ b => b.toNat | _ => 0

theorem slotN_fr {t : Nat} {k : IntKind} {b : Int} (h : evO n e (.tmp t) = some (.int k b)) : slotN (Fr n e ds) t = b.toNat := by
  unfold slotN; rw [evO_eval h]

end
end Go.Proofs.Qxb6500568aGreatDoor

namespace Go.Proofs.Qxb6500568aGreatDoor
set_option linter.unusedVariables false
set_option linter.unusedSimpArgs false

/-! Regions that draw their order: one order serves. -/

section
variable {P : Program} {n : Nat} {e : Nat → Option Value} {ds : List Deferred} {w w1 : World} {ops : Array Oper} {Q : Exit → Act → World → Prop} {S : World → Prop}

def PanOk (Q : Exit → Act → World → Prop) : Prop := ∀ c (a a' : Act) w, a.defers = a'.defers → Q (.panic c) a w → Q (.panic c) a' w

theorem po_then {K : Act → World → Prop} (h : PanOk Q) : PanOk (Exit.then K Q) := fun c a a' w hd hq => h c a a' w hd hq
theorem po_blk {i : Nat} (h : PanOk Q) : PanOk (Exit.inBlock i Q) := fun c a a' w hd hq => h c a a' w hd hq
theorem po_body {fn : Func} {R : Ending → World → Prop} : PanOk (bodyPost P fn R) := fun c a a' w hd hq => ⟨hd ▸ hq.1, hq.2⟩
theorem po_bp {fn : Func} {R : Value → World → Prop} : PanOk (BP P fn R) := po_body

def piW (P : Program) (ops : Array Oper) (Q : Exit → Act → World → Prop) (S : World → Prop) : List (Nat × Bool) → Act → World → Prop
  | [], a, w => Q .normal a w
  | (i, false) :: r, a, w => ∃ o v, ops[i]? = some o ∧ YieldsIf P ops S o v a ∧ piW P ops Q S r (a.put o.dst v) w
  | (i, true) :: r, a, w => wpOp P ops Q i (fun a' w' => S w' ∧ piW P ops Q S r a' w') a w

def piOK (md : Region.Mode) (ops : Array Oper) : List (Nat × Bool) → Array Bool → Bool
  | [], listed => (Region.ready md ops listed).isEmpty
  | (i, false) :: r, listed => Region.free md ops listed i && (Region.ready md ops listed).contains i && piOK md ops r (listed.setIfInBounds i true)
  | (i, true) :: r, listed => (Region.ready md ops listed == [i]) && piOK md ops r (listed.setIfInBounds i true)

theorem put_defers_eq (a : Act) (d : Option Tmp) (v : Value) : (a.put d v).defers = a.defers := by cases d <;> rfl

theorem pi_sound {md : Region.Mode} (hs : Region.noSelect ops = true) (hQ : PanOk Q) : ∀ (π : List (Nat × Bool)) (fuel : Nat) (listed : Array Bool) (a : Act) (w : World), π.length ≤ fuel → piOK md ops π listed = true → S w → piW P ops Q S π a w → wpAnyH P md ops Q S fuel listed a w
  | [], fuel, listed, a, w, _, hk, _, h => wpAnyH_done (by simpa [piOK] using hk) h fuel
  | (i, false) :: r, fuel, listed, a, w, hf, hk, hS, h => by
    obtain ⟨o, v, hi, hy, hr⟩ := h
    simp only [piOK, Bool.and_eq_true] at hk
    cases fuel with
    | zero => simp at hf
    | succ fuel =>
      refine wpAnyH_take hi hs hk.1.1 hk.1.2 (fun c a' w' hp => hQ c _ _ w' (put_defers_eq a' o.dst v) hp) hy hS ?_
      exact pi_sound hs hQ r fuel _ _ w (by simpa using hf) hk.2 hS hr
  | (i, true) :: r, fuel, listed, a, w, hf, hk, hS, h => by
    simp only [piOK, Bool.and_eq_true, beq_iff_eq] at hk
    cases fuel with
    | zero => simp at hf
    | succ fuel =>
      refine wpAnyH_all hk.1 (by simp) ?_
      intro j hj
      have : j = i := by simpa using hj
      subst this
      exact wpOp_mono (fun a' w' h' => ⟨h'.1, pi_sound hs hQ r fuel _ a' w' (by simpa using hf) hk.2 h'.1 h'.2⟩) h

structure WP (P : Program) (ops : Array Oper) (Q : Exit → Act → World → Prop) (S : World → Prop) (π : List (Nat × Bool)) (a : Act) (w : World) : Prop where
  out : piW P ops Q S π a w

theorem c_pi {id : Nat} {a : Act} (π : List (Nat × Bool)) (S : World → Prop) (hm : P.follows .mixedOrders = true) (hs : Region.noSelect ops = true) (hl : Nat.ble π.length ops.size = true)
    (hk : piOK .any ops π (Array.replicate ops.size false) = true) (hQ : PanOk Q) (hS : S { w with drawn := w.drawn + 1 }) (h : WP P ops Q S π a { w with drawn := w.drawn + 1 }) : WC P (Code.region id ops true) Q a w :=
  ⟨wp_region_held hm (pi_sound hs hQ π _ _ _ _ (by simpa using hl) hk hS h.out)⟩

variable {r : List (Nat × Bool)} {i d : Nat} {op : Op} {ty : TypeId} {ps : String} {af : Array Edge} {v : Value}

theorem pi_nil {a : Act} (h : Q .normal a w) : WP P ops Q S [] a w := ⟨h⟩

theorem pi_ro (hi : ops[i]? = some ⟨some d, op, ty, ps, af, none⟩) (h : ∀ w, S w → RO P n e w op v) (k : WP P ops Q S r (Fr n (upd e d v) ds) w) : WP P ops Q S ((i, false) :: r) (Fr n e ds) w :=
  ⟨⟨_, v, hi, .inl ⟨rfl, fun w hw => h w hw ds _ _ _ _ _⟩, by rw [put_some]; exact k.out⟩⟩

theorem pi_gyes {j : Nat} {b : Bool} (hi : ops[i]? = some ⟨some d, op, ty, ps, af, some (j, b)⟩) (hg : gval n e ops j = some b) (h : ∀ w, S w → RO P n e w op v) (k : WP P ops Q S r (Fr n (upd e d v) ds) w) : WP P ops Q S ((i, false) :: r) (Fr n e ds) w :=
  ⟨⟨_, v, hi, .inl ⟨by simp [Region.wanted, yielded_fr, hg], fun w hw => h w hw ds _ _ _ _ _⟩, by rw [put_some]; exact k.out⟩⟩

theorem pi_gno {j : Nat} {b : Bool} (hi : ops[i]? = some ⟨some d, op, ty, ps, af, some (j, b)⟩) (hg' : gno (gval n e ops j) b = true) (k : WP P ops Q S r (Fr n (upd e d undef) ds) w) : WP P ops Q S ((i, false) :: r) (Fr n e ds) w :=
  ⟨⟨_, undef, hi, .inr ⟨by simp only [Region.wanted, yielded_fr, gno_spec hg'], rfl⟩, by rw [put_some]; exact k.out⟩⟩

theorem pi_eo (hi : ops[i]? = some ⟨some d, op, ty, ps, af, none⟩) (h : EO P n e w op v w1) (hS : S w1) (k : WP P ops Q S r (Fr n (upd e d v) ds) w1) : WP P ops Q S ((i, true) :: r) (Fr n e ds) w := by
  refine ⟨?_⟩
  show wpOp P ops Q i _ _ _
  unfold wpOp
  rw [hi]
  simp only [Region.wanted, if_true]
  refine .inl ?_
  unfold Oper.wp
  rw [h ds]
  simp only [Oper.upon, put_some]
  exact ⟨hS, k.out⟩

theorem pi_so (hi : ops[i]? = some ⟨none, op, ty, ps, af, none⟩) (h : SO P n e w op w1) (hS : S w1) (k : WP P ops Q S r (Fr n e ds) w1) : WP P ops Q S ((i, true) :: r) (Fr n e ds) w := by
  refine ⟨?_⟩
  show wpOp P ops Q i _ _ _
  unfold wpOp
  rw [hi]
  simp only [Region.wanted, if_true]
  refine .inl ?_
  unfold Oper.wp
  rw [h ds]
  simp only [Oper.upon, put_none]
  exact ⟨hS, k.out⟩

theorem pi_call {f : FuncId} {args : List Operand} {ats : Array TypeId} {vs : List Value} {R : Value → World → Prop} (hi : ops[i]? = some ⟨some d, .call ⟨.value (.func f), args.toArray, ats⟩, ty, ps, af, none⟩) (ha : evArgs n e args = some vs) (hf : Enters P f) (hc : Ret P f vs w R)
    (k : ∀ v w', R v w' → S w' ∧ WP P ops Q S r (Fr n (upd e d v) ds) w') : WP P ops Q S ((i, true) :: r) (Fr n e ds) w := by
  refine ⟨?_⟩
  show wpOp P ops Q i _ _ _
  unfold wpOp
  rw [hi]
  simp only [Region.wanted, if_true]
  refine .inl ?_
  unfold Oper.wp
  rw [run_call ha hf]
  simp only [Oper.upon]
  refine Calls.mono hc fun en w' ⟨v, he, hv⟩ => ?_
  subst he
  simp only [put_some]
  exact ⟨(k v w' hv).1, (k v w' hv).2.out⟩

end
end Go.Proofs.Qxb6500568aGreatDoor
