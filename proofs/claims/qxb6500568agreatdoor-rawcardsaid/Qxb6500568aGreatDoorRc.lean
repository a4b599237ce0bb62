import Derived.Test.Qxb6500568aGreatDoorRb
import Derived.Test.Qxb6500568aGreatDoorQi
namespace Go.Proofs.Qxb6500568aGreatDoor
open Ieee
set_option linter.unusedVariables false
set_option linter.unusedSimpArgs false
set_option linter.unusedSectionVars false

/-! A sound step keeps what a check asks: all instructions. -/

section
variable {Ps : List Proto} {a : AS} {v : PV}

theorem BT.app {cl r : List (Nat × List Nat)} {i : Nat} {t : ATh} (h : BT Ps cl i t) : BT Ps (cl ++ r) i t := by
  refine ⟨h.s5, by have := h.fn; rw [List.length_append]; omega, h.e, h.ne, h.z, h.bt, fun f hf => ?_, h.op, h.o2⟩
  have := h.pc f hf
  refine ⟨by rw [List.length_append]; omega, ?_⟩
  rw [List.getD_eq_getElem?_getD, List.getElem?_append_left this.1, ← List.getD_eq_getElem?_getD]
  exact this.2
theorem BI.newT (h : BI Ps a) (hd : a.done = false) (T : TS a.cur a.stack a.ths) {n : Nat} (hn : n < a.clos.length) : BI Ps { a with ths := a.ths ++ [⟨1, n, []⟩] } := by
  have hl := T.lt
  refine ⟨fun i t ht => ?_, fun i hi => ?_, ?_, fun q => by have q : a.done = true := q; rw [hd] at q; cases q⟩
  · have ht : (a.ths ++ [⟨1, n, []⟩])[i]? = some t := ht
    rw [List.getElem?_append] at ht
    split at ht
    · exact h.t i t ht
    · rcases hx : i - a.ths.length with _ | k
      · rw [hx] at ht
        simp at ht
        subst ht
        exact ⟨⟨Nat.le_refl 1, by show 1 ≤ 5; decide⟩, hn, fun _ => rfl, fun q => by dsimp only at q; omega, fun q => by omega, fun f q => (by cases q), fun f q => (by cases q), fun f q => (by cases q), fun _ f q => (by cases q)⟩
      · rw [hx] at ht; simp at ht
  · have hi : (thA (a.ths ++ [⟨1, n, []⟩]) i).st = 4 := hi
    unfold thA at hi
    rw [List.getD_eq_getElem?_getD, List.getElem?_append] at hi
    split at hi
    · exact h.c4 i (by unfold thA; rw [List.getD_eq_getElem?_getD]; exact hi)
    · rcases hx : i - a.ths.length with _ | k
      · rw [hx] at hi; simp at hi
      · rw [hx] at hi; simp [ATh.zero] at hi
  · have := h.f
    show a.first + cntF (a.ths ++ [(⟨1, n, []⟩ : ATh)]) + 1 ≤ (a.ths ++ [(⟨1, n, []⟩ : ATh)]).length
    unfold cntF at this ⊢
    rw [List.countP_append, List.length_append]
    simp
    omega
theorem BI.newC (h : BI Ps a) (hd : a.done = false) {z : Nat × List Nat} : BI Ps { a with clos := a.clos ++ [z] } :=
  ⟨fun i t ht => (h.t i t ht).app, h.c4, h.f, fun q => by have q : a.done = true := q; rw [hd] at q; cases q⟩
theorem TS.newT {cur : Nat} {stack : List Nat} {ths : List ATh} (T : TS cur stack ths) {n : Nat} : TS cur stack (ths ++ [⟨1, n, []⟩]) := by
  have hg : ∀ c, c < ths.length → thA (ths ++ [⟨1, n, []⟩]) c = thA ths c := fun c hc => by
    unfold thA
    rw [List.getD_eq_getElem?_getD, List.getD_eq_getElem?_getD, List.getElem?_append_left hc]
  refine ⟨by have := T.lt; simp; omega, by rw [hg _ T.lt]; exact T.st, by rw [hg _ T.lt]; exact T.ne, fun c hc => ?_, T.nd, T.bot, fun c => ?_⟩
  · have := T.sk c hc
    refine ⟨by simp; omega, ?_⟩
    rw [hg c this.1]; exact this.2
  · by_cases hc : c < ths.length
    · rw [hg c hc]; exact T.y c
    · intro q
      exfalso
      unfold thA at q
      rw [List.getD_eq_getElem?_getD, List.getElem?_append_right (by omega)] at q
      rcases hx : c - ths.length with _ | k
      · rw [hx] at q; simp at q
      · rw [hx] at q; simp [ATh.zero] at q
theorem BT.yield {cl : List (Nat × List Nat)} {i : Nat} {t : ATh} (h : BT Ps cl i t) (ho : ∀ g ∈ t.frs, g.ops.length ≤ 126) (h0 : i ≠ 0) (hne : t.frs ≠ []) : BT Ps cl i { t with st := 2 } :=
  ⟨⟨by dsimp only; decide, by dsimp only; decide⟩, h.fn, fun q => by dsimp only at q; omega, fun _ => hne, fun q => absurd q h0, h.bt, h.pc, h.op, fun _ => ho⟩
theorem BI.call1 (h : BI Ps a) (hd : a.done = false) (T : TS a.cur a.stack a.ths) (h6 : a.fr.ops.length ≤ 126) {zs : List PV} {fn : PV} (hz : ∀ v ∈ zs, aok a v) (hf : aok a fn) : BI Ps (acall1 Ps zs fn a) := by
  have ha : ∀ n, aok a (zs.getD n vNil) := fun n => getD_ok hz .nil n
  have pu : ∀ u w, BI Ps (apush2 u w a) := fun u w => h.push2 hd T u w
  unfold acall1
  dsimp only
  refine BI.ite (fun h5 => BI.ite (fun _ => h.raise hd T _) fun _ => h.enter hd T (hf.f h5) h6) fun _ => BI.ite (fun _ => h.raise hd T _) fun _ => BI.ite (fun _ => BI.ite (fun _ => h.fin (by decide)) fun ho => BI.push2 (a := { a with out := a.out ++ txV (zs.getD 0 vNil) ++ [10] }) (h.same rfl rfl rfl rfl hd) hd T _ _) fun _ =>
    BI.ite (fun _ => pu _ _) fun _ => BI.ite (fun _ => pu _ _) fun _ => BI.ite (fun _ => pu _ _) fun _ => BI.ite (fun _ => h.throw hd T _) fun _ =>
    BI.ite (fun _ => BI.ite (fun _ => pu _ _) fun h5 => BI.ite (fun _ => pu _ _) fun _ => h.enter hd T ((ha 0).f (by simpa using h5)) h6) fun _ =>
    BI.ite (fun _ => BI.ite (fun _ => h.raise hd T _) fun _ => ?_) fun _ => BI.ite (fun _ => BI.ite (fun _ => h.raise hd T _) fun h5 => BI.ite (fun _ => h.fin (by decide)) fun _ => (h.newT hd T ((ha 0).f (by simpa using h5))).push2 hd T.newT _ _) fun _ =>
    BI.ite (fun _ => BI.ite (fun _ => h.raise hd T _) fun h7 => BI.ite (fun _ => pu _ _) fun hst => h.resume hd T h6 ((ha 0).co (by simpa using h7)) ?_) fun _ =>
    BI.ite (fun _ => BI.ite (fun _ => h.raise hd T _) fun h0 => ?_) fun _ => BI.ite (fun _ => BI.ite (fun _ => h.raise hd T _) fun _ => pu _ _) fun _ => h.raise hd T _
  · split
    · exact h.raise hd T _
    · exact pu _ _
  · show (a.ths.getD (zs.getD 0 vNil).N ATh.zero).st = 1 ∨ (a.ths.getD (zs.getD 0 vNil).N ATh.zero).st = 2
    omega
  · rcases hk : (a.setT { a.th with st := 2 }).stack with _ | ⟨c, r⟩
    · exfalso
      have hk : a.stack = [] := hk
      have := T.bot
      rw [hk] at this
      simp at this
      exact h0 this
    · have hk : a.stack = c :: r := hk
      refine BI.push2 (h.down T (t := { a.th with st := 2 }) (b := { a.setT { a.th with st := 2 } with stack := r, cur := c }) hk ((h.cu T).yield (h.op6 T h6) h0 T.ne) (.inr rfl) rfl rfl rfl rfl hd) hd ?_ _ _
      rw [down_ths T hk (t := { a.th with st := 2 }) (b := { a.setT { a.th with st := 2 } with stack := r, cur := c }) rfl rfl]
      exact T.down hk (.inr ⟨rfl, T.ne⟩)
theorem nx_fr (T : TS a.cur a.stack a.ths) {l : List PV} {x : Nat} : (apc x (aops l a)).fr.ops = l := by
  unfold apc
  rw [setF_fr (a := aops l a) T.setF]
  show (aops l a).fr.ops = l
  unfold aops
  rw [setF_fr T]
theorem BI.call (h : BI Ps a) (hv : AV a) {x : Nat} (hS : Snd Ps a 26 x) (T : TS a.cur a.stack a.ths) : BI Ps (acall Ps x a) := by
  have hd := hS.d
  have hpc : a.fr.pc + 1 ≤ (pr Ps a.pro).code.length := (List.getElem?_eq_some_iff.1 hS.c).1
  have hg := hS.g.2.2 rfl
  have hn : x + 1 ≤ a.fr.ops.length := hS.n
  unfold acall
  refine BI.ite (fun _ => h.fin (by decide)) fun _ => ?_
  have h1 : BI Ps { a with fuel := a.fuel - 1 } := h.same rfl rfl rfl rfl hd
  refine BI.call1 (BI.nx h1 hd T hpc) hd (TS.setF (a := aops (a.fr.ops.drop (x + 1)) { a with fuel := a.fuel - 1 }) (TS.setF (a := { a with fuel := a.fuel - 1 }) T)) ?_ (fun w hw => ?_) ?_
  · rw [nx_fr (a := { a with fuel := a.fuel - 1 }) T, List.length_drop]
    omega
  · have hw := List.mem_reverse.1 hw
    exact (aok_setF _).2 ((aok_ops _).2 (hv.frM w (List.mem_of_mem_take hw)))
  · exact (aok_setF _).2 ((aok_ops _).2 (hv.opD x))
theorem BI.jump (h : BI Ps a) (hd : a.done = false) (T : TS a.cur a.stack a.ths) {x : Nat} (hx : x < (pr Ps a.pro).code.length) : BI Ps (ajump x a) := by
  unfold ajump
  have h1 : BI Ps { a with fuel := a.fuel - 1 } := h.same rfl rfl rfl rfl hd
  exact BI.ite (fun _ => BI.ite (fun _ => h.fin (by decide)) fun _ => h1.pc hd T (by exact Nat.le_of_lt hx)) fun _ => h.pc hd T (Nat.le_of_lt hx)
theorem BI.stt (h : BI Ps a) (hd : a.done = false) (T : TS a.cur a.stack a.ths) (hpc : a.fr.pc + 1 ≤ (pr Ps a.pro).code.length) {t k w : PV} {l : List PV} :
    BI Ps (if t.T ≠ 4 then araise mIndex a else if (tSet (a.tabs.getD t.N []) k w).1 = 8 then afin 8 [45] a else if (tSet (a.tabs.getD t.N []) k w).1 ≠ 0 then araise mKey a else
      apc (a.fr.pc + 1) (aops l { a with tabs := a.tabs.set t.N (tSet (a.tabs.getD t.N []) k w).2 })) := by
  refine BI.ite (fun _ => h.raise hd T _) fun _ => BI.ite (fun _ => h.fin (by decide)) fun _ => BI.ite (fun _ => h.raise hd T _) fun _ => ?_
  have h1 : BI Ps { a with tabs := a.tabs.set t.N (tSet (a.tabs.getD t.N []) k w).2 } := h.same rfl rfl rfl rfl hd
  exact h1.nx hd T hpc
theorem BI.rss (h : BI Ps a) (hd : a.done = false) (T : TS a.cur a.stack a.ths) (hpc : a.fr.pc + 1 ≤ (pr Ps a.pro).code.length) (r : Res) (l : List PV) : BI Ps (match (generalizing := false) r with | .ok v => apc (a.fr.pc + 1) (aops (v :: l) a) | .error m => araise m a) := by
  rcases r with m | u
  · exact h.raise hd T m
  · exact h.nx hd T hpc
theorem BI.set (h : BI Ps a) (hd : a.done = false) (i : Nat) (v : PV) : BI Ps (aset i v a) := h.same rfl rfl rfl rfl hd
theorem close_pro (T : TS a.cur a.stack a.ths) {x : Nat} : (aclose x a).pro = a.pro ∧ (aclose x a).fr.pc = a.fr.pc := by
  unfold aclose AS.pro
  dsimp only
  rw [setF_fr (a := (anew ((a.fr.slots.drop x).map a.var) a).2) T]
  exact ⟨rfl, rfl⟩
theorem BI.plain (h : BI Ps a) (hd : a.done = false) (T : TS a.cur a.stack a.ths) (hpc : a.fr.pc + 1 ≤ (pr Ps a.pro).code.length) (op x : Nat) : BI Ps (aplain Ps op x a) := by
  have nx : ∀ l, BI Ps (apc (a.fr.pc + 1) (aops l a)) := fun l => h.nx hd T hpc
  have ns : ∀ i v l, BI Ps (apc (a.fr.pc + 1) (aops l (aset i v a))) := fun i v l => (h.set hd i v).nx hd T hpc
  have ra : ∀ m, BI Ps (araise m a) := fun m => h.raise hd T m
  unfold aplain
  dsimp only
  refine BI.ite (fun _ => nx _) fun _ => BI.ite (fun _ => nx _) fun _ => BI.ite (fun _ => nx _) fun _ => BI.ite (fun _ => nx _) fun _ => BI.ite (fun _ => nx _) fun _ =>
    BI.ite (fun _ => ns _ _ _) fun _ => BI.ite (fun _ => nx _) fun _ => BI.ite (fun _ => ns _ _ _) fun _ => BI.ite (fun _ => nx _) fun _ => BI.ite (fun _ => h.stt hd T hpc (t := vTab 0)) fun _ =>
    BI.ite (fun _ => BI.ite (fun _ => ra _) fun _ => nx _) fun _ => BI.ite (fun _ => h.stt hd T hpc) fun _ => BI.ite (fun _ => h.stt hd T hpc) fun _ =>
    BI.ite (fun _ => BI.ite (fun _ => h.fin (by decide)) fun h12 => ?_) fun _ => BI.ite (fun _ => h.rss hd T hpc _ _) fun _ => BI.ite (fun _ => h.rss hd T hpc _ _) fun _ =>
    BI.ite (fun _ => h.rss hd T hpc _ _) fun _ => BI.ite (fun _ => h.rss hd T hpc (unV a.tabs 2 (a.fr.ops.getD 0 vNil)) _) fun _ => BI.ite (fun _ => h.rss hd T hpc (unV a.tabs 1 (a.fr.ops.getD 0 vNil)) _) fun _ =>
    BI.ite (fun _ => h.rss hd T hpc (unV a.tabs 3 (a.fr.ops.getD 0 vNil)) _) fun _ => BI.ite (fun _ => nx _) fun _ => BI.ite (fun ho => BI.ite (fun _ => h.fin (by decide)) fun h24 => ?_) fun _ =>
    BI.ite (fun _ => ?_) fun _ => BI.ite (fun _ => BI.ite (fun _ => BI.ite (fun _ => ra _) fun _ => nx _) fun _ => ra _) fun _ => BI.ite (fun _ => nx _) fun _ =>
    BI.ite (fun _ => BI.ite (fun _ => ra _) fun _ => ?_) fun _ => h
  · have h1 : BI Ps { a with tabs := a.tabs ++ [[]] } := h.same rfl rfl rfl rfl hd
    exact h1.nx hd T hpc
  · have h1 := h.newC hd (z := (x, aups a (Ps.getD x Proto.zero).ups))
    refine h1.nx hd T ?_
    have hl := (h.pcl T).1
    have e : ({ a with clos := a.clos ++ [(x, aups a (Ps.getD x Proto.zero).ups)] } : AS).pro = a.pro := by
      unfold AS.pro
      show ((a.clos ++ [_]).getD a.fr.clo (0, [])).1 = _
      rw [List.getD_eq_getElem?_getD, List.getElem?_append_left hl, ← List.getD_eq_getElem?_getD]
    rw [e]
    exact hpc
  · refine (h.close hd T x).nx hd (by unfold aclose; exact TS.setF (a := (anew ((a.fr.slots.drop x).map a.var) a).2) T) ?_
    obtain ⟨e1, e2⟩ := close_pro (x := x) T
    rw [e1, e2]
    exact hpc
  · split
    · exact ra _
    · exact (((h.set hd _ _).set hd _ _).set hd _ _).nx hd T hpc
theorem BI.step (h : BI Ps a) (hv : AV a) (hT : AT Ps a) {op x : Nat} (hS : Snd Ps a op x) : BI Ps (astep Ps a) := by
  have hd := hS.d
  have T := hT.tr hd
  have hc : (Ps.getD (a.clos.getD a.fr.clo (0, [])).1 Proto.zero).code[a.fr.pc]? = some (op, x) := hS.c
  have hpc : a.fr.pc + 1 ≤ (pr Ps a.pro).code.length := (List.getElem?_eq_some_iff.1 hS.c).1
  unfold astep
  dsimp only
  rw [hc]
  dsimp only
  have hj : op = 21 ∨ op = 22 ∨ op = 23 ∨ op = 24 → x < (pr Ps a.pro).code.length := hS.r.2.2.2.2.2.2.2.1
  refine BI.ite (fun q => h.jump hd T (hj (by omega))) fun _ => BI.ite (fun q => BI.ite (fun _ => h.nx hd T hpc) fun _ => (h.ops hd T _).jump hd T.setF (by rw [ops_pro T]; exact hj (by omega))) fun _ => BI.ite (fun q => BI.ite (fun _ => h.jump hd T (hj (by omega))) fun _ => h.nx hd T hpc) fun _ =>
    BI.ite (fun q => by subst q; exact h.call hv hS T) fun _ => BI.ite (fun _ => h.ret hd T _ _) fun _ => h.plain hd T hpc op x
theorem BI.start {fuel : Nat} : BI Ps (astart Ps fuel) := by
  unfold astart aenter
  refine ⟨fun i t ht => ?_, fun i hi => ?_, ?_, fun q => by cases q⟩
  · rcases i with _ | i
    · cases ht
      refine ⟨⟨by show 1 ≤ 4; decide, by show 4 ≤ 5; decide⟩, Nat.zero_lt_one, fun q => ?_, fun q => ?_, fun _ => ⟨by show 4 ≠ 2; decide, by show 4 ≠ 1; decide⟩, fun f q => ?_, fun f q => ?_, fun f q => (by cases q), fun q => absurd rfl q⟩
      · have q : 4 = 1 ∨ 4 = 5 := q; omega
      · have q : 4 = 2 ∨ 4 = 3 := q; omega
      · cases q; rfl
      · rcases List.mem_singleton.1 q with rfl
        exact ⟨Nat.zero_lt_one, Nat.zero_le _⟩
    · cases ht
  · rcases i with _ | i
    · rfl
    · cases hi
  · exact Nat.le_refl 1
theorem BI.goN : ∀ {n : Nat} {a b : AS}, BI Ps a → AV a → AT Ps a → PK Ps → GoN Ps n a b → BI Ps b ∧ AV b ∧ AT Ps b
  | 0, a, b, h, hv, hT, hp, g => by have g : a = b := g; rw [← g]; exact ⟨h, hv, hT⟩
  | n + 1, a, b, h, hv, hT, hp, ⟨op, x, hs, g⟩ => BI.goN (h.step hv hT hs) (hv.step hp) (hT.step hv hs) hp g
end

end Go.Proofs.Qxb6500568aGreatDoor
