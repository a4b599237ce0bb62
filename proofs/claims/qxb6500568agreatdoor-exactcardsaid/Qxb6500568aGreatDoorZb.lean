import Derived.Test.Qxb6500568aGreatDoorZa
/- The compiler's state: a function's row opened and turned. -/
namespace Go.Proofs.Qxb6500568aGreatDoor
open Ieee
set_option linter.unusedVariables false
set_option linter.unusedSimpArgs false
set_option linter.unusedSectionVars false

/-- the slices and maps of a row. -/
structure ZSl where
  la : Option Addr
  lc : Nat
  ua : Option Addr
  uc : Nat
  ka : Option Addr
  kc : Nat
  bn : Nat
  bs : Nat
  ca : Option Addr
  cc : Nat
  pa : Option Addr
  pc : Nat
def mkR (E : ZEnv) (S : Fns) (f : ZAct) (z : ZSl) : ZRow := ⟨ptr E.cb, parV E f.j, i64c (fsAt S f.j).np, .slice z.la f.L.length z.lc, i64c (fsAt S f.j).ns, .slice z.ua (fsAt S f.j).ups.length z.uc, .slice z.ka (fsAt S f.j).ks.length z.kc, .map (some z.bn), .map (some z.bs), .slice z.ca f.code.length z.cc, .slice z.pa f.lps.length z.pc⟩
structure ZOp (E : ZEnv) (w : World) (ow : Nat → Nat) (O : List Nat) (S : Fns) (A : List ZAct) (f : ZAct) (R : List ZRow) (z : ZSl) : Prop where
  l : R.length = 13
  rj : R[f.j]? = some (mkR E S f z)
  B : Blk w.heap E.gb (rws fnc R) 199
  row : ∀ o, o < 11 → (rws fnc R)[f.j * 11 + o]? = (fnc (mkR E S f z))[o]?
  all : ∀ j r, R[j]? = some r → ∃ m, FnA E w ow O S A j r m
  j : f.j < 13
  o : f.j ∈ O
  loc : OwT w ow (200 + f.j) (.slice z.la f.L.length z.lc) 9 1 f.L.length (f.L.map Go.Proofs.Qxb6500568aGreatDoor.S)
  ups : OwT w ow (220 + f.j) (.slice z.ua (fsAt S f.j).ups.length z.uc) 205 2 (fsAt S f.j).ups.length (rws upc (fsAt S f.j).ups)
  ks : OwT w ow (240 + f.j) (.slice z.ka (fsAt S f.j).ks.length z.kc) 119 3 (fsAt S f.j).ks.length (rws pvc (fsAt S f.j).ks)
  code : OwT w ow (260 + f.j) (.slice z.ca f.code.length z.cc) 203 2 f.code.length (rws inc f.code)
  lps : ∃ rows, OwT w ow (280 + f.j) (.slice z.pa f.lps.length z.pc) 278 2 f.lps.length rows ∧ LpM E w ow f.j f.lps rows
  nums : MF u64c u16c w.heap z.bn (numF (fsAt S f.j).ks) ∧ ow z.bn = 320 + f.j
  strs : MF Go.Proofs.Qxb6500568aGreatDoor.S u16c w.heap z.bs (strF (fsAt S f.j).ks) ∧ ow z.bs = 340 + f.j

theorem map_inj {α β : Type} {g : α → β} : ∀ {l : List α}, (l.map g).Nodup → ∀ {a b : α}, a ∈ l → b ∈ l → g a = g b → a = b
  | [], _, a, b, ha, _, _ => by cases ha
  | x :: l, h, a, b, ha, hb, e => by
    rw [List.map_cons, List.nodup_cons] at h
    rcases List.mem_cons.1 ha with ea | ka <;> rcases List.mem_cons.1 hb with eb | kb
    · rw [ea, eb]
    · exact (h.1 (by rw [← ea, e]; exact List.mem_map_of_mem kb)).elim
    · exact (h.1 (by rw [← eb, ← e]; exact List.mem_map_of_mem ka)).elim
    · exact map_inj h.2 ka kb e
section
variable {E : ZEnv} {w w1 w' u1 u2 : World} {ow ow' : Nat → Nat} {O : List Nat} {S : Fns} {A q : List ZAct} {F : Nat → Prop} {f : ZAct} {R : List ZRow} {z : ZSl} {v v' : Value}

theorem CM.open (h : CM E w ow O S A) (hf : f ∈ A) : ∃ R z, ZOp E w ow O S A f R z := by
  obtain ⟨ho, hj⟩ := h.mem f hf
  obtain ⟨R, r, m, h1, h2, h3, h4, h5, h6⟩ := h.row hj
  obtain ⟨a1, a2, a3⟩ := h4.a f hf rfl
  have o := h4.o ho
  obtain ⟨bn, n1, n2, n3⟩ := o.nums
  obtain ⟨bs, s1, s2, s3⟩ := o.strs
  have k := h4.k
  obtain ⟨rows, p1, p2⟩ := k.lps
  obtain ⟨la, lc, e1⟩ := k.loc.form
  obtain ⟨ua, uc, e2⟩ := k.ups.form
  obtain ⟨ka, kc, e3⟩ := k.ks.form
  obtain ⟨ca, cc, e4⟩ := k.code.form
  obtain ⟨pa, pc, e5⟩ := p1.form
  have er : r = mkR E S f ⟨la, lc, ua, uc, ka, kc, bn, bs, ca, cc, pa, pc⟩ := by
    have q1 := o.c
    have q2 := o.par
    have q3 := o.np
    have q4 := o.ns
    have q5 := o.ups
    have q6 := o.ks
    rcases r with ⟨r1, r2, r3, r4, r5, r6, r7, r8, r9, r10, r11⟩
    simp only at *
    subst q1 q2 q3 q4 e1 e2 e3 e4 e5 n1 s1
    unfold mkR
    rw [a1, a2, a3, q5, q6]
  subst er
  refine ⟨R, _, h1, h2, h3, h5, h6, hj, ho, ?_, ?_, ?_, ?_, ⟨rows, ?_, ?_⟩, ⟨?_, n3⟩, ⟨?_, s3⟩⟩
  · have := k.loc; rw [a1] at this; exact this
  · have := k.ups; rw [o.ups] at this; exact this
  · have := k.ks; rw [o.ks] at this; exact this
  · have := k.code; rw [a2] at this; exact this
  · rw [a3] at p1; exact p1
  · rw [a3] at p2; exact p2
  · rw [o.ks] at n2; exact n2
  · rw [o.ks] at s2; exact s2
/-- the frame of a turn. -/
def frF (E : ZEnv) (ow : Nat → Nat) (j : Nat) : Nat → Prop := fun b => b = E.gb ∨ fnT j (ow b)
theorem CM.frC (h : CM E w ow O S A) {j : Nat} (hj : j < 13) (f : Fram (frF E ow j) w w') : Fram (tg ow cpT) w w' := f.mono (fun b _ q => q.elim (fun q => by show cpT (ow b); rw [q, h.ta]; unfold cpT; omega) (fun q => fnT_cp hj q))
theorem CM.gl (h : CM E w ow O S A) : E.gb < w.heap.size := by obtain ⟨R, -, hb, -⟩ := h.F; exact hb.lt
/-- The head turned. -/
theorem CM.head (h : CM E w ow O S (f :: q)) (fr : Fram (frF E ow f.j) w w') (hE : Xt w ow ow') (hd : ∀ b, w'.heap.size ≤ b → ow' b = 66) {r' : ZRow} {f' : ZAct} {S' : Fns} (op : ZOp E w ow O S (f :: q) f R z) (hf : f'.j = f.j)
    (hB : Blk w'.heap E.gb (rws fnc (R.set f.j r')) 199) (hm : FnM E w' ow' f.j r' ⟨f'.L, (fsAt S' f.j).ups, (fsAt S' f.j).ks, f'.code, f'.lps⟩) (ho : FnO E w' ow' S' f.j r' ⟨f'.L, (fsAt S' f.j).ups, (fsAt S' f.j).ks, f'.code, f'.lps⟩) (hS : ∀ k, k ≠ f.j → fsAt S' k = fsAt S k) : CM E w' ow' O S' (f' :: q) := by
  have hun := h.un
  refine h.turn fr hE hd op.l op.rj op.all hB op.j (m' := ⟨f'.L, (fsAt S' f.j).ups, (fsAt S' f.j).ks, f'.code, f'.lps⟩) ⟨hm, fun _ => ho, fun g hg e => ?_, fun hn => (hn f' List.mem_cons_self hf).elim⟩ hS (by simp [hf]) (fun g hg e => ?_)
  · rcases List.mem_cons.1 hg with rfl | hg
    · exact ⟨rfl, rfl, rfl⟩
    · exfalso
      rw [List.map_cons, List.nodup_cons] at hun
      exact hun.1 (by rw [← e]; exact List.mem_map_of_mem hg)
  · rcases List.mem_cons.1 hg with rfl | hg
    · exact (e hf).elim
    · exact List.mem_cons_of_mem _ hg
/-- A member's pools turned. -/
theorem CM.memb (h : CM E w ow O S A) (hfA : f ∈ A) (fr : Fram (frF E ow f.j) w w') (hE : Xt w ow ow') (hd : ∀ b, w'.heap.size ≤ b → ow' b = 66) {r' : ZRow} {S' : Fns} (op : ZOp E w ow O S A f R z)
    (hB : Blk w'.heap E.gb (rws fnc (R.set f.j r')) 199) (hm : FnM E w' ow' f.j r' ⟨f.L, (fsAt S' f.j).ups, (fsAt S' f.j).ks, f.code, f.lps⟩) (ho : FnO E w' ow' S' f.j r' ⟨f.L, (fsAt S' f.j).ups, (fsAt S' f.j).ks, f.code, f.lps⟩) (hS : ∀ k, k ≠ f.j → fsAt S' k = fsAt S k) : CM E w' ow' O S' A := by
  have hun := h.un
  refine h.turn fr hE hd op.l op.rj op.all hB op.j (m' := ⟨f.L, (fsAt S' f.j).ups, (fsAt S' f.j).ks, f.code, f.lps⟩) ⟨hm, fun _ => ho, fun g hg e => ?_, fun hn => (hn f hfA rfl).elim⟩ hS rfl (fun g hg e => hg)
  have : g = f := map_inj hun hg hfA e
  subst this
  exact ⟨rfl, rfl, rfl⟩
/-- A list of function j grown or put anew: its tag t. -/
theorem zapp3 {t e k n n' gb : Nat} {xs ys : List Value} (hg : ow gb = 191) (hgl : gb < w.heap.size) (hv : OwT w ow t v e k n xs) (hF : Fram none' w w1) (hon : Own u1.heap v' e k n' ys) (G1 : Fram (own1 v) w1 u1) (hnb : nob v v' w1) (f : Fram (one gb) u1 u2) (ht : t ≠ 191) :
    Xt w ow (cut66 u2 (nw ow w1.heap.size t)) ∧ OwT u2 (cut66 u2 (nw ow w1.heap.size t)) t v' e k n' ys ∧ Fram (fun b => b = gb ∨ ow b = t) w u2 := by
  have hw1 := hF.size
  have hu1 := G1.size
  have hu2 := f.size
  have hE : Xt w ow (cut66 u2 (nw ow w1.heap.size t)) := fun c hc => by rw [cut66_xt _ _ c (by omega)]; exact nw_old (by omega)
  refine ⟨hE, ?_, ?_⟩
  · have h1 := (hv.far hF (fun _ _ _ q => q) (Xt.refl _ _)).grow hon hnb hu1
    exact (h1.far f (fun c q _ z => by have z : c = gb := z; rw [z, nw_old (by omega), hg] at q; exact ht q.symm) (Xt.refl _ _)).cut
  · exact ((hF.wide (G := fun b => b = gb ∨ ow b = t)).trans' G1 (fun c hc q => .inr (hv.t c q))).trans' f (fun c _ q => .inl q)
theorem OwT.off {t tag e k n gb : Nat} {xs : List Value} (h : OwT w ow tag v e k n xs) (f : Fram (fun b => b = gb ∨ ow b = t) w w') (hE : Xt w ow ow') (hg : ow gb = 191) (h1 : tag ≠ 191) (h2 : tag ≠ t) : OwT w' ow' tag v e k n xs :=
  h.far f (fun b q _ z => z.elim (fun z => by rw [z, hg] at q; exact h1 q.symm) (fun z => h2 (by rw [← q, z]))) hE
theorem LpM.off {t j gb : Nat} {l : List (Nat × List Nat)} {rows : List Value} (h : LpM E w ow j l rows) (f : Fram (fun b => b = gb ∨ ow b = t) w w') (hE : Xt w ow ow') (hg : ow gb = 191) (h1 : t < 300) : LpM E w' ow' j l rows :=
  LpM.far f (fun b q _ z => z.elim (fun z => by rw [z, hg] at q; omega) (fun z => by omega)) hE h
theorem off_ne {t tag gb b : Nat} (hg : ow gb = 191) (q : ow b = tag) (h1 : tag ≠ 191) (h2 : tag ≠ t) : ¬ (b = gb ∨ ow b = t) := fun z => z.elim (fun z => by rw [z, hg] at q; exact h1 q.symm) (fun z => h2 (by rw [← q, z]))
theorem frF_of {t j : Nat} (f : Fram (fun b => b = E.gb ∨ ow b = t) w w') (h : fnT j t) : Fram (frF E ow j) w w' := f.mono (fun b _ q => q.elim .inl (fun q => .inr (by rw [q]; exact h)))

theorem ZOp.set (op : ZOp E w ow O S A f R z) {r' : ZRow} {o : Nat} {H : Array Obj} (hB : Blk H E.gb ((rws fnc R).set (f.j * 11 + o) v) 199) (ho : o < 11) (he : fnc r' = (fnc (mkR E S f z)).set o v) : Blk H E.gb (rws fnc (R.set f.j r')) 199 := by
  rw [rws_set op.rj ho he] at hB; exact hB
/-- The code grown. -/
theorem CM.codeS (h : CM E w ow O S (f :: q)) (op : ZOp E w ow O S (f :: q) f R z) {c' : Cod} {va : Option Addr} {vc : Nat} (hF : Fram none' w w1) (hon : Own u1.heap (.slice va c'.length vc) 203 2 c'.length (rws inc c')) (G1 : Fram (own1 (.slice z.ca f.code.length z.cc)) w1 u1) (hnb : nob (.slice z.ca f.code.length z.cc) (.slice va c'.length vc) w1)
    (fr : Fram (one E.gb) u1 u2) (hB : Blk u2.heap E.gb ((rws fnc R).set (f.j * 11 + 9) (.slice va c'.length vc)) 199) : ZP E w ow O S ({ f with code := c' } :: q) u2 := by
  obtain ⟨x1, x2, x3⟩ := zapp3 h.ta h.gl op.code hF hon G1 hnb fr (by have := op.j; omega)
  have hj := op.j
  have hfr := frF_of (E := E) (j := f.j) x3 (by unfold fnT; omega)
  obtain ⟨rows, p1, p2⟩ := op.lps
  refine ⟨_, x1, h.frC hj hfr, h.head hfr x1 (cut66_df _ _) op rfl (r' := mkR E S { f with code := c' } { z with ca := va, cc := vc }) (op.set (o := 9) hB (by decide) rfl) ⟨op.loc.off x3 x1 h.ta (by omega) (by omega), op.ups.off x3 x1 h.ta (by omega) (by omega), op.ks.off x3 x1 h.ta (by omega) (by omega), x2, rows, p1.off x3 x1 h.ta (by omega) (by omega), p2.off x3 x1 h.ta (by omega)⟩ ⟨rfl, rfl, rfl, rfl, rfl, rfl, ⟨_, rfl, op.nums.1.fram x3 (off_ne h.ta op.nums.2 (by omega) (by omega)), by rw [x1 _ op.nums.1.lt]; exact op.nums.2⟩, ⟨_, rfl, op.strs.1.fram x3 (off_ne h.ta op.strs.2 (by omega) (by omega)), by rw [x1 _ op.strs.1.lt]; exact op.strs.2⟩⟩ (fun _ _ => rfl)⟩
end
end Go.Proofs.Qxb6500568aGreatDoor
