import Derived.Test.Qxb6500568aGreatDoorYf
import Derived.Test.Qxb6500568aGreatDoorGk
import Derived.Test.Qxb6500568aGreatDoorGl
/- The compiler's state in memory. -/
namespace Go.Proofs.Qxb6500568aGreatDoor
open Ieee
set_option linter.unusedVariables false
set_option linter.unusedSimpArgs false
set_option linter.unusedSectionVars false

def u16c (x : Nat) : Value := .int .u16 x
def u8n (x : Nat) : Value := .int .u8 x
def inc (i : Nat × Nat) : List Value := [u8n i.1, u16c i.2]
theorem inc_len (i : Nat × Nat) : (inc i).length = 2 := rfl
theorem inc_one (i : Nat × Nat) : ∀ u ∈ inc i, u.oneCell' = true := by simp [inc, Value.oneCell', u8n, u16c]
def upc (i : Nat × Nat) : List Value := [u8n i.1, u8n i.2]
theorem upc_len (i : Nat × Nat) : (upc i).length = 2 := rfl
theorem upc_one (i : Nat × Nat) : ∀ u ∈ upc i, u.oneCell' = true := by simp [upc, Value.oneCell', u8n]

/-- a function's row in the arena, as values. -/
structure ZRow where
  c : Value
  par : Value
  np : Value
  loc : Value
  ns : Value
  ups : Value
  ks : Value
  nums : Value
  strs : Value
  code : Value
  lps : Value
def fnc (r : ZRow) : List Value := [r.c, r.par, r.np, r.loc, r.ns, r.ups, r.ks, r.nums, r.strs, r.code, r.lps]
theorem fnc_len (r : ZRow) : (fnc r).length = 11 := rfl
/-- what a function's lists hold. -/
structure ZFn where
  loc : List Str
  ups : List (Nat × Nat)
  ks : List PV
  code : Cod
  lps : List (Nat × List Nat)
/-- a function that is being compiled: lps: the loops open, the innermost first, each with the places of its breaks. -/
structure ZAct where
  j : Nat
  L : List Str
  code : Cod
  lps : List (Nat × List Nat)
def chn (A : List ZAct) : Chn := A.map fun f => (f.j, f.L)
theorem chn_cons (f : ZAct) (A : List ZAct) : chn (f :: A) = (f.j, f.L) :: chn A := rfl

/-- what stays: the compiler's block, the arena's, the nodes, parser, driver, buffer, each literal's parent. -/
structure ZEnv where
  cb : Nat
  gb : Nat
  sp : Value
  dp : Value
  nv : Value
  bv : Value
  G : Arena
  pa : Nat → Nat
def fptr (E : ZEnv) (j : Nat) : Value := ptrAt E.gb (j * 11)
def parV (E : ZEnv) (j : Nat) : Value := if j = 0 then .pointer none else fptr E (E.pa j)
/-- a patcher: the jump at place p of function j. -/
structure Pat (E : ZEnv) (w : World) (ow : Nat → Nat) (j p : Nat) (v : Value) : Prop where
  ex : ∃ b2 b5, v = .func (.func 237) #[] #[ptr b2, ptr b5] ∧ Blk w.heap b2 [fptr E j] 128 ∧ ow b2 = 301 ∧ Blk w.heap b5 [i64c p] 3 ∧ ow b5 = 301
/-- the loops of function j. -/
def LpM (E : ZEnv) (w : World) (ow : Nat → Nat) (j : Nat) : List (Nat × List Nat) → List Value → Prop
  | [], rows => rows = []
  | (b, br) :: rest, rows => ∃ rows' v vals, rows = rows' ++ [i64c b, v] ∧ OwT w ow (1000 + 13 * rest.length + j) v 1 1 br.length vals ∧ (∀ (i p : Nat), br[i]? = some p → ∃ u, vals[i]? = some u ∧ Pat E w ow j p u) ∧ LpM E w ow j rest rows'
structure FnM (E : ZEnv) (w : World) (ow : Nat → Nat) (j : Nat) (r : ZRow) (m : ZFn) : Prop where
  loc : OwT w ow (200 + j) r.loc 9 1 m.loc.length (m.loc.map S)
  ups : OwT w ow (220 + j) r.ups 205 2 m.ups.length (rws upc m.ups)
  ks : OwT w ow (240 + j) r.ks 119 3 m.ks.length (rws pvc m.ks)
  code : OwT w ow (260 + j) r.code 203 2 m.code.length (rws inc m.code)
  lps : ∃ rows, OwT w ow (280 + j) r.lps 278 2 m.lps.length rows ∧ LpM E w ow j m.lps rows
def numF (ks : List PV) (x : Nat) : Option Nat := posP (eqPV (vNum x)) ks
def strF (ks : List PV) (s : Str) : Option Nat := posP (eqPV (vStr s)) ks
structure FnO (E : ZEnv) (w : World) (ow : Nat → Nat) (S : Fns) (j : Nat) (r : ZRow) (m : ZFn) : Prop where
  c : r.c = ptr E.cb
  par : r.par = parV E j
  np : r.np = i64c (fsAt S j).np
  ns : r.ns = i64c (fsAt S j).ns
  ups : m.ups = (fsAt S j).ups
  ks : m.ks = (fsAt S j).ks
  nums : ∃ b, r.nums = .map (some b) ∧ MF u64c u16c w.heap b (numF m.ks) ∧ ow b = 320 + j
  strs : ∃ b, r.strs = .map (some b) ∧ MF Go.Proofs.Qxb6500568aGreatDoor.S u16c w.heap b (strF m.ks) ∧ ow b = 340 + j
def mx (O : List Nat) : Nat := O.foldr (fun j m => max m (j + 1)) 0
structure FnA (E : ZEnv) (w : World) (ow : Nat → Nat) (O : List Nat) (S : Fns) (A : List ZAct) (j : Nat) (r : ZRow) (m : ZFn) : Prop where
  k : FnM E w ow j r m
  o : j ∈ O → FnO E w ow S j r m
  a : ∀ f ∈ A, f.j = j → m.loc = f.L ∧ m.code = f.code ∧ m.lps = f.lps
  i : (∀ f ∈ A, f.j ≠ j) → m.lps = [] ∧ (j ∈ O → m.code = (fsAt S j).code ∧ m.loc.length = (fsAt S j).np)
structure CM (E : ZEnv) (w : World) (ow : Nat → Nat) (O : List Nat) (S : Fns) (A : List ZAct) : Prop where
  cb : Blk w.heap E.cb [E.sp, E.dp, E.nv, .slice (some ⟨E.gb, 0, none⟩) 13 13, i64c (mx O), E.bv] 94
  tc : ow E.cb = 190
  ta : ow E.gb = 191
  N : ∃ Gp, OwT w ow 67 E.nv 148 8 E.G.length (rws ndc Gp) ∧ Gp.map Prod.fst = E.G
  F : ∃ R : List ZRow, R.length = 13 ∧ Blk w.heap E.gb (rws fnc R) 199 ∧ ∀ j r, R[j]? = some r → ∃ m, FnA E w ow O S A j r m
  un : (A.map (·.j)).Nodup
  mem : ∀ f ∈ A, f.j ∈ O ∧ f.j < 13
  df : ∀ b, w.heap.size ≤ b → ow b = 66
/-- what the compiler may write. -/
def cpT (t : Nat) : Prop := (190 ≤ t ∧ t < 300) ∨ (320 ≤ t ∧ t < 360) ∨ 1000 ≤ t
/-- what may be written of function j, beside the arena itself. -/
def fnT (j t : Nat) : Prop := t = 200 + j ∨ t = 220 + j ∨ t = 240 + j ∨ t = 260 + j ∨ t = 280 + j ∨ t = 320 + j ∨ t = 340 + j ∨ (1000 ≤ t ∧ t % 13 = (1000 + j) % 13)

section
variable {E : ZEnv} {w w' : World} {ow ow' : Nat → Nat} {O : List Nat} {S : Fns} {A : List ZAct} {F : Nat → Prop} {j : Nat} {r : ZRow} {m : ZFn}

theorem Pat.far {p : Nat} {v : Value} (h : Pat E w ow j p v) (f : Fram F w w') (hn : ∀ b, ow b = 301 → b < w.heap.size → ¬ F b) (hE : Xt w ow ow') : Pat E w' ow' j p v := by
  obtain ⟨b2, b5, rfl, h1, h2, h3, h4⟩ := h.ex
  exact ⟨b2, b5, rfl, h1.fram f (hn _ h2 h1.lt), by rw [hE _ h1.lt]; exact h2, h3.fram f (hn _ h4 h3.lt), by rw [hE _ h3.lt]; exact h4⟩
theorem LpM.far (f : Fram F w w') (hn : ∀ b, ow b = 301 ∨ (1000 ≤ ow b ∧ ow b % 13 = (1000 + j) % 13) → b < w.heap.size → ¬ F b) (hE : Xt w ow ow') : ∀ {l : List (Nat × List Nat)} {rows : List Value}, LpM E w ow j l rows → LpM E w' ow' j l rows
  | [], rows, h => h
  | (b, br) :: rest, rows, ⟨rows', v, vals, h1, h2, h3, h4⟩ => ⟨rows', v, vals, h1, h2.far f (fun c q l => hn c (.inr (by rw [q]; omega)) l) hE, fun i p hp => by
    obtain ⟨u, q1, q2⟩ := h3 i p hp
    exact ⟨u, q1, q2.far f (fun c q l => hn c (.inl q) l) hE⟩, LpM.far f hn hE h4⟩
theorem FnM.far (h : FnM E w ow j r m) (f : Fram F w w') (hn : ∀ b, fnT j (ow b) ∨ ow b = 301 → b < w.heap.size → ¬ F b) (hE : Xt w ow ow') : FnM E w' ow' j r m := by
  obtain ⟨rows, q1, q2⟩ := h.lps
  refine ⟨h.loc.far f (fun b q l => hn b (.inl (by rw [q]; unfold fnT; omega)) l) hE, h.ups.far f (fun b q l => hn b (.inl (by rw [q]; unfold fnT; omega)) l) hE, h.ks.far f (fun b q l => hn b (.inl (by rw [q]; unfold fnT; omega)) l) hE, h.code.far f (fun b q l => hn b (.inl (by rw [q]; unfold fnT; omega)) l) hE, rows, q1.far f (fun b q l => hn b (.inl (by rw [q]; unfold fnT; omega)) l) hE, q2.far f (fun b q l => hn b (q.elim .inr (fun q => .inl (by unfold fnT; omega))) l) hE⟩
theorem FnO.far (h : FnO E w ow S j r m) (f : Fram F w w') (hn : ∀ b, fnT j (ow b) ∨ ow b = 301 → b < w.heap.size → ¬ F b) (hE : Xt w ow ow') : FnO E w' ow' S j r m := by
  obtain ⟨b, q1, q2, q3⟩ := h.nums
  obtain ⟨b', k1, k2, k3⟩ := h.strs
  exact ⟨h.c, h.par, h.np, h.ns, h.ups, h.ks, ⟨b, q1, q2.fram f (hn b (.inl (by rw [q3]; unfold fnT; omega)) q2.lt), by rw [hE b q2.lt]; exact q3⟩, ⟨b', k1, k2.fram f (hn b' (.inl (by rw [k3]; unfold fnT; omega)) k2.lt), by rw [hE b' k2.lt]; exact k3⟩⟩
theorem FnA.far (h : FnA E w ow O S A j r m) (f : Fram F w w') (hn : ∀ b, fnT j (ow b) ∨ ow b = 301 → b < w.heap.size → ¬ F b) (hE : Xt w ow ow') : FnA E w' ow' O S A j r m :=
  ⟨h.k.far f hn hE, fun q => (h.o q).far f hn hE, h.a, h.i⟩
theorem fnT_cp {t : Nat} (hj : j < 13) (h : fnT j t) : cpT t := by unfold fnT at h; unfold cpT; omega
theorem CM.far (h : CM E w ow O S A) (f : Fram F w w') (hn : ∀ b, cpT (ow b) ∨ ow b = 67 ∨ ow b = 301 → b < w.heap.size → ¬ F b) (hE : Xt w ow ow') (hd : ∀ b, w'.heap.size ≤ b → ow' b = 66) : CM E w' ow' O S A := by
  obtain ⟨R, h1, h2, h3⟩ := h.F
  obtain ⟨Gp, n1, n2⟩ := h.N
  refine ⟨h.cb.fram f (hn _ (.inl (by rw [h.tc]; unfold cpT; omega)) h.cb.lt), by rw [hE _ h.cb.lt]; exact h.tc, by rw [hE _ h2.lt]; exact h.ta, ⟨Gp, n1.far f (fun b q l => hn b (.inr (.inl q)) l) hE, n2⟩, ⟨R, h1, h2.fram f (hn _ (.inl (by rw [h.ta]; unfold cpT; omega)) h2.lt), fun j r hr => ?_⟩, h.un, h.mem, hd⟩
  obtain ⟨m, q⟩ := h3 j r hr
  have hj := (List.getElem?_eq_some_iff.1 hr).1
  exact ⟨m, q.far f (fun b z l => hn b (z.elim (fun z => .inl (fnT_cp (by omega) z)) (fun z => .inr (.inr z))) l) hE⟩
theorem CM.dfN (h : CM E w ow O S A) (f : Fram F w w') : ∀ b, w'.heap.size ≤ b → ow b = 66 := fun b hb => h.df b (by have := f.size; omega)
theorem CM.thruN (h : CM E w ow O S A) (f : Fram none' w w') : CM E w' ow O S A := h.far f (fun _ _ _ q => q) (Xt.refl _ _) (h.dfN f)
theorem CM.hbput {b : Nat} (h : CM E w ow O S A) (f : Fram (one b) w w') (ht : ow b = 66 := by assumption) : CM E w' ow O S A :=
  h.far f (fun c q _ e => by have e : c = b := e; rw [e, ht] at q; unfold cpT at q; omega) (Xt.refl _ _) (h.dfN f)
theorem CM.dr (h : CM E w ow O S A) {d : Nat} : CM E { w with drawn := d } ow O S A := h.thruN ((Fram.refl none' _).thenDrew)
/-- the answer of a call. -/
def ZP (E : ZEnv) (w : World) (ow : Nat → Nat) (O : List Nat) (S : Fns) (A : List ZAct) (w' : World) : Prop := ∃ ow', Xt w ow ow' ∧ Fram (tg ow cpT) w w' ∧ CM E w' ow' O S A
theorem cp_loc {b : Nat} {l : List Value} {t d tag : Nat} (hE : Xt { w with drawn := d } ow ow') (f : Fram (tg ow cpT) { w with drawn := d } w') (h : Blk w.heap b l t) (ht : ow b = tag) (hn : tag = 66 ∨ tag = 67 ∨ tag = 301 := by omega) : Blk w'.heap b l t ∧ ow' b = tag :=
  ⟨f.blkF h (fun z => by have z : cpT (ow b) := z; rw [ht] at z; unfold cpT at z; omega), by rw [hE b h.lt]; exact ht⟩
theorem cp_trans {w0 : World} {ow0 : Nat → Nat} {d : Nat} (h0 : Xt w0 ow0 ow) (f0 : Fram (tg ow0 cpT) w0 w) (f : Fram (tg ow cpT) { w with drawn := d } w') : Fram (tg ow0 cpT) w0 w' := f0.transG f (fun b hb q => by have q : cpT (ow b) := q; rw [h0 b hb] at q; exact q)

/-- the function's row. -/
theorem CM.row (h : CM E w ow O S A) {j : Nat} (hj : j < 13) : ∃ R r m, R.length = 13 ∧ R[j]? = some r ∧ Blk w.heap E.gb (rws fnc R) 199 ∧ FnA E w ow O S A j r m ∧ (∀ o, o < 11 → (rws fnc R)[j * 11 + o]? = (fnc r)[o]?) ∧ ∀ j r, R[j]? = some r → ∃ m, FnA E w ow O S A j r m := by
  obtain ⟨R, h1, h2, h3⟩ := h.F
  obtain ⟨r, hr⟩ : ∃ r, R[j]? = some r := ⟨_, List.getElem?_eq_getElem (by omega)⟩
  obtain ⟨m, hm⟩ := h3 j r hr
  exact ⟨R, r, m, h1, hr, h2, hm, fun o ho => row_get (rws_at fnc_len hr) ho, h3⟩
theorem CM.nodes (h : CM E w ow O S A) (hG : 0 < E.G.length) : ∃ g cap l, E.nv = .slice (some ⟨g, 0, none⟩) E.G.length cap ∧ Blk w.heap g l 148 ∧ ow g = 67 ∧ E.G.length ≤ cap ∧ ∀ n, n < E.G.length → ∃ p, (l.drop (0 + n * 8)).take 8 = ndc (nd E.G n, p) := by
  obtain ⟨Gp, h1, h2⟩ := h.N
  have hl : Gp.length = E.G.length := by rw [← h2, List.length_map]
  rw [← hl] at h1
  obtain ⟨x, hx⟩ : ∃ x, Gp[0]? = some x := ⟨_, List.getElem?_eq_getElem (by omega)⟩
  obtain ⟨g, cap, l, q1, q2, q3, q4, q5, q6, q7⟩ := h1.at ndc_len hx
  rw [hl] at q1 q3
  refine ⟨g, cap, l, q1, q2, q6, q3, fun n hn => ?_⟩
  obtain ⟨y, hy⟩ : ∃ y, Gp[n]? = some y := ⟨_, List.getElem?_eq_getElem (by omega)⟩
  have e : y.1 = nd E.G n := by
    unfold nd
    rw [← h2, List.getD_eq_getElem?_getD, List.getElem?_map, hy]; rfl
  refine ⟨y.2, ?_⟩
  rw [q7 n y hy, ← e]
theorem set_td {l : List Value} {i : Nat} {v : Value} (h : i < l.length) : l.set i v = l.take i ++ [v] ++ l.drop (i + 1) := by
  rw [List.set_eq_take_append_cons_drop, if_pos h, List.append_assoc]; rfl
theorem rws_set {R : List ZRow} {j o : Nat} {r r' : ZRow} {v : Value} (h : R[j]? = some r) (ho : o < 11) (he : fnc r' = (fnc r).set o v) : (rws fnc R).set (j * 11 + o) v = rws fnc (R.set j r') := by
  have hj := (List.getElem?_eq_some_iff.1 h).1
  rw [set_td (by rw [rws_len fnc_len]; omega)]
  exact rws_put fnc_len h rfl (by omega) (by rw [he, set_td (by rw [fnc_len]; exact ho)])
/-- Function j turned: its row, its lists, its pools. -/
theorem CM.turn (h : CM E w ow O S A) (f : Fram (fun b => b = E.gb ∨ fnT j (ow b)) w w') (hE : Xt w ow ow') (hd : ∀ b, w'.heap.size ≤ b → ow' b = 66) {R : List ZRow} {r r' : ZRow} {m' : ZFn} {S' : Fns} {A' : List ZAct} (hR13 : R.length = 13) (hr : R[j]? = some r) (h3 : ∀ j r, R[j]? = some r → ∃ m, FnA E w ow O S A j r m)
    (hB : Blk w'.heap E.gb (rws fnc (R.set j r')) 199) (hj : j < 13) (hy : FnA E w' ow' O S' A' j r' m') (hS : ∀ k, k ≠ j → fsAt S' k = fsAt S k) (hA : A'.map (·.j) = A.map (·.j)) (ha : ∀ f ∈ A', f.j ≠ j → f ∈ A) : CM E w' ow' O S' A' := by
  have hmem : ∀ f ∈ A', f.j ∈ A.map (·.j) := fun f hf => by rw [← hA]; exact List.mem_map_of_mem hf
  have hgc : ∀ {c t : Nat}, ow c = t → ¬ (t = 191) → ¬ fnT j t → c < w.heap.size → ¬ (c = E.gb ∨ fnT j (ow c)) := fun {c t} e q1 q2 _ q => by
    rcases q with q | q
    · rw [q, h.ta] at e; exact q1 e.symm
    · rw [e] at q; exact q2 q
  obtain ⟨Gp, n1, n2⟩ := h.N
  refine ⟨h.cb.fram f (hgc h.tc (by omega) (by unfold fnT; omega) h.cb.lt), by rw [hE _ h.cb.lt]; exact h.tc, ?_, ⟨Gp, n1.far f (fun b q l => hgc q (by omega) (by unfold fnT; omega) l) hE, n2⟩, ⟨R.set j r', by rw [List.length_set]; exact hR13, hB, fun k q hk => ?_⟩, by rw [hA]; exact h.un, fun f hf => ?_, hd⟩
  · obtain ⟨R0, -, hb, -⟩ := h.F
    rw [hE _ hb.lt]; exact h.ta
  · rw [List.getElem?_set] at hk
    by_cases e : j = k
    · subst e
      rw [if_pos rfl, if_pos (by omega)] at hk
      cases hk
      exact ⟨m', hy⟩
    · rw [if_neg e] at hk
      have hk13 := (List.getElem?_eq_some_iff.1 hk).1
      obtain ⟨m, q⟩ := h3 k q hk
      have q1 := q.far f (fun b z l y => by
        rcases y with y | y
        · rcases z with z | z
          · rw [y, h.ta] at z; unfold fnT at z; omega
          · rw [y, h.ta] at z; omega
        · rcases z with z | z
          · unfold fnT at y z; omega
          · rw [z] at y; unfold fnT at y; omega) hE
      refine ⟨m, q1.k, fun ho => ?_, fun f hf hfj => q1.a f (ha f hf (by omega)) hfj, fun hn => ?_⟩
      · have o := q1.o ho
        have es := hS k (fun z => e z.symm)
        exact ⟨o.c, o.par, by rw [es]; exact o.np, by rw [es]; exact o.ns, by rw [es]; exact o.ups, by rw [es]; exact o.ks, o.nums, o.strs⟩
      · rw [hS k (fun z => e z.symm)]
        refine q1.i fun f hf hfk => ?_
        have hm : f.j ∈ A'.map (·.j) := by rw [hA]; exact List.mem_map_of_mem hf
        obtain ⟨f', hf', e'⟩ := List.mem_map.1 hm
        exact hn f' hf' (by rw [← hfk]; exact e')
  · obtain ⟨f', hf', e'⟩ := List.mem_map.1 (hmem f hf)
    rw [← e']
    exact h.mem f' hf'
end
end Go.Proofs.Qxb6500568aGreatDoor
