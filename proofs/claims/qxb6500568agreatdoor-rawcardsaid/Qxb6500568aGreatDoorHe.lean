import Derived.Test.Qxb6500568aGreatDoorHd
/- The machine: plain instructions, what they need. -/
namespace Go.Proofs.Qxb6500568aGreatDoor
open Ieee
set_option linter.unusedVariables false
set_option linter.unusedSimpArgs false
set_option linter.unusedSectionVars false

section
variable {P : Program} {n : Nat} {e : Nat → Option Value} {w : World}
/-- a window of a slice, or of the nil slice. -/
def wiV (v : Value) (l m k : Nat) : Value := match v with | .slice (some ⟨b, o, none⟩) len cap => .slice (some ⟨b, if cap = l then o else o + l * k, none⟩) m (cap - l) | v => v
def WinV (v : Value) (l m : Nat) : Prop := (∃ b len cap, v = .slice (some ⟨b, 0, none⟩) len cap ∧ l + m ≤ cap) ∨ (∃ cap, v = .slice none 0 cap ∧ l = 0 ∧ m = 0)
theorem ro_slV {t et k l m : Nat} {v : Value} {q q' : IntKind} {x y z : Operand} (hv : WinV v l m) (hx : evO n e x = some v) (hy : evO n e y = some (.int q (l : Int))) (hz : evO n e z = some (.int q' ((l + m : Nat) : Int))) (ht : selB P t et k = true) : RO P n e w (.slice t x (some y) (some z) none) (wiV v l m k) := by
  rcases hv with ⟨b, len, cap, rfl, h⟩ | ⟨cap, rfl, rfl, rfl⟩
  · exact ro_sliceLHn hx hy hz ht rfl rfl rfl h
  · exact ro_sliceLH0 hx hy hz ht rfl rfl
end
section
variable {C : VC} {w w' w1 u u1 u2 : World} {ow ow' ow1 : Nat → Nat} {s : AS} {a : AS} {y : ATh} {gs : List AFr} {g : AFr} {vars : List PV} {fg fc : Nat} {V : VS} {κ : List Nat} {Vv : Nat → Value} {U : Nat → Nat → Value} {x : VTh} {f : VFr} {fs : List VFr} {L : VL} {e fuel t : Nat} {out : Str} {T : List Tb} {Ps : List Proto}
def prt (C : VC) (p : Nat) : Value := .pointer (some ⟨C.pg, p * 8, none⟩)
theorem AO.win (o : AO C fg fc w ow a y gs g vars V κ Vv U x f fs) {m : Nat} (hm : g.slots.length = m) : WinV (U a.cur 2) f.base m := by
  subst hm
  have hln := o.t.ln
  obtain ⟨L, op, vl⟩ := o.v.ex
  have hO := op.sk vl o.t.hx o.lt
  rcases hO.o.2 with ⟨k1, k2⟩ | ⟨g', cap', l, k1, hB, q1, hcap, q2, q3⟩
  · refine .inr ⟨_, k1, ?_, ?_⟩ <;> omega
  · exact .inl ⟨_, _, _, k1, by omega⟩
/-- the constants. -/
theorem AO.kon (o : AO C fg fc w ow a y gs g vars V κ Vv U x f fs) {p z : Nat} {kv : PV} (hp : p < C.F.length) (hk : (fsAt C.F p).ks[z]? = some kv) : ∃ lM lP lK kg kcap kn kb, Blk w.heap C.E.mb lM 89 ∧ lM[4]? = some (.slice (some ⟨kg, 0, none⟩) kn kcap) ∧ lM[1]? = some (ptr C.xb) ∧ Blk w.heap C.pg lP 258 ∧ lP[p * 8 + 4]? = some (i64c kb) ∧ Blk w.heap kg lK 119 ∧ (lK.drop (0 + (kb + z) * 3)).take 3 = pvc kv ∧ kb + z < kn ∧ kn ≤ 100000 := by
  obtain ⟨lP, pa, pb, pc, hP, tP, rp, -, ⟨K, oK, wK, bK⟩, -⟩ := o.v.pro hp
  obtain ⟨lM, hM, m0, m1, m2, m3, m4, -⟩ := o.v.mbA
  have hg := wK.2 _ _ hk
  obtain ⟨kg, kcap, lK, eK, hK, -, -, -, tK, rK⟩ := oK.at pvc_len hg
  rw [eK] at m4
  have hl := (List.getElem?_eq_some_iff.1 hg).1
  refine ⟨lM, lP, lK, kg, kcap, K.length, pb, hM, m4, m1, hP, ?_, hK, rK _ _ hg, hl, bK⟩
  have := row_get (j := 4) rp (by decide)
  rw [Nat.zero_add] at this
  exact this
/-- a plain instruction's answer. -/
def PlR (C : VC) (fg fc : Nat) (w : World) (ow : Nat → Nat) (a : AS) (y : ATh) (gs : List AFr) (g : AFr) (z : AS) (r : Value) (w' : World) : Prop := ∃ a' g' vars', (kN a', g'.pc) = (kN a, g.pc) ∧ a'.ths = a.ths ∧ mkA a' y gs { g' with pc := g'.pc + 1 } vars' = z ∧ AR C fg fc w ow (.tuple #[]) (mkA a' y gs g' vars') r w'
/-- what is known at an instruction. -/
structure PE (C : VC) (fg fc : Nat) (w : World) (ow : Nat → Nat) (a : AS) (y : ATh) (gs : List AFr) (g : AFr) (vars : List PV) (p : Nat) (ids : List Nat) (op z : Nat) : Prop where
  r : AM C fg fc w ow (mkA a y gs g vars)
  hc : a.cur < a.ths.length
  hk : a.clos[g.clo]? = some (p, ids)
  hp : p < C.F.length
  av : AV (mkA a y gs g vars)
  sn : Snd (Psf C.F) (mkA a y gs g vars) op z
  pk : PK (Psf C.F)
  hz : z < 65536
  ht : 1 ≤ a.tabs.length
theorem PE.ol {p : Nat} {ids : List Nat} {op z : Nat} (h : PE C fg fc w ow a y gs g vars p ids op z) : g.ops.length ≤ 128 := by
  have := h.sn.g.1
  rw [mk_fr h.hc] at this
  exact this
theorem PE.nd {p : Nat} {ids : List Nat} {op z : Nat} (h : PE C fg fc w ow a y gs g vars p ids op z) : needO op z ≤ g.ops.length := by
  have := h.sn.n
  rw [mk_fr h.hc] at this
  exact this
theorem PE.vo {p : Nat} {ids : List Nat} {op z : Nat} (h : PE C fg fc w ow a y gs g vars p ids op z) {v : PV} (hv : v ∈ g.ops) : VV a.clos.length a.ths.length a.tabs.length v := by
  have := h.av.ops { y with frs := g :: gs } (List.mem_of_getElem? (mk_at h.hc)) g List.mem_cons_self v hv
  unfold aok at this
  have e : (mkA a y gs g vars).ths.length = a.ths.length := List.length_set
  rw [e] at this
  exact this
theorem PE.vv {p : Nat} {ids : List Nat} {op z : Nat} (h : PE C fg fc w ow a y gs g vars p ids op z) (i : Nat) : VV a.clos.length a.ths.length a.tabs.length (vars.getD i vNil) := by
  have e : (mkA a y gs g vars).ths.length = a.ths.length := List.length_set
  rw [List.getD_eq_getElem?_getD]
  cases hv : vars[i]? with
  | none => exact .nil _ _ _
  | some v =>
    have := h.av.var v (List.mem_of_getElem? hv)
    unfold aok at this
    rw [e] at this
    exact this
theorem PE.pr {p : Nat} {ids : List Nat} {op z : Nat} (h : PE C fg fc w ow a y gs g vars p ids op z) : pr (Psf C.F) (mkA a y gs g vars).pro = protoOf (fsAt C.F p) := by rw [mk_pro h.hc h.hk, pr_psf]
theorem PE.id {p : Nat} {ids : List Nat} {op z : Nat} (h : PE C fg fc w ow a y gs g vars p ids op z) : (mkA a y gs g vars).ids = ids := mk_ids h.hc h.hk
theorem PE.pl {p : Nat} {ids : List Nat} {op z : Nat} (h : PE C fg fc w ow a y gs g vars p ids op z) : ((Psf C.F).getD p Proto.zero).ks = (fsAt C.F p).ks := by
  have := pr_psf C.F p
  unfold Go.Proofs.Qxb6500568aGreatDoor.pr at this
  rw [this]; rfl
theorem PE.kvv {p : Nat} {ids : List Nat} {op z : Nat} (h : PE C fg fc w ow a y gs g vars p ids op z) {i : Nat} {kv : PV} (hk : (fsAt C.F p).ks[i]? = some kv) (c t n : Nat) : VV c t n kv := by
  have hm : protoOf (fsAt C.F p) ∈ Psf C.F := by
    unfold Psf fsAt
    rw [List.getD_eq_getElem?_getD, List.getElem?_eq_getElem h.hp]
    exact List.mem_map.2 ⟨_, List.getElem_mem h.hp, rfl⟩
  exact (h.pk _ hm kv (List.mem_of_getElem? hk)).vv c t n
theorem AM.get270' (hR : AM C fg fc w ow s) {n : Nat} {k : PV} (hn : n < s.tabs.length) (hk : wfV k = true) (hN : W64 k.N) : Ret Tryz.prog 270 [ptr C.xb, i64c n, pv k] w (fun r w' => r = .tuple #[pv (tGet (s.tabs.getD n []) k), icv 0] ∧ Fram none' w w') := Get270 (h := n) (t := s.tabs.getD n []) hR.rtab (tbD_at hn) hk hN
theorem PE.tok {p : Nat} {ids : List Nat} {op z : Nat} (h : PE C fg fc w ow a y gs g vars p ids op z) {n : Nat} {k v : PV} (hn : n < a.tabs.length) (hk : VV a.clos.length a.ths.length a.tabs.length k) (hv : VV a.clos.length a.ths.length a.tabs.length v) : TOK (tSet (a.tabs.getD n []) k v).2 := by
  have e : (mkA a y gs g vars).ths.length = a.ths.length := List.length_set
  obtain ⟨t1, t2⟩ := h.av.tab (a.tabs.getD n []) (List.mem_of_getElem? (tbD_at hn))
  refine (tSet_ok t1 (fun q hq => ?_) hk hv).1
  have := t2 q hq
  unfold aok at this
  rw [e] at this
  exact this
/-- a store's end. -/
def stZ (a : AS) (y : ATh) (gs : List AFr) (g : AFr) (vars : List PV) (t k v : PV) (l : List PV) : AS :=
  if t.T ≠ 4 then araise mIndex (mkA a y gs g vars) else if (tSet (a.tabs.getD t.N []) k v).1 = 8 then afin 8 [45] (mkA a y gs g vars) else if (tSet (a.tabs.getD t.N []) k v).1 ≠ 0 then araise mKey (mkA a y gs g vars) else mkA { a with tabs := a.tabs.set t.N (tSet (a.tabs.getD t.N []) k v).2 } y gs { g with ops := l, pc := g.pc + 1 } vars
theorem storeZ {p : Nat} {ids : List Nat} {op z : Nat} (h : PE C fg fc w ow a y gs g vars p ids op z) {l l' : List PV} (hR : AM C fg fc u ow' (mkA a y gs { g with ops := l' } vars)) {t k v : PV} (ht : t.T = 4) (hn : t.N < a.tabs.length) (hk : VV a.clos.length a.ths.length a.tabs.length k) (hv : VV a.clos.length a.ths.length a.tabs.length v) :
    RetP Tryz.prog 271 [ptr C.E.mb, i64c t.N, pv k, pv v] u (fun r w' => mkA { a with tabs := a.tabs.set t.N (tSet (a.tabs.getD t.N []) k v).2 } y gs { g with ops := l, pc := g.pc + 1 } vars = stZ a y gs g vars t k v l ∧ AR C fg fc u ow' (.tuple #[]) (mkA { a with tabs := a.tabs.set t.N (tSet (a.tabs.getD t.N []) k v).2 } y gs { g with ops := l' } vars) r w') (AE C (kH a) u ow' (stZ a y gs g vars t k v l)) := by
  refine (storeA (h := t.N) (t := a.tabs.getD t.N []) (k := k) (v := v) (z := stZ a y gs g vars t k v l) hR (by show a.cur < (a.ths.set _ _).length; rw [List.length_set]; exact h.hc) (tbD_at hn) hk.wf hk.w hv.wf hv.w (h.tok hn hk hv) ?_ ?_).mono ?_ (fun _ _ h => by rw [mk_kH] at h; exact h)
  · intro q
    unfold stZ
    rw [if_neg (by omega), if_pos q]
    exact ⟨rfl, rfl, by decide⟩
  · intro q q2
    unfold stZ
    rw [if_neg (by omega), if_neg q, if_pos q2]
    exact (athrow_top (g := g) (g' := { g with ops := l' }) h.hc _ rfl).symm
  · rintro r w' ⟨q, hq⟩
    refine ⟨?_, hq⟩
    unfold stZ
    rw [if_neg (by omega), if_neg (by omega), if_neg (by omega)]
theorem nx_tabs (hc : a.cur < a.ths.length) (T : List Tb) (l : List PV) : apc (AS.fr { mkA a y gs g vars with tabs := T }).pc.succ (aops l { mkA a y gs g vars with tabs := T }) = mkA { a with tabs := T } y gs { g with ops := l, pc := g.pc + 1 } vars := by
  have e : ({ mkA a y gs g vars with tabs := T } : AS) = mkA { a with tabs := T } y gs g vars := rfl
  rw [e, mk_fr (a := { a with tabs := T }) hc, mk_ops (a := { a with tabs := T }) hc, mk_pc (a := { a with tabs := T }) hc]
theorem aset_mk {i : Nat} {v : PV} : aset i v (mkA a y gs g vars) = mkA a y gs g (vars.set i v) := rfl
theorem mkA_vars : (mkA a y gs g vars).vars = vars := rfl
theorem mkA_tabs : (mkA a y gs g vars).tabs = a.tabs := rfl
theorem mkA_clos : (mkA a y gs g vars).clos = a.clos := rfl
theorem ops_1 {l : List PV} (h : 1 ≤ l.length) : ∃ v r, l = v :: r := by
  rcases l with _ | ⟨v, r⟩
  · cases h
  · exact ⟨v, r, rfl⟩
theorem ops_2 {l : List PV} (h : 2 ≤ l.length) : ∃ v u r, l = v :: u :: r := by
  obtain ⟨v, r, rfl⟩ := ops_1 (Nat.le_trans (by decide) h)
  obtain ⟨u, r, rfl⟩ := ops_1 (l := r) (by rw [List.length_cons] at h; omega)
  exact ⟨v, u, r, rfl⟩
theorem ops_3 {l : List PV} (h : 3 ≤ l.length) : ∃ v u q r, l = v :: u :: q :: r := by
  obtain ⟨v, u, r, rfl⟩ := ops_2 (Nat.le_trans (by decide) h)
  obtain ⟨q, r, rfl⟩ := ops_1 (l := r) (by simp only [List.length_cons] at h; omega)
  exact ⟨v, u, q, r, rfl⟩
end
end Go.Proofs.Qxb6500568aGreatDoor
