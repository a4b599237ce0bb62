import Derived.Test.Qxb6500568aGreatDoorQn
/- The driver: run. -/
namespace Go.Proofs.Qxb6500568aGreatDoor
open Ieee
set_option linter.unusedVariables false
set_option linter.unusedSimpArgs false
set_option linter.unusedSectionVars false

section
variable {P : Program} {ops : Array Oper} {Q : Exit → Act → World → Prop} {S : World → Prop} {last : Nat} {n : Nat} {e : Nat → Option Value} {w : World}
theorem wf_cm {i j d1 d2 m : Nat} {t f : Nat} {z : List Value} {args : List Operand} {ats : Array TypeId} {vs : List Value} {R : Value → World → Prop} {RB : Nat → Value → World → Prop} {G : Nat → Prop} {ty1 ty2 ty3 : TypeId} {ps1 ps2 ps3 : String} {af1 af2 af3 : Array Edge}
    (hi : ops[i]? = some ⟨some d1, .call ⟨.value (.func f), args.toArray, ats⟩, ty1, ps1, af1, none⟩)
    (hj : ops[j]? = some ⟨some d2, .alloc t, ty2, ps2, af2, none⟩)
    (hl : ops[last]? = some ⟨none, .store t (.tmp d2) (.tmp d1), ty3, ps3, af3, none⟩)
    (hd : d1 ≠ d2) (hd1 : d1 < n) (hd2 : d2 < n) (ha : evArgs n e args = some vs) (ha2 : ∀ v, evArgs n (upd e d2 v) args = some vs) (hf : Enters P f) (hz : zeroB P t z) (hsz : sizeB P t m = true) (hzl : z.length = m)
    (hc : Ret P f vs w (fun v u => R v u ∧ Fram G w u))
    (hb1 : ∀ v u u' b, R v u → u.heap.size ≤ b → Fram none' u u' → RB b v u')
    (hc2 : ∀ w1 b, Fram none' w w1 → w.heap.size ≤ b → b < w1.heap.size → Ret P f vs w1 (fun v u => RB b v u ∧ Fram G w1 u))
    (hRB : ∀ b v u, RB b v u → R v u)
    (hst : ∀ v u u', R v u → Fram none' u u' → R v u')
    (hG : ∀ b, G b → b < w.heap.size)
    (hv : ∀ v u, R v u → ∃ cs : List Value, v = .agg cs.toArray ∧ cs.length = m ∧ ∀ x ∈ cs, x.oneCell' = true)
    (hS : ∀ u, Fram none' w u → S u) (hS2 : ∀ v u, R v u → S u) (hsz2 : ∀ v u, R v u → w.heap.size ≤ u.heap.size)
    (k : ∀ (cs : List Value) (u : World) (b : Nat) (u' : World), RB b (.agg cs.toArray) u → cs.length = m → w.heap.size ≤ b → Blk u.heap b z t → Blk u'.heap b cs t → Fram (one b) u u' → Q .normal (Fr n (upd (upd e d1 (.agg cs.toArray)) d2 (ptr b)) []) u') :
    WFk P ops Q S last i j [(j, true)] [(i, true)] [] (Fr n e []) w := by
  refine wf_fork ?_ ?_
  · refine ql_call hi ha hf hc ?_
    rintro v u ⟨hR, hFr⟩
    obtain ⟨cs, rfl, hcl, hco⟩ := hv v u hR
    refine ⟨hS2 _ _ hR, ?_⟩
    refine ql_new hj hz (fun w1 F => hS2 _ _ (hst _ _ _ hR F)) (fun b w1 hb hB F => ?_)
    have hsu := hsz2 _ _ hR
    refine ql_puta hl (i := 0) (b := b) (cs := cs) ?_ ?_ hco hsz hcl hB (by omega) (l' := cs) ?_ (fun w2 hB2 F2 => ?_)
    · rw [evO_tmp hd2, upd_at]; rfl
    · rw [evO_tmp hd1, upd_no hd, upd_at]
    · simp only [List.take_zero, List.nil_append, Nat.zero_add]
      rw [List.drop_eq_nil_of_le (by omega), List.append_nil]
    · exact k cs w1 b w2 (hb1 _ _ _ _ hR (by omega) F) hcl (by omega) hB hB2 F2
  · refine ql_new hj hz (fun w1 F => hS _ F) (fun b w1 hb hB F => ?_)
    refine ql_call hi (ha2 _) hf (hc2 w1 b F (by omega) hB.lt) ?_
    rintro v u ⟨hR, hFr⟩
    obtain ⟨cs, rfl, hcl, hco⟩ := hv v u (hRB _ _ _ hR)
    refine ⟨hS2 _ _ (hRB _ _ _ hR), ?_⟩
    have hB' : Blk u.heap b z t := hB.fram hFr (fun h => by have := hG b h; omega)
    refine ql_puta hl (i := 0) (b := b) (cs := cs) ?_ ?_ hco hsz hcl hB' (by omega) (l' := cs) ?_ (fun w2 hB2 F2 => ?_)
    · rw [evO_tmp hd2, upd_no hd.symm, upd_at]; rfl
    · rw [evO_tmp hd1, upd_at]
    · simp only [List.take_zero, List.nil_append, Nat.zero_add]
      rw [List.drop_eq_nil_of_le (by omega), List.append_nil]
    · rw [upd_swap hd]
      exact k cs u b w2 hR hcl (by omega) hB' hB2 F2
end
/-- the driver's result. -/
def resc (k : Nat) (v : PV) (e : Nat) : List Value := [i64c k, i64c v.T, u64c v.N, S v.S, i64c e]
def resv (k : Nat) (v : PV) (e : Nat) : Value := .agg (resc k v e).toArray
theorem resc_one (k : Nat) (v : PV) (e : Nat) : ∀ q ∈ resc k v e, q.oneCell' = true := by simp [resc, Value.oneCell', i64c, u64c, S]
/-- the driver's block. -/
def coc (C : VC) (f : Nat) (d : Int) : List Value := [ptr C.E.mb, i64c f, .int .i64 d]
/-- run's answer. -/
def CoR (C : VC) (b : AS) (n0 cb : Nat) (d : Int) (σ : List Nat) (w : World) (ow : Nat → Nat) (r : Value) (w' : World) : Prop := ∃ n z ow' s1 kk v e, n < n0 ∧ LI C b n z ∧ Xt w ow ow' ∧ Fram (fun x => tg ow vtT x ∨ x = cb) w w' ∧ Blk w'.heap cb (coc C s1.first d) 91 ∧ s1.stack = σ ∧ s1.done = false ∧ r = resv kk v e ∧
  ((AMq C w' ow' s1 ∧ HS s1 ∧ ∃ ok : Bool, kk = (if ok then 1 else 2) ∧ (wfV v = true ∧ W64 v.N) ∧ aback ok v s1 = z) ∨ (kk = 3 ∧ ATr e s1 z ∧ MOZ C w' ow' s1.fuel s1.out))
/-- Exec's answer, by its parts. -/
def ExQ (C : VC) (b : AS) (n0 : Nat) (c : Nat × List Nat × Nat × Bool) (w : World) (ow : Nat → Nat) (x k t e : Nat) (v : PV) (w' : World) : Prop := ∃ n z ow' s1, ow' x = 66 ∧ n < n0 ∧ LI C b n z ∧ Xt w ow ow' ∧ Fram (tg ow vtT) w w' ∧ kN s1 = c ∧
  ((AMq C w' ow' s1 ∧ (((k = 1 ∨ k = 3) ∧ HS s1 ∧ (wfV v = true ∧ W64 v.N) ∧ aback true v s1 = z) ∨ (k = 4 ∧ rsm (Psf C.F) t v s1 = z ∧ t < s1.ths.length ∧ ((thA s1.ths t).st = 1 ∧ (thA s1.ths t).frs = [] ∨ (thA s1.ths t).st = 2) ∧ VV s1.clos.length s1.ths.length s1.tabs.length v) ∨ (k = 2 ∧ HS s1 ∧ (wfV v = true ∧ W64 v.N) ∧ aback false v s1 = z))) ∨
   (k = 5 ∧ ATr e s1 z ∧ MOZ C w' ow' s1.fuel s1.out))
section
variable {C : VC} {w w0 : World} {ow ow0 : Nat → Nat} {s b : AS} {n th fuel cb : Nat} {out : Str} {va vb : PV}
/-- what a resume starts from. -/
def rs0 (k : Nat) (s : AS) : AS := { s with stack := s.cur :: s.stack, first := if (thA s.ths k).st = 1 then s.first + 1 else s.first }
theorem rsm_ex {Ps : List Proto} {k : Nat} {v : PV} : rsm Ps k v s = exS Ps k v vNil (rs0 k s) := by
  unfold rsm exS rs0
  dsimp only
  by_cases h : (thA s.ths k).st = 1
  · rw [if_pos h, if_pos h, if_pos h]; rfl
  · rw [if_neg h, if_neg h, if_neg h]
theorem aback_ex {Ps : List Proto} {ok : Bool} {v : PV} {c : Nat} {r : List Nat} (hs : s.stack = c :: r) (h1 : (thA s.ths c).st ≠ 1) : aback ok v s = exS Ps c (vBool ok) v { s with stack := r } := by
  unfold aback exS
  rw [hs]
  dsimp only
  rw [if_neg h1]
theorem yld_back {v : PV} (hs : s.stack ≠ []) : yld v s = aback true v s := by
  unfold yld aback
  cases h : s.stack with
  | nil => exact absurd h hs
  | cons c r => rfl
/-- the values handed to a thread that goes on. -/
theorem exS_vv (hL : LI C b n (exS (Psf C.F) th va vb s)) (hd : s.done = false) (hth : th < s.ths.length) (h1 : (thA s.ths th).st ≠ 1) : VV s.clos.length s.ths.length s.tabs.length va ∧ VV s.clos.length s.ths.length s.tabs.length vb := by
  have hdz : (exS (Psf C.F) th va vb s).done = false := by have := exS_k (C := C) (th := th) (va := va) (vb := vb) (s := s); exact (congrArg (fun q => q.2.2.2) this).trans hd
  have hcz : (exS (Psf C.F) th va vb s).cur = th := congrArg Prod.fst (exS_k (C := C) (th := th) (va := va) (vb := vb) (s := s))
  have hne := (hL.sh.tr hdz).ne
  rw [hcz] at hne
  have hfr := exS_fr (C := C) (va := va) (vb := vb) (by unfold AS.th; rw [hcz]; exact hne) h1 hth
  cases hf : (thA s.ths th).frs with
  | nil => exact absurd hf hfr
  | cons g gs =>
    have e : exS (Psf C.F) th va vb s = { s with cur := th, ths := s.ths.set th { (thA s.ths th) with st := 4, frs := { g with ops := vb :: va :: g.ops } :: gs } } := exS_2 h1 hth hf
    have hv := hL.av.ops
    rw [e] at hv
    have hv := hv { (thA s.ths th) with st := 4, frs := { g with ops := vb :: va :: g.ops } :: gs } (List.mem_of_getElem? (i := th) (by show (s.ths.set th _)[th]? = _; rw [List.getElem?_set, if_pos rfl, if_pos hth])) _ List.mem_cons_self
    unfold aok at hv
    dsimp only at hv
    rw [List.length_set] at hv
    exact ⟨hv va (by simp), hv vb (by simp)⟩
theorem HS.lt {c : Nat} {r : List Nat} (h : HS s) (hs : s.stack = c :: r) : c < s.ths.length ∧ (thA s.ths c).st = 3 := by
  have h3 := h c r hs
  refine ⟨?_, h3⟩
  refine Nat.lt_of_not_le fun q => ?_
  unfold thA at h3
  rw [List.getD_eq_getElem?_getD, List.getElem?_eq_none q] at h3
  cases h3
theorem ExR.form {c : Nat × List Nat × Nat × Bool} {r : Value} {w' : World} (h : ExR C b n c w ow r w') : ∃ cs : List Value, r = .agg cs.toArray ∧ cs.length = 9 ∧ ∀ x ∈ cs, x.oneCell' = true := by
  obtain ⟨n1, z, ow', s1, -, -, -, -, -, ⟨-, ⟨v, u, h, -⟩ | ⟨k, v, h, -⟩ | ⟨v, h, -⟩ | ⟨v, h, -⟩⟩ | ⟨e, h, -⟩⟩ := h <;> exact ⟨_, h, rfl, vevc_one _ _ _ _ _⟩
/-- the same, the block x tagged as a local one. -/
def ExB (C : VC) (b : AS) (n0 : Nat) (c : Nat × List Nat × Nat × Bool) (w : World) (ow : Nat → Nat) (x : Nat) (r : Value) (w' : World) : Prop := ∃ n z ow' s1, ow' x = 66 ∧ n < n0 ∧ LI C b n z ∧ Xt w ow ow' ∧ Fram (tg ow vtT) w w' ∧ kN s1 = c ∧
  ((AMq C w' ow' s1 ∧ ((∃ v u, r = vevv 1 0 0 v u ∧ HS s1 ∧ (wfV v = true ∧ W64 v.N) ∧ aback true v s1 = z) ∨ (∃ k v, r = vevv 4 k 0 v vNil ∧ rsm (Psf C.F) k v s1 = z ∧ k < s1.ths.length ∧ ((thA s1.ths k).st = 1 ∧ (thA s1.ths k).frs = [] ∨ (thA s1.ths k).st = 2) ∧ VV s1.clos.length s1.ths.length s1.tabs.length v) ∨ (∃ v, r = vevv 3 0 0 v vNil ∧ s1.cur ≠ 0 ∧ HS s1 ∧ yld v s1 = z) ∨ (∃ v, r = vevv 2 0 0 v vNil ∧ HS s1 ∧ (wfV v = true ∧ W64 v.N) ∧ aback false v s1 = z))) ∨
   (∃ e, r = vevv 5 0 e vNil vNil ∧ ATr e s1 z ∧ MOZ C w' ow' s1.fuel s1.out))
theorem ExB.r {c : Nat × List Nat × Nat × Bool} {x : Nat} {r : Value} {w' : World} (h : ExB C b n c w ow x r w') : ExR C b n c w ow r w' := by
  obtain ⟨n1, z, ow', s1, -, h⟩ := h
  exact ⟨n1, z, ow', s1, h⟩
theorem ExR.b1 {c : Nat × List Nat × Nat × Bool} {x : Nat} {r : Value} {w' : World} (h : ExR C b n c w ow r w') (hx : w'.heap.size ≤ x) : ExB C b n c w ow x r w' := by
  obtain ⟨n1, z, ow', s1, h1, h2, h3, h4, h5, h6⟩ := h
  refine ⟨n1, z, ow', s1, ?_, h1, h2, h3, h4, h5, h6⟩
  rcases h6 with ⟨q, -⟩ | ⟨e, q1, q2, q3⟩
  · exact q.df x hx
  · exact q3.df x hx
theorem ExR.b2 {c : Nat × List Nat × Nat × Bool} {x : Nat} {r : Value} {w' : World} (h : ExR C b n c w ow r w') (hx : x < w.heap.size) (h66 : ow x = 66) : ExB C b n c w ow x r w' := by
  obtain ⟨n1, z, ow', s1, h1, h2, h3, h4, h5, h6⟩ := h
  exact ⟨n1, z, ow', s1, by rw [h3 x hx]; exact h66, h1, h2, h3, h4, h5, h6⟩
theorem ExB.old {c : Nat × List Nat × Nat × Bool} {x : Nat} {r : Value} {w' : World} (h : ExB C b n c w ow x r w') (F : Fram none' w0 w) : ExB C b n c w0 ow x r w' := by
  obtain ⟨n1, z, ow', s1, h0, h1, h2, h3, h4, h5⟩ := h
  exact ⟨n1, z, ow', s1, h0, h1, h2, fun b hb => h3 b (Nat.lt_of_lt_of_le hb F.size), (F.mono (fun _ _ q => q.elim)).trans h4, h5⟩
theorem ExB.thenN {c : Nat × List Nat × Nat × Bool} {x : Nat} {r : Value} {w' u' : World} (h : ExB C b n c w ow x r w') (F : Fram none' w' u') : ExB C b n c w ow x r u' := by
  obtain ⟨n1, z, ow', s1, h0, h1, h2, h3, h4, h5, h6⟩ := h
  refine ⟨n1, z, ow', s1, h0, h1, h2, h3, h4.thenN F, h5, ?_⟩
  rcases h6 with ⟨q, h6⟩ | ⟨e, q1, q2, q3⟩
  · exact .inl ⟨q.thruN F, h6⟩
  · exact .inr ⟨e, q1, q2, q3.thruN F⟩
theorem ExR.fr {c : Nat × List Nat × Nat × Bool} {r : Value} {w' : World} (h : ExR C b n c w ow r w') : Fram (tg ow vtT) w w' := by
  obtain ⟨n1, z, ow', s1, -, -, -, h, -⟩ := h
  exact h
theorem ExR.old {c : Nat × List Nat × Nat × Bool} {r : Value} {w' : World} (h : ExR C b n c w ow r w') (F : Fram none' w0 w) : ExR C b n c w0 ow r w' := by
  obtain ⟨n1, z, ow', s1, h1, h2, h3, h4, h5⟩ := h
  exact ⟨n1, z, ow', s1, h1, h2, fun b hb => h3 b (Nat.lt_of_lt_of_le hb F.size), (F.mono (fun _ _ q => q.elim)).trans h4, h5⟩
theorem ExR.thenN {c : Nat × List Nat × Nat × Bool} {r : Value} {w' u' : World} (h : ExR C b n c w ow r w') (F : Fram none' w' u') : ExR C b n c w ow r u' := by
  obtain ⟨n1, z, ow', s1, h1, h2, h3, h4, h5, h6⟩ := h
  refine ⟨n1, z, ow', s1, h1, h2, h3, h4.thenN F, h5, ?_⟩
  rcases h6 with ⟨q, h6⟩ | ⟨e, q1, q2, q3⟩
  · exact .inl ⟨q.thruN F, h6⟩
  · exact .inr ⟨e, q1, q2, q3.thruN F⟩
theorem ExB.q {σ : List Nat} {fi x : Nat} {cs : List Value} {w' : World} (h : ExB C b n (th, σ, fi, false) w ow x (.agg cs.toArray) w') (h0 : th ≠ 0 → σ ≠ []) : ∃ k t e v u, cs = vevc k t e v u ∧ ExQ C b n (th, σ, fi, false) w ow x k t e v w' := by
  obtain ⟨n1, z, ow', s1, hx0, h1, h2, h3, h4, h5, h6⟩ := h
  have inj : ∀ {k t e : Nat} {v u : PV}, Value.agg cs.toArray = vevv k t e v u → cs = vevc k t e v u := fun h => by
    unfold vevv at h
    injection h with h
    exact List.toArray_inj h
  have hs1 : s1.stack = σ := congrArg (fun q => q.2.1) h5
  have hc1 : s1.cur = th := congrArg Prod.fst h5
  have hd1 : s1.done = false := congrArg (fun q => q.2.2.2) h5
  rcases h6 with ⟨hq, ⟨v, u, h, hh, hw, hz⟩ | ⟨k, v, h, hz⟩ | ⟨v, h, hc, hh, hz⟩ | ⟨v, h, hh, hw, hz⟩⟩ | ⟨e, h, hz⟩
  · exact ⟨_, _, _, _, _, inj h, n1, z, ow', s1, hx0, h1, h2, h3, h4, h5, .inl ⟨hq, .inl ⟨.inl rfl, hh, hw, hz⟩⟩⟩
  · exact ⟨_, _, _, _, _, inj h, n1, z, ow', s1, hx0, h1, h2, h3, h4, h5, .inl ⟨hq, .inr (.inl ⟨rfl, hz⟩)⟩⟩
  · have hne : s1.stack ≠ [] := by rw [hs1]; exact h0 (by rw [← hc1]; exact hc)
    rw [yld_back hne] at hz
    refine ⟨_, _, _, _, _, inj h, n1, z, ow', s1, hx0, h1, h2, h3, h4, h5, .inl ⟨hq, .inl ⟨.inr rfl, hh, ?_, hz⟩⟩⟩
    cases hsk : s1.stack with
    | nil => exact absurd hsk hne
    | cons c r =>
      obtain ⟨hlt, h3'⟩ := hh.lt hsk
      rw [aback_ex (Ps := Psf C.F) hsk (by omega)] at hz
      rw [← hz] at h2
      have hv := (exS_vv (s := { s1 with stack := r }) h2 hd1 hlt (by show (thA s1.ths c).st ≠ 1; omega)).2
      exact ⟨hv.wf, hv.w⟩
  · exact ⟨_, _, _, _, _, inj h, n1, z, ow', s1, hx0, h1, h2, h3, h4, h5, .inl ⟨hq, .inr (.inr ⟨rfl, hh, hw, hz⟩)⟩⟩
  · exact ⟨_, _, _, _, _, inj h, n1, z, ow', s1, hx0, h1, h2, h3, h4, h5, .inr ⟨rfl, hz⟩⟩
theorem co_trans {d : Nat} {w' : World} (h0 : Xt w0 ow0 ow) (f0 : Fram (fun x => tg ow0 vtT x ∨ x = cb) w0 w) (f : Fram (tg ow vtT) { w with drawn := d } w') : Fram (fun x => tg ow0 vtT x ∨ x = cb) w0 w' := f0.transG f (fun b hb q => by have q : vtT (ow b) := q; rw [h0 b hb] at q; exact .inl q)
theorem co_trans2 {w' : World} (h0 : Xt w0 ow0 ow) (f0 : Fram (fun x => tg ow0 vtT x ∨ x = cb) w0 w) (f : Fram (fun x => tg ow vtT x ∨ x = cb) w w') : Fram (fun x => tg ow0 vtT x ∨ x = cb) w0 w' := f0.transG (d := w.drawn) f (fun b hb q => by
  rcases q with q | q
  · have q : vtT (ow b) := q; rw [h0 b hb] at q; exact .inl q
  · exact .inr q)
theorem cd_loc {ow' : Nat → Nat} {w' : World} {b : Nat} {l : List Value} {t : Nat} (hE : Xt w ow ow') (f : Fram (fun x => tg ow vtT x ∨ x = cb) w w') (h : Blk w.heap b l t) (ht : ow b = 66) (hn : b ≠ cb) : Blk w'.heap b l t ∧ ow' b = 66 := by
  refine ⟨f.blkF h (fun q => ?_), by rw [hE b h.lt]; exact ht⟩
  rcases q with q | q
  · have q : vtT (ow b) := q
    rw [ht] at q
    exact absurd q (by unfold vtT vmT rtag; omega)
  · exact hn q
end
end Go.Proofs.Qxb6500568aGreatDoor
