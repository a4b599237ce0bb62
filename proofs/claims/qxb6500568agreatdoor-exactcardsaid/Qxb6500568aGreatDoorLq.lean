import Derived.Test.Qxb6500568aGreatDoorLp
namespace Go.Proofs.Qxb6500568aGreatDoor
open Ieee
set_option linter.unusedVariables false
set_option linter.unusedSimpArgs false
set_option linter.unusedSectionVars false

/-! The call and the other tasks that end at 'Rel'. -/

/-- what a value refers to is there. -/
def VOK (i : IS) (v : PV) : Prop := (v.T = 5 → v.N < i.clos.length) ∧ (v.T = 7 → v.N < i.ths.length) ∧ (v.T = 6 → 1 ≤ v.N ∧ v.N ≤ 11) ∧ (v.T = 4 → v.N < i.tabs.length) ∧ (v.T = 2 → v.S = [])
theorem VOK.nil (i : IS) : VOK i vNil := by refine ⟨?_, ?_, ?_, ?_, ?_⟩ <;> intro h <;> cases h
theorem VOK.getD {i : IS} {l : List PV} (h : ∀ v ∈ l, VOK i v) (n : Nat) : VOK i (l.getD n vNil) := by
  rw [List.getD_eq_getElem?_getD]
  cases hn : l[n]? with
  | none => exact VOK.nil i
  | some v => exact h v (List.mem_of_getElem? hn)

section
variable {G : Arena} {root : Nat} {Ps : List Proto} {Fs : Nat → FI} {i : IS} {a : AS} {ρ : List Nat} {x : ITh} {y : ATh} {f : AFr} {fs : List AFr} {T : List Tk} {V : List PV}

theorem fin_rel {s : IS} {t : AS} (h1 : s.fuel = t.fuel) (h2 : s.first = t.first) (h3 : s.out = t.out) (e : Nat) (tl : Str) : Rel G root Ps Fs (ifin e tl s) (afin e tl t) := by
  right
  refine ⟨rfl, rfl, ?_⟩
  show Ans.mk _ _ _ _ _ = Ans.mk _ _ _ _ _
  rw [h1, h2, h3]

theorem Wt.apply (W : Wt G root Ps Fs i a ρ x y f fs T V) {zs : List PV} {fn : PV} (hf : VOK i fn) (hz : ∀ v ∈ zs, VOK i v) : Rel G root Ps Fs (iapply1 G root zs fn (mkI i x T V)) (acall1 Ps zs fn (mkA a y fs f a.vars)) := by
  have h0 := VOK.getD hz 0
  have h1 := VOK.getD hz 1
  unfold iapply1 acall1
  rw [mkI_th W.S.curlt, mk_th W.hac]
  generalize hA : zs.getD 0 vNil = A at *
  generalize hB : zs.getD 1 vNil = B at *
  have hdp : x.depth = fs.length + 1 := W.dp
  simp only [hdp, List.length_cons, decide_eq_true_eq]
  by_cases c5 : fn.T = 5
  · rw [if_pos c5, if_pos c5]
    by_cases cd : 8 ≤ fs.length + 1
    · rw [if_pos cd, if_pos cd]; exact W.throw _
    · rw [if_neg cd, if_neg cd]; exact W.enter (p := 0) (hf.1 c5) zs (by omega)
  rw [if_neg c5, if_neg c5]
  by_cases c6 : fn.T ≠ 6
  · rw [if_pos c6, if_pos c6]; exact W.throw _
  have c6 : fn.T = 6 := Decidable.not_not.1 c6
  rw [if_neg (show ¬ (fn.T ≠ 6) from fun h => h c6), if_neg (show ¬ (fn.T ≠ 6) from fun h => h c6)]
  have hr := hf.2.2.1 c6
  by_cases b1 : fn.N = 1
  · rw [if_pos b1, if_pos b1]
    have ho : (mkI i x T V).out = a.out := W.S.out
    have ho' : (mkA a y fs f a.vars).out = a.out := rfl
    rw [ho, ho']
    by_cases co : 200 < a.out.length + (txV A).length + 1
    · rw [if_pos co, if_pos co]; exact fin_rel (s := mkI i x T V) (t := mkA a y fs f a.vars) W.S.fuel W.S.first W.S.out _ _
    · rw [if_neg co, if_neg co]
      have := (W.flds i.fuel i.first (a.out ++ txV A ++ [10])).two vNil vNil
      have e : ({ a with fuel := i.fuel, first := i.first, out := a.out ++ txV A ++ [10] } : AS) = { a with out := a.out ++ txV A ++ [10] } := by rw [W.S.fuel, W.S.first]
      rw [e] at this
      exact this
  rw [if_neg b1, if_neg b1]
  by_cases b2 : fn.N = 2
  · rw [if_pos b2, if_pos b2]; exact W.two _ _
  rw [if_neg b2, if_neg b2]
  by_cases b3 : fn.N = 3
  · rw [if_pos b3, if_pos b3]; exact W.two _ _
  rw [if_neg b3, if_neg b3]
  by_cases b4 : fn.N = 4
  · rw [if_pos b4, if_pos b4]; exact W.two _ _
  rw [if_neg b4, if_neg b4]
  by_cases b5 : fn.N = 5
  · rw [if_pos b5, if_pos b5]; exact W.throw _
  rw [if_neg b5, if_neg b5]
  by_cases b6 : fn.N = 6
  · rw [if_pos b6, if_pos b6]
    by_cases d1 : A.T = 5
    · rw [if_neg (show ¬ (A.T ≠ 5) from fun h => h d1), if_neg (show ¬ (A.T ≠ 5) from fun h => h d1)]
      by_cases cd : 8 ≤ fs.length + 1
      · rw [if_pos cd, if_pos cd]; exact W.two _ _
      · rw [if_neg cd, if_neg cd]; exact W.enter (p := 1) (h0.1 d1) [B] (by omega)
    · rw [if_pos d1, if_pos d1]; exact W.two _ _
  rw [if_neg b6, if_neg b6]
  by_cases b7 : fn.N = 7
  · rw [if_pos b7, if_pos b7]
    by_cases d1 : A.T = 4
    · rw [if_neg (show ¬ (A.T ≠ 4) from fun h => h d1), if_neg (show ¬ (A.T ≠ 4) from fun h => h d1)]
      have ht : (mkI i x T V).tabs = a.tabs := W.S.tabs
      have ht' : (mkA a y fs f a.vars).tabs = a.tabs := rfl
      rw [ht, ht']
      cases tNext (a.tabs.getD A.N []) B with
      | none => exact W.throw _
      | some kv => exact W.two _ _
    · rw [if_pos d1, if_pos d1]; exact W.throw _
  rw [if_neg b7, if_neg b7]
  by_cases b8 : fn.N = 8
  · rw [if_pos b8, if_pos b8]
    by_cases d1 : A.T = 5
    · rw [if_neg (show ¬ (A.T ≠ 5) from fun h => h d1), if_neg (show ¬ (A.T ≠ 5) from fun h => h d1)]
      have hl : (mkI i x T V).ths.length = a.ths.length := by show (i.ths.set _ _).length = _; rw [List.length_set]; exact W.S.tlen
      have hl' : (mkA a y fs f a.vars).ths.length = a.ths.length := by show (a.ths.set _ _).length = _; rw [List.length_set]
      rw [hl, hl']
      by_cases cd : 5 ≤ a.ths.length
      · rw [if_pos cd, if_pos cd]; exact fin_rel (s := mkI i x T V) (t := mkA a y fs f a.vars) W.S.fuel W.S.first W.S.out _ _
      · rw [if_neg cd, if_neg cd]
        have h := (W.create (h0.1 d1)).two (vCo a.ths.length) vNil
        have e1 : mkI { i with ths := i.ths ++ [⟨1, A.N, 0, [], []⟩] } x T V = { mkI i x T V with ths := (mkI i x T V).ths ++ [⟨1, A.N, 0, [], []⟩] } := by
          unfold mkI
          simp only [set_app_left _ _ W.S.curlt]
        have e2 : mkA { a with ths := a.ths ++ [⟨1, A.N, []⟩] } y fs f a.vars = { mkA a y fs f a.vars with ths := (mkA a y fs f a.vars).ths ++ [⟨1, A.N, []⟩] } := by
          unfold mkA
          simp only [set_app_left _ _ W.hac]
        have h' : Rel G root Ps Fs (ipush vNil (ipush (vCo a.ths.length) (mkI { i with ths := i.ths ++ [⟨1, A.N, 0, [], []⟩] } x T V))) (apush2 (vCo a.ths.length) vNil (mkA { a with ths := a.ths ++ [⟨1, A.N, []⟩] } y fs f a.vars)) := h
        rw [e1, e2] at h'
        exact h'
    · rw [if_pos d1, if_pos d1]; exact W.throw _
  rw [if_neg b8, if_neg b8]
  have hths : ∀ c, c < i.ths.length → ((mkI i x T V).ths.getD c ITh.zero).st = ((mkA a y fs f a.vars).ths.getD c ATh.zero).st ∧ ((mkI i x T V).ths.getD c ITh.zero).st = (i.ths.getD c ITh.zero).st := by
    intro c hc
    have hca : c < a.ths.length := by rw [← W.S.tlen]; exact hc
    by_cases hcc : i.cur = c
    · subst hcc
      have hac := W.hac
      rw [← W.S.cur] at hac
      have e1 : (mkI i x T V).ths.getD i.cur ITh.zero = { x with tasks := T, vals := V } := getD_of (by show (i.ths.set i.cur _)[i.cur]? = _; exact List.getElem?_set_self hc)
      have e2 : (mkA a y fs f a.vars).ths.getD i.cur ATh.zero = { y with frs := f :: fs } := getD_of (by show (a.ths.set a.cur _)[i.cur]? = _; rw [← W.S.cur]; exact List.getElem?_set_self hac)
      rw [e1, e2, getD_of W.hx]
      exact ⟨by show x.st = y.st; rw [W.st, W.sy], rfl⟩
    · have e1 : (mkI i x T V).ths.getD c ITh.zero = i.ths.getD c ITh.zero := by
        simp only [List.getD_eq_getElem?_getD]; congr 1; show (i.ths.set i.cur _)[c]? = _; exact List.getElem?_set_ne hcc
      have e2 : (mkA a y fs f a.vars).ths.getD c ATh.zero = a.ths.getD c ATh.zero := by
        simp only [List.getD_eq_getElem?_getD]; congr 1; show (a.ths.set a.cur _)[c]? = _; exact List.getElem?_set_ne (by rw [← W.S.cur]; exact hcc)
      rw [e1, e2]
      refine ⟨?_, rfl⟩
      rw [getD_of (List.getElem?_eq_getElem hc), getD_of (List.getElem?_eq_getElem hca)]
      exact (W.S.ths c _ _ (List.getElem?_eq_getElem hc) (List.getElem?_eq_getElem hca)).st
  by_cases b9 : fn.N = 9
  · rw [if_pos b9, if_pos b9]
    by_cases d1 : A.T = 7
    · rw [if_neg (show ¬ (A.T ≠ 7) from fun h => h d1), if_neg (show ¬ (A.T ≠ 7) from fun h => h d1)]
      have hc := h0.2.1 d1
      obtain ⟨q1, q2⟩ := hths _ hc
      rw [← q1, q2]
      by_cases cd : (i.ths.getD A.N ITh.zero).st ≠ 1 ∧ (i.ths.getD A.N ITh.zero).st ≠ 2
      · rw [if_pos cd, if_pos cd]; exact W.two _ _
      · rw [if_neg cd, if_neg cd]
        exact W.resume hc (by omega) A B rfl
    · rw [if_pos d1, if_pos d1]; exact W.throw _
  rw [if_neg b9, if_neg b9]
  by_cases b10 : fn.N = 10
  · rw [if_pos b10, if_pos b10]
    have hcu : (mkI i x T V).cur = a.cur := W.S.cur
    have hcu' : (mkA a y fs f a.vars).cur = a.cur := rfl
    rw [hcu, hcu']
    by_cases d0 : a.cur = 0
    · rw [if_pos d0, if_pos d0]; exact W.throw _
    · rw [if_neg d0, if_neg d0]
      have hbot := W.S.bot
      cases hs : i.stack with
      | nil => rw [hs] at hbot; simp [W.S.cur] at hbot; exact absurd hbot d0
      | cons c r =>
        have := W.yield hs (vBool true) A
        rw [mkI_th W.S.curlt, mkI_setT W.S.curlt, mk_th W.hac, mk_setT W.hac] at this
        have hsa : a.stack = c :: r := by rw [← W.S.stack]; exact hs
        simp only [mkI_setT W.S.curlt, mk_setT W.hac, hs, hsa]
        simp only [hs, hsa, hdp] at this
        exact this
  rw [if_neg b10, if_neg b10]
  have b11 : fn.N = 11 := by omega
  rw [if_pos b11, if_pos b11]
  by_cases d1 : A.T = 7
  · rw [if_neg (show ¬ (A.T ≠ 7) from fun h => h d1), if_neg (show ¬ (A.T ≠ 7) from fun h => h d1)]
    obtain ⟨q1, q2⟩ := hths _ (h0.2.1 d1)
    rw [← q1]
    exact W.two _ _
  · rw [if_pos d1, if_pos d1]; exact W.throw _
end

section
variable {G : Arena} {root : Nat} {Ps : List Proto} {Fs : Nat → FI} {i : IS} {a : AS} {ρ : List Nat} {x : ITh} {y : ATh} {f : AFr} {fs : List AFr} {seg ts : List Tk} {vs vals : List PV} {p j : Nat} {ids : List Nat} {od : List (Str × Nat)} {L : List Str} {hid : List Nat} {lc : List (Nat × Nat)} {fl : List (Nat × Nat)}

/-- a frame in hand that comes to wait: its operands l, its place pc'. -/
theorem Hd.wait {t : Tk} (H : Hd G root Ps Fs i a ρ x y f fs (t :: seg) ts vs vals p j ids od L hid fl) {l : List PV} {pc' : Nat} (hK : KK G Ps Fs i ρ f od vals j false pc' seg (l.length + 2) L hid lc fl) (hl : l.length + 2 ≤ 128) (hop : OpSame fl f.ops l) :
    Wt G root Ps Fs i a ρ x y { f with ops := l, pc := pc' } fs (seg ++ ⟨3, p, vals.length, 0⟩ :: ts) ((l ++ hvs a.vars f.slots hid) ++ vals) :=
  ⟨H.S.toSim0, H.V.hx, H.V.hy, H.V.st, H.V.fn, H.V.dp, .cons ⟨j, ids, od, L, hid, lc, fl, H.hk, H.U, hK, H.D.re hop, hl⟩ H.V.fl H.V.pr H.V.p1 H.V.p0 (nr_tl H.V.nr), by rw [H.V.hf]; simp [frSl]⟩

theorem Hd.call {n z e m : Nat} (H : Hd G root Ps Fs i a ρ x y f fs (⟨22, n, z, e⟩ :: seg) ts vs vals p j ids od L hid fl) (hc : cod Ps j f.pc = some (26, z)) (hz : z ≤ 3) (hm : f.ops.length = m + z + 1) (hm2 : m + 2 ≤ 128) (hop : OpLt m fl) (hK : KK G Ps Fs i ρ f od vals j false (f.pc + 1) seg (m + 2) L hid lc fl) (hv : ∀ v ∈ f.ops, VOK i v) : Adv G root Ps Fs i a := by
  have hs : Snd Ps (mkA a y fs f a.vars) 26 z := snd_mk H.hac H.S.da H.hk hc (rng26 hz) (by simp [needO]; omega) H.o (fun h => by simp [growsO] at h) (by omega)
  rw [H.ai] at hs
  refine ⟨0, _, .one hs, ?_⟩
  rw [stepN_one H.S.di, H.is]
  have hstep : astep Ps a = acall Ps z a := by
    have h1' : (Ps.getD j Proto.zero).code[f.pc]? = some (26, z) := hc
    have hp := mk_pro2 (y := y) (fs := fs) (vars := a.vars) H.hk
    have hfr : a.fr = f := by rw [← H.ai]; exact mk_fr H.hac
    rw [H.ai] at hp
    unfold astep
    simp only [hfr, hp, h1']
    rfl
  rw [hstep]
  show Rel G root Ps Fs (iapply G root z (mkI i x (seg ++ ⟨3, p, vals.length, 0⟩ :: ts) (vs ++ vals))) _
  unfold iapply acall
  have hf1 : (mkI i x (seg ++ ⟨3, p, vals.length, 0⟩ :: ts) (vs ++ vals)).fuel = a.fuel := H.S.fuel
  rw [hf1]
  by_cases h0 : a.fuel = 0
  · rw [if_pos h0, if_pos h0]
    exact fin_rel (s := mkI i x (seg ++ ⟨3, p, vals.length, 0⟩ :: ts) (vs ++ vals)) (t := a) H.S.fuel H.S.first H.S.out _ _
  · rw [if_neg h0, if_neg h0]
    have hfr : a.fr = f := by rw [← H.ai]; exact mk_fr H.hac
    have hvv : vs ++ vals = f.ops ++ (hvs a.vars f.slots hid ++ vals) := by rw [H.vv, List.append_assoc]
    rw [mkI_th H.hic, hfr, mkI_top H.hic]
    simp only [hvv]
    have e1 : (f.ops ++ (hvs a.vars f.slots hid ++ vals)).take z = f.ops.take z := by rw [List.take_append_of_le_length (by omega)]
    have e2 : (f.ops ++ (hvs a.vars f.slots hid ++ vals)).getD z vNil = f.ops.getD z vNil := by simp only [List.getD_eq_getElem?_getD]; rw [List.getElem?_append_left (by omega)]
    have e3 : (f.ops ++ (hvs a.vars f.slots hid ++ vals)).drop (z + 1) = (f.ops.drop (z + 1) ++ hvs a.vars f.slots hid) ++ vals := by rw [List.drop_append_of_le_length (by omega), List.append_assoc]
    rw [e1, e2]
    have eI : idrop (z + 1) { mkI i x (seg ++ ⟨3, p, vals.length, 0⟩ :: ts) (f.ops ++ (hvs a.vars f.slots hid ++ vals)) with fuel := a.fuel - 1 } = mkI { i with fuel := a.fuel - 1 } x (seg ++ ⟨3, p, vals.length, 0⟩ :: ts) ((f.ops.drop (z + 1) ++ hvs a.vars f.slots hid) ++ vals) := by
      have := mkI_drop (i := { i with fuel := a.fuel - 1 }) (x := x) (T := seg ++ ⟨3, p, vals.length, 0⟩ :: ts) (V := f.ops ++ (hvs a.vars f.slots hid ++ vals)) H.hic (z + 1)
      rw [e3] at this
      exact this
    have eA : apc (f.pc + 1) (aops (f.ops.drop (z + 1)) { a with fuel := a.fuel - 1 }) = mkA { a with fuel := a.fuel - 1 } y fs { f with ops := f.ops.drop (z + 1), pc := f.pc + 1 } a.vars := by
      have h1 : mkA { a with fuel := a.fuel - 1 } y fs f a.vars = { a with fuel := a.fuel - 1 } := mk_self (a := { a with fuel := a.fuel - 1 }) H.V.hy H.V.hf
      have h2 := mk_ops (a := { a with fuel := a.fuel - 1 }) (y := y) (fs := fs) (f := f) (vars := a.vars) H.hac (f.ops.drop (z + 1))
      rw [h1] at h2
      rw [h2]
      exact mk_pc (a := { a with fuel := a.fuel - 1 }) H.hac _
    rw [eI, eA]
    have hlen : (f.ops.drop (z + 1)).length = m := by rw [List.length_drop]; omega
    have W := (H.wait (lc := lc) (l := f.ops.drop (z + 1)) (pc' := f.pc + 1) (by rw [hlen]; exact hK) (by rw [hlen]; exact hm2) (by have := OpSame.of (l := f.ops.drop (z + 1)) (by rw [hlen]; exact hop) (f.ops.take (z + 1)) []; rwa [List.take_append_drop] at this)).flds (a.fuel - 1) a.first a.out
    have e4 : ({ i with fuel := a.fuel - 1, first := a.first, out := a.out } : IS) = { i with fuel := a.fuel - 1 } := by rw [← H.S.first, ← H.S.out]
    rw [e4] at W
    exact W.apply (VOK.getD hv z) (fun v h => hv v (List.mem_of_mem_take (List.mem_reverse.1 h)))
end

end Go.Proofs.Qxb6500568aGreatDoor
