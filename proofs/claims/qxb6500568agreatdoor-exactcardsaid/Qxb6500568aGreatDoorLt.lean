import Derived.Test.Qxb6500568aGreatDoorLs
namespace Go.Proofs.Qxb6500568aGreatDoor
open Ieee
set_option linter.unusedVariables false
set_option linter.unusedSimpArgs false
set_option linter.unusedSectionVars false

/-! The evaluation of an expression; calls' arguments; stores. -/

section
variable {G : Arena} {root : Nat} {Ps : List Proto} {Fs : Nat → FI} {i : IS} {a : AS} {ρ : List Nat} {x : ITh} {y : ATh} {f : AFr} {fs : List AFr} {seg ts : List Tk} {vs vals : List PV} {p j : Nat} {ids : List Nat} {od : List (Str × Nat)} {L : List Str} {hid : List Nat} {lc : List (Nat × Nat)} {fl : List (Nat × Nat)} {t : Tk}

theorem IsE.ne {G : Arena} {n : Nat} {e : Ex} (h : IsE G n e) : n ≠ 0 := by
  rcases h.inv with ⟨_, rfl⟩ | ⟨_, rfl⟩ | ⟨_, rfl⟩ | ⟨_, rfl⟩ | ⟨_, _, rfl⟩ | ⟨_, _, rfl⟩ | ⟨_, _, _, rfl⟩ | ⟨_, rfl⟩ | ⟨_, _, _, rfl⟩ | ⟨_, _, rfl⟩ | ⟨_, _, rfl⟩ | ⟨_, _, rfl⟩
  all_goals exact (And.right h).1
theorem args_K {B : Nat → List (Str × Nat) → Prop} {sl : List Nat} {hb e : Nat} : ∀ {k : Nat} {zs : ExL} {n pc b m : Nat} {rest : List Tk}, IsEL G n zs → lenE zs ≤ k → CA Ps Fs j L zs pc b → m + dA zs ≤ 128 → B e (Dy sl od L) → OpLt m fl → K G Ps Fs B sl od hb j false b rest (m + lenE zs) L hid lc fl →
    (iargs G k n).length = lenE zs ∧ K G Ps Fs B sl od hb j false pc ((iargs G k n).map (fun q => (⟨2, q, 0, e⟩ : Tk)) ++ rest) m L hid lc fl
  | 0, zs, n, pc, b, m, rest, hE, hk, hC, hd, hB, ho, hK => by
    rcases hE.inv with rfl | ⟨ex, l, rfl⟩
    · have hE := IsEL_nil.1 hE
      have hC := CA_nil.1 hC
      subst hE; subst hC
      exact ⟨rfl, hK⟩
    · rw [lenE_cons] at hk; omega
  | k + 1, zs, n, pc, b, m, rest, hE, hk, hC, hd, hB, ho, hK => by
    rcases hE.inv with rfl | ⟨ex, l, rfl⟩
    · have hE := IsEL_nil.1 hE
      have hC := CA_nil.1 hC
      subst hE; subst hC
      exact ⟨rfl, hK⟩
    · have hE := IsEL_cons.1 hE
      obtain ⟨q, h1, h2⟩ := CA_cons.1 hC
      rw [dA_cons] at hd
      rw [lenE_cons] at hk hK ⊢
      obtain ⟨r1, r2⟩ := args_K (rest := rest) (k := k) (m := m + 1) hE.2.2 (by omega) h2 (by omega) hB (ho.le (by omega)) (by rw [show m + 1 + lenE l = m + (lenE l + 1) by omega]; exact hK)
      simp only [iargs, if_neg hE.1]
      exact ⟨by simp [r1], .set (.evl hE.2.1 hB h1 (by omega) ho r2)⟩

theorem foldr_do (hic : i.cur < i.ths.length) (e : Nat) (V : List PV) : ∀ (l : List Nat) (T : List Tk), l.foldr (fun q s => ido 2 q 0 e s) (mkI i x T V) = mkI i x (l.map (fun q => (⟨2, q, 0, e⟩ : Tk)) ++ T) V
  | [], T => rfl
  | q :: l, T => by
    rw [List.foldr_cons, foldr_do hic e V l T, mkI_do hic]
    rfl
theorem mkI_call (hic : i.cur < i.ths.length) (n e : Nat) (T : List Tk) (V : List PV) : icall G n e (mkI i x T V) = mkI i x (⟨2, (nd G n).A, 0, e⟩ :: ((iargs G 3 (nd G n).B).map (fun q => (⟨2, q, 0, e⟩ : Tk)) ++ ⟨22, n, (iargs G 3 (nd G n).B).length, e⟩ :: T)) V := by
  unfold icall
  simp only [mkI_do hic, foldr_do hic]
/-- a call's tasks. -/
theorem call_K {B : Nat → List (Str × Nat) → Prop} {sl : List Nat} {hb n e pc q b m : Nat} {g : Ex} {zs : ExL} {rest : List Tk} (h1 : IsE G (nd G n).A g) (h2 : IsEL G (nd G n).B zs) (hB : B e (Dy sl od L)) (c1 : CE Ps Fs j L g pc q) (c2 : CA Ps Fs j L zs q b) (c3 : cod Ps j b = some (26, lenE zs)) (h3 : lenE zs ≤ 3) (hd : m + max 2 (max (dE g) (1 + dA zs)) ≤ 128) (ho : OpLt m fl)
    (hK : K G Ps Fs B sl od hb j false (b + 1) rest (m + 2) L hid lc fl) :
    K G Ps Fs B sl od hb j false pc (⟨2, (nd G n).A, 0, e⟩ :: ((iargs G 3 (nd G n).B).map (fun q => (⟨2, q, 0, e⟩ : Tk)) ++ ⟨22, n, (iargs G 3 (nd G n).B).length, e⟩ :: rest)) m L hid lc fl := by
  have hl : (iargs G 3 (nd G n).B).length = lenE zs := by
    clear hK c1 c3 hd h1
    have : ∀ (k : Nat) (zs : ExL) (n : Nat), IsEL G n zs → lenE zs ≤ k → (iargs G k n).length = lenE zs := by
      intro k
      induction k with
      | zero =>
        intro zs n h hk
        rcases h.inv with rfl | ⟨e, l, rfl⟩
        · rfl
        · rw [lenE_cons] at hk; omega
      | succ k ih =>
        intro zs n h hk
        rcases h.inv with rfl | ⟨e, l, rfl⟩
        · have h := IsEL_nil.1 h; subst h; rfl
        · have h := IsEL_cons.1 h
          rw [lenE_cons] at hk ⊢
          simp only [iargs, if_neg h.1, List.length_cons]
          rw [ih _ _ h.2.2 (by omega)]
    exact this 3 zs _ h2 h3
  rw [hl]
  refine .set (.evl h1 hB c1 (by omega) ho ?_)
  refine (args_K h2 h3 c2 (by omega) hB (ho.le (by omega)) ?_).2
  rw [show m + 1 + lenE zs = m + lenE zs + 1 by omega]
  exact .set (.call c3 h3 (by omega) ho hK)

theorem nr_call {n e : Nat} {l : List Nat} {rest : List Tk} {q z : Nat} (h : ∀ t ∈ rest, t.k ≠ 3) : ∀ t ∈ (⟨2, q, 0, e⟩ :: (l.map (fun q => (⟨2, q, 0, e⟩ : Tk)) ++ ⟨22, n, z, e⟩ :: rest) : List Tk), t.k ≠ 3 := by
  intro t ht
  rcases List.mem_cons.1 ht with rfl | ht
  · show 2 ≠ 3; decide
  rcases List.mem_append.1 ht with ht | ht
  · obtain ⟨q, -, rfl⟩ := List.mem_map.1 ht; show 2 ≠ 3; decide
  · rcases List.mem_cons.1 ht with rfl | ht
    · show 22 ≠ 3; decide
    · exact h t ht
theorem nr_cons {rest : List Tk} {t0 : Tk} (h0 : t0.k ≠ 3) (h : ∀ t ∈ rest, t.k ≠ 3) : ∀ t ∈ t0 :: rest, t.k ≠ 3 := fun t ht => by
  rcases List.mem_cons.1 ht with rfl | ht
  · exact h0
  · exact h t ht

theorem Hd.evl {n e b : Nat} {ex : Ex} (H : Hd G root Ps Fs i a ρ x y f fs (⟨2, n, 0, e⟩ :: seg) ts vs vals p j ids od L hid fl) (hE : IsE G n ex) (hB : Bd i.envs ρ e (Dy f.slots od L)) (hC : CE Ps Fs j L ex f.pc b) (hd : f.ops.length + dE ex ≤ 128) (hop : OpLt f.ops.length fl)
    (hK : KK G Ps Fs i ρ f od vals j false b seg (f.ops.length + 1) L hid lc fl) : Adv G root Ps Fs i a := by
  have hpos := dE_pos ex
  have nr := nr_tl H.V.nr
  have hE0 := hE
  have hC0 := hC
  rcases hE.inv with ⟨k, rfl⟩ | ⟨k, rfl⟩ | ⟨s, rfl⟩ | ⟨s, rfl⟩ | ⟨u, v, rfl⟩ | ⟨g, zs, rfl⟩ | ⟨k, ps, bd, rfl⟩ | ⟨zs, rfl⟩ | ⟨op, u, v, rfl⟩ | ⟨op, u, rfl⟩ | ⟨u, v, rfl⟩ | ⟨u, v, rfl⟩
  · simp only [IsE_lit, IsE_num, IsE_str, IsE_name, IsE_index, IsE_call, IsE_func, IsE_table, IsE_bin, IsE_un, IsE_land, IsE_lor] at hE; simp only [CE_lit, CE_num, CE_str, CE_name, CE_index, CE_call, CE_func, CE_table, CE_bin, CE_un, CE_land, CE_lor] at hC
    obtain ⟨h0, h1, h2⟩ := hE
    obtain ⟨c1, rfl⟩ := hC
    rcases h2 with rfl | rfl | rfl
    · exact H.push (v := vNil) (by simp only [istep1, ieval]; simp [h0, h1, mkI_push H.hic]) (go_push H.hac H.S.da H.hk c1 (.inl ⟨rfl, rfl⟩) (by omega)) (by omega) hop hK
    · exact H.push (v := vBool true) (by simp only [istep1, ieval]; simp [h0, h1, mkI_push H.hic]) (go_push H.hac H.S.da H.hk c1 (.inr (.inl ⟨rfl, rfl⟩)) (by omega)) (by omega) hop hK
    · exact H.push (v := vBool false) (by simp only [istep1, ieval]; simp [h0, h1, mkI_push H.hic]) (go_push H.hac H.S.da H.hk c1 (.inr (.inr (.inl ⟨rfl, rfl⟩))) (by omega)) (by omega) hop hK
  · simp only [IsE_lit, IsE_num, IsE_str, IsE_name, IsE_index, IsE_call, IsE_func, IsE_table, IsE_bin, IsE_un, IsE_land, IsE_lor] at hE; simp only [CE_lit, CE_num, CE_str, CE_name, CE_index, CE_call, CE_func, CE_table, CE_bin, CE_un, CE_land, CE_lor] at hC
    obtain ⟨h0, h1, h2⟩ := hE
    obtain ⟨⟨q, c1, c2⟩, rfl⟩ := hC
    exact H.push (v := vNum k) (by simp only [istep1, ieval]; simp [h0, h1, h2, mkI_push H.hic]) (go_push H.hac H.S.da H.hk c1 (.inr (.inr (.inr ⟨rfl, c2⟩))) (by omega)) (by omega) hop hK
  · simp only [IsE_lit, IsE_num, IsE_str, IsE_name, IsE_index, IsE_call, IsE_func, IsE_table, IsE_bin, IsE_un, IsE_land, IsE_lor] at hE; simp only [CE_lit, CE_num, CE_str, CE_name, CE_index, CE_call, CE_func, CE_table, CE_bin, CE_un, CE_land, CE_lor] at hC
    obtain ⟨h0, h1, h2⟩ := hE
    obtain ⟨⟨q, c1, c2⟩, rfl⟩ := hC
    exact H.push (v := vStr s) (by simp only [istep1, ieval]; simp [h0, h1, h2, mkI_push H.hic]) (go_push H.hac H.S.da H.hk c1 (.inr (.inr (.inr ⟨rfl, c2⟩))) (by omega)) (by omega) hop hK
  · simp only [CE_lit, CE_num, CE_str, CE_name, CE_index, CE_call, CE_func, CE_table, CE_bin, CE_un, CE_land, CE_lor] at hC
    obtain ⟨c1, rfl⟩ := hC
    exact H.name hE hB c1 (by omega) hop hK
  · simp only [IsE_lit, IsE_num, IsE_str, IsE_name, IsE_index, IsE_call, IsE_func, IsE_table, IsE_bin, IsE_un, IsE_land, IsE_lor] at hE; simp only [CE_lit, CE_num, CE_str, CE_name, CE_index, CE_call, CE_func, CE_table, CE_bin, CE_un, CE_land, CE_lor] at hC; simp only [dE_lit, dE_num, dE_str, dE_name, dE_index, dE_call, dE_func, dE_table, dE_bin, dE_un, dE_land, dE_lor] at hd
    obtain ⟨h0, h1, h2, h3⟩ := hE
    obtain ⟨m, q, c1, c2, c3, rfl⟩ := hC
    exact H.same (lc := lc) (seg' := ⟨2, (nd G n).A, 0, e⟩ :: ⟨2, (nd G n).B, 0, e⟩ :: ⟨28, 0, 0, 0⟩ :: seg) (by simp only [istep1, ieval]; simp [h0, h1, mkI_do H.hic]) rfl
      (.set (.evl h2 hB c1 (by omega) hop (.set (.evl h3 hB c2 (by omega) (hop.le (by omega)) (.set (.index c3 hop hK)))))) (nr_cons (by simp) (nr_cons (by simp) (nr_cons (by simp) nr)))
  · simp only [IsE_lit, IsE_num, IsE_str, IsE_name, IsE_index, IsE_call, IsE_func, IsE_table, IsE_bin, IsE_un, IsE_land, IsE_lor] at hE; simp only [CE_lit, CE_num, CE_str, CE_name, CE_index, CE_call, CE_func, CE_table, CE_bin, CE_un, CE_land, CE_lor] at hC; simp only [dE_lit, dE_num, dE_str, dE_name, dE_index, dE_call, dE_func, dE_table, dE_bin, dE_un, dE_land, dE_lor] at hd
    obtain ⟨h0, h1, h2, h3⟩ := hE
    obtain ⟨m, q, c1, c2, c3, c4, c5, rfl⟩ := hC
    exact H.same (lc := lc) (seg' := ⟨2, (nd G n).A, 0, e⟩ :: ((iargs G 3 (nd G n).B).map (fun q => (⟨2, q, 0, e⟩ : Tk)) ++ ⟨22, n, (iargs G 3 (nd G n).B).length, e⟩ :: (⟨5, 0, 0, 0⟩ :: seg))) (by simp only [istep1, ieval]; simp [h0, h1, mkI_do H.hic, mkI_call H.hic]) rfl
      (call_K h2 h3 hB c1 c2 c3 c4 hd hop (.set (.pop c5 hK))) (nr_call (nr_cons (by simp) nr))
  · simp only [CE_lit, CE_num, CE_str, CE_name, CE_index, CE_call, CE_func, CE_table, CE_bin, CE_un, CE_land, CE_lor] at hC
    obtain ⟨c1, rfl, c2⟩ := hC
    exact H.clos hE hB c1 c2 (by omega) hop hK
  · exact H.table hE hB hC hd hop hK
  · simp only [IsE_lit, IsE_num, IsE_str, IsE_name, IsE_index, IsE_call, IsE_func, IsE_table, IsE_bin, IsE_un, IsE_land, IsE_lor] at hE; simp only [CE_lit, CE_num, CE_str, CE_name, CE_index, CE_call, CE_func, CE_table, CE_bin, CE_un, CE_land, CE_lor] at hC; simp only [dE_lit, dE_num, dE_str, dE_name, dE_index, dE_call, dE_func, dE_table, dE_bin, dE_un, dE_land, dE_lor] at hd
    obtain ⟨h0, h1, h2, h3, h4⟩ := hE
    obtain ⟨m, q, c1, c2, c3, rfl, c4⟩ := hC
    exact H.same (lc := lc) (seg' := ⟨2, (nd G n).A, 0, e⟩ :: ⟨2, (nd G n).B, 0, e⟩ :: ⟨24, n, 0, 0⟩ :: seg) (by simp only [istep1, ieval]; simp [h0, h1, mkI_do H.hic]) rfl
      (.set (.evl h3 hB c1 (by omega) hop (.set (.evl h4 hB c2 (by omega) (hop.le (by omega)) (.set (.bin (by rw [h2]; exact c3) (by rw [h2]; exact c4) hop hK)))))) (nr_cons (by simp) (nr_cons (by simp) (nr_cons (by simp) nr)))
  · simp only [IsE_lit, IsE_num, IsE_str, IsE_name, IsE_index, IsE_call, IsE_func, IsE_table, IsE_bin, IsE_un, IsE_land, IsE_lor] at hE; simp only [CE_lit, CE_num, CE_str, CE_name, CE_index, CE_call, CE_func, CE_table, CE_bin, CE_un, CE_land, CE_lor] at hC; simp only [dE_lit, dE_num, dE_str, dE_name, dE_index, dE_call, dE_func, dE_table, dE_bin, dE_un, dE_land, dE_lor] at hd
    obtain ⟨h0, h1, h2, h3⟩ := hE
    obtain ⟨m, c1, c2, rfl, c3, c4⟩ := hC
    exact H.same (lc := lc) (seg' := ⟨2, (nd G n).A, 0, e⟩ :: ⟨25, n, 0, 0⟩ :: seg) (by simp only [istep1, ieval]; simp [h0, h1, mkI_do H.hic]) rfl
      (.set (.evl h3 hB c1 (by omega) hop (.set (.un (by rw [h2]; exact c2) (by rw [h2]; exact c3) (by rw [h2]; exact c4) hop hK)))) (nr_cons (by simp) (nr_cons (by simp) nr))
  · simp only [IsE_lit, IsE_num, IsE_str, IsE_name, IsE_index, IsE_call, IsE_func, IsE_table, IsE_bin, IsE_un, IsE_land, IsE_lor] at hE; simp only [CE_lit, CE_num, CE_str, CE_name, CE_index, CE_call, CE_func, CE_table, CE_bin, CE_un, CE_land, CE_lor] at hC; simp only [dE_lit, dE_num, dE_str, dE_name, dE_index, dE_call, dE_func, dE_table, dE_bin, dE_un, dE_land, dE_lor] at hd
    obtain ⟨h0, h1, h2, h3⟩ := hE
    obtain ⟨m, c1, c2, c3, c4⟩ := hC
    exact H.same (lc := lc) (seg' := ⟨2, (nd G n).A, 0, e⟩ :: ⟨26, n, 0, e⟩ :: seg) (by simp only [istep1, ieval]; simp [h0, h1, mkI_do H.hic]) rfl
      (.set (.evl h2 hB c1 (by omega) hop (.set (.land h3 hB c2 c3 c4 (by omega) hop hK)))) (nr_cons (by simp) (nr_cons (by simp) nr))
  · simp only [IsE_lit, IsE_num, IsE_str, IsE_name, IsE_index, IsE_call, IsE_func, IsE_table, IsE_bin, IsE_un, IsE_land, IsE_lor] at hE; simp only [CE_lit, CE_num, CE_str, CE_name, CE_index, CE_call, CE_func, CE_table, CE_bin, CE_un, CE_land, CE_lor] at hC; simp only [dE_lit, dE_num, dE_str, dE_name, dE_index, dE_call, dE_func, dE_table, dE_bin, dE_un, dE_land, dE_lor] at hd
    obtain ⟨h0, h1, h2, h3⟩ := hE
    obtain ⟨m, c1, c2, c3, c4⟩ := hC
    exact H.same (lc := lc) (seg' := ⟨2, (nd G n).A, 0, e⟩ :: ⟨27, n, 0, e⟩ :: seg) (by simp only [istep1, ieval]; simp [h0, h1, mkI_do H.hic]) rfl
      (.set (.evl h2 hB c1 (by omega) hop (.set (.lor h3 hB c2 c3 c4 (by omega) hop hK)))) (nr_cons (by simp) (nr_cons (by simp) nr))

/-! stores -/

/-- what a store leaves. -/
def stA (a : AS) (y : ATh) (fs : List AFr) (f : AFr) (t k v : PV) (l : List PV) : AS :=
  if t.T ≠ 4 then araise mIndex a else
  let r := tSet (a.tabs.getD t.N []) k v
  if r.1 = 8 then afin 8 [45] a else if r.1 ≠ 0 then araise mKey a else { mkA a y fs { f with ops := l, pc := f.pc + 1 } a.vars with tabs := a.tabs.set t.N r.2 }
theorem Hd.store (H : Hd G root Ps Fs i a ρ x y f fs (t :: seg) ts vs vals p j ids od L hid fl) {op z : Nat} {tv k v : PV} {d l : List PV} (ho : f.ops = d ++ l) (hs : Snd Ps a op z)
    (hI : istep1 G root t i (mkI i x (seg ++ ⟨3, p, vals.length, 0⟩ :: ts) (vs ++ vals)) = iset tv k v (mkI i x (seg ++ ⟨3, p, vals.length, 0⟩ :: ts) ((l ++ hvs a.vars f.slots hid) ++ vals)))
    (hA : astep Ps a = stA a y fs f tv k v l) (hl : l.length ≤ 128) (hop : OpLt l.length fl) (hK : KK G Ps Fs i ρ f od vals j false (f.pc + 1) seg l.length L hid lc fl) : Adv G root Ps Fs i a := by
  refine ⟨0, astep Ps a, .one hs, ?_⟩
  rw [stepN_one H.S.di, H.is, hI, hA]
  unfold iset stA
  have ht : (mkI i x (seg ++ ⟨3, p, vals.length, 0⟩ :: ts) ((l ++ hvs a.vars f.slots hid) ++ vals)).tabs = a.tabs := H.S.tabs
  rw [ht]
  by_cases c4 : tv.T ≠ 4
  · rw [if_pos c4, if_pos c4]; exact H.throw0 (nr_tl H.V.nr) _
  · rw [if_neg c4, if_neg c4]
    simp only
    by_cases c8 : (tSet (a.tabs.getD tv.N []) k v).1 = 8
    · rw [if_pos c8, if_pos c8]
      exact fin_rel (s := mkI i x (seg ++ ⟨3, p, vals.length, 0⟩ :: ts) ((l ++ hvs a.vars f.slots hid) ++ vals)) (t := a) H.S.fuel H.S.first H.S.out _ _
    · rw [if_neg c8, if_neg c8]
      by_cases c0 : (tSet (a.tabs.getD tv.N []) k v).1 ≠ 0
      · rw [if_pos c0, if_pos c0]; exact H.throw0 (nr_tl H.V.nr) _
      · rw [if_neg c0, if_neg c0]
        left
        have H' := H.re (ops' := l) (pc' := f.pc + 1) (seg' := seg) hK (H.D.re (by rw [ho]; exact OpSame.of hop d [])) hl (nr_tl H.V.nr)
        exact ⟨ρ, H'.S.tabsE (TabExt.set k v)⟩
theorem Hd.stk (H : Hd G root Ps Fs i a ρ x y f fs seg ts vs vals p j ids od L hid fl) (tv k v : PV) (l : List PV) :
    (if tv.T ≠ 4 then araise mIndex (mkA a y fs f a.vars) else if (tSet (a.tabs.getD tv.N []) k v).1 = 8 then afin 8 [45] (mkA a y fs f a.vars) else if (tSet (a.tabs.getD tv.N []) k v).1 ≠ 0 then araise mKey (mkA a y fs f a.vars)
      else apc (({ mkA a y fs f a.vars with tabs := a.tabs.set tv.N (tSet (a.tabs.getD tv.N []) k v).2 } : AS).fr.pc + 1) (aops l { mkA a y fs f a.vars with tabs := a.tabs.set tv.N (tSet (a.tabs.getD tv.N []) k v).2 })) = stA a y fs f tv k v l := by
  unfold stA
  simp only
  have e1 : ({ mkA a y fs f a.vars with tabs := a.tabs.set tv.N (tSet (a.tabs.getD tv.N []) k v).2 } : AS) = mkA { a with tabs := a.tabs.set tv.N (tSet (a.tabs.getD tv.N []) k v).2 } y fs f a.vars := rfl
  rw [e1, mk_fr (a := { a with tabs := a.tabs.set tv.N (tSet (a.tabs.getD tv.N []) k v).2 }) H.hac, mk_ops (a := { a with tabs := a.tabs.set tv.N (tSet (a.tabs.getD tv.N []) k v).2 }) H.hac, mk_pc (a := { a with tabs := a.tabs.set tv.N (tSet (a.tabs.getD tv.N []) k v).2 }) H.hac, H.ai]
  rfl
theorem Hd.storeI {e : Nat} (H : Hd G root Ps Fs i a ρ x y f fs (⟨10, 0, 0, e⟩ :: seg) ts vs vals p j ids od L hid fl) (hc : cod Ps j f.pc = some (12, 0)) (hm : f.ops.length = 3) (hK : KK G Ps Fs i ρ f od vals j false (f.pc + 1) seg 0 L hid lc fl) : Adv G root Ps Fs i a := by
  obtain ⟨u, v, w, ho⟩ := three_ops hm
  refine H.store (op := 12) (z := 0) (tv := w) (k := v) (v := u) (d := [u, v, w]) (l := []) ho (H.sound hc (rng_none (by simp)) (by simp [needO, hm]) (by simp [growsO]) (by simp)) ?_ ?_ (by simp) hK.oplt hK
  · simp only [istep1]
    simp [mkI_top H.hic, mkI_drop H.hic, H.vv, ho]
  · rw [H.plain hc (by omega) (by omega) (by omega) (by omega) (by omega) (by omega), ← H.stk]
    unfold aplain
    simp only [mk_fr H.hac, ho, Nat.reduceEqDiff, if_false, if_true]
    rfl
end

end Go.Proofs.Qxb6500568aGreatDoor
