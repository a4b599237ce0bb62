import Derived.Test.Qxb6500568aGreatDoorLt
namespace Go.Proofs.Qxb6500568aGreatDoor
open Ieee
set_option linter.unusedVariables false
set_option linter.unusedSimpArgs false
set_option linter.unusedSectionVars false

/-! Items, variables stored, variables bound. -/

theorem tSet_num (t : Tb) (k : Nat) (v : PV) : (tSet t (vNum (fInt k)) v).1 = 8 ∨ (tSet t (vNum (fInt k)) v).1 = 0 := by
  unfold tSet
  rw [if_neg (by simp [vNum]), if_neg (by simp only [vNum]; rw [show fInt k = double.nearest false k 0 from rfl, nearest_noNaN]; simp)]
  split
  · exact .inr rfl
  · split
    · exact .inr rfl
    · split
      · exact .inl rfl
      · exact .inr rfl

section
variable {G : Arena} {root : Nat} {Ps : List Proto} {Fs : Nat → FI} {i : IS} {a : AS} {ρ : List Nat} {x : ITh} {y : ATh} {f : AFr} {fs : List AFr} {seg ts : List Tk} {vs vals : List PV} {p j : Nat} {ids : List Nat} {od : List (Str × Nat)} {L : List Str} {hid : List Nat} {lc : List (Nat × Nat)} {fl : List (Nat × Nat)} {t : Tk}

theorem Hd.item {n k e m b : Nat} {l : ExL} (H : Hd G root Ps Fs i a ρ x y f fs (⟨23, n, k, e⟩ :: seg) ts vs vals p j ids od L hid ((m, 2) :: fl)) (hc : cod Ps j f.pc = some (13, k)) (hB : Bd i.envs ρ e (Dy f.slots od L)) (hE : IsEL G (nd G n).Nx l) (hC : CI Ps Fs j L l (k + 1) (f.pc + 1) b) (hd : m + 1 + dI l ≤ 128) (hm : f.ops.length = m + 2) (hop : OpLt m fl)
    (hK : KK G Ps Fs i ρ f od vals j false b seg (m + 1) L hid lc fl) : Adv G root Ps Fs i a := by
  obtain ⟨u, w, r, ho, hrl⟩ := two_ops hm
  have hw : w.T = 4 := by
    have := (H.D.f (m, 2) (by simp)).1
    unfold FlD at this
    rw [if_neg (by simp), if_pos rfl, ho] at this
    obtain ⟨q, hq, hq2⟩ := this
    rw [show u :: w :: r = [u, w] ++ r from rfl, List.reverse_append, List.getElem?_append_right (by simp [hrl])] at hq
    simp [hrl] at hq
    rw [← hq] at hq2; exact hq2
  have hs := H.sound hc (rng_none (by simp)) (by simp [needO, hm]) (by simp [growsO]) (by simp)
  refine ⟨0, astep Ps a, .one hs, ?_⟩
  have hA : astep Ps a = stA a y fs f w (vNum (fInt k)) u (w :: r) := by
    rw [H.plain hc (by omega) (by omega) (by omega) (by omega) (by omega) (by omega), ← H.stk]
    unfold aplain
    simp only [mk_fr H.hac, ho, Nat.reduceEqDiff, if_false, if_true]
    rfl
  have hI : istep1 G root ⟨23, n, k, e⟩ i (mkI i x (seg ++ ⟨3, p, vals.length, 0⟩ :: ts) (vs ++ vals)) = (let s1 := iset w (vNum (fInt k)) u (mkI i x (seg ++ ⟨3, p, vals.length, 0⟩ :: ts) ((w :: r ++ hvs a.vars f.slots hid) ++ vals)); if s1.done then s1 else iitems (nd G n).Nx (k + 1) e s1) := by
    simp only [istep1]
    simp [mkI_top H.hic, mkI_drop H.hic, H.vv, ho]
  rw [stepN_one H.S.di, H.is, hI, hA]
  have ht : (mkI i x (seg ++ ⟨3, p, vals.length, 0⟩ :: ts) ((w :: r ++ hvs a.vars f.slots hid) ++ vals)).tabs = a.tabs := H.S.tabs
  obtain ⟨R, hR⟩ : ∃ R, tSet (a.tabs.getD w.N []) (vNum (fInt k)) u = R := ⟨_, rfl⟩
  have hR2 := tSet_num (a.tabs.getD w.N []) k u
  rw [hR] at hR2
  have hi : iset w (vNum (fInt k)) u (mkI i x (seg ++ ⟨3, p, vals.length, 0⟩ :: ts) ((w :: r ++ hvs a.vars f.slots hid) ++ vals)) = if R.1 = 8 then ifin 8 [45] (mkI i x (seg ++ ⟨3, p, vals.length, 0⟩ :: ts) ((w :: r ++ hvs a.vars f.slots hid) ++ vals)) else mkI { i with tabs := a.tabs.set w.N R.2 } x (seg ++ ⟨3, p, vals.length, 0⟩ :: ts) ((w :: r ++ hvs a.vars f.slots hid) ++ vals) := by
    unfold iset
    rw [ht, if_neg (show ¬ (w.T ≠ 4) from fun h => h hw), hR]
    simp only
    split
    · rfl
    · rename_i h8
      have h0 : R.1 = 0 := by rcases hR2 with h | h; exact absurd h h8; exact h
      rw [if_neg (show ¬ (R.1 ≠ 0) from fun h => h h0)]
      rfl
  have hs2 : stA a y fs f w (vNum (fInt k)) u (w :: r) = if R.1 = 8 then afin 8 [45] a else { mkA a y fs { f with ops := w :: r, pc := f.pc + 1 } a.vars with tabs := a.tabs.set w.N R.2 } := by
    unfold stA
    rw [if_neg (show ¬ (w.T ≠ 4) from fun h => h hw), hR]
    simp only
    split
    · rfl
    · rename_i h8
      have h0 : R.1 = 0 := by rcases hR2 with h | h; exact absurd h h8; exact h
      rw [if_neg (show ¬ (R.1 ≠ 0) from fun h => h h0)]
  rw [hi, hs2]
  by_cases h8 : R.1 = 8
  · rw [if_pos h8, if_pos h8]
    simp only [ifin, if_true]
    exact fin_rel (s := mkI i x (seg ++ ⟨3, p, vals.length, 0⟩ :: ts) ((w :: r ++ hvs a.vars f.slots hid) ++ vals)) (t := a) H.S.fuel H.S.first H.S.out 8 [45]
  · rw [if_neg h8, if_neg h8]
    have hdn : (mkI { i with tabs := a.tabs.set w.N R.2 } x (seg ++ ⟨3, p, vals.length, 0⟩ :: ts) ((w :: r ++ hvs a.vars f.slots hid) ++ vals)).done = false := H.S.di
    simp only
    rw [if_neg (by rw [hdn]; simp), mkI_items (i := { i with tabs := a.tabs.set w.N R.2 }) H.hic, ← List.append_assoc]
    left
    obtain ⟨fl', hf1, hf2, hK'⟩ := items_K (e := e) hE hC (m := m) hd hB hop hK
    have hD : FrD Ps a.vars a.tabs ρ f.slots j L hid fl' (w :: r) ((w :: r) ++ hvs a.vars f.slots hid) := by
      have hre := H.D.re (ops' := w :: r) (by
        have := OpSame.of (fl := (m, 2) :: fl) (l := w :: r) ((hop.le (by simp; omega)).cons (fun _ => by simp; omega)) [u] []
        rw [ho]; exact this)
      by_cases hz : l = .nil
      · rw [hf1 hz]; exact ⟨rfl, fun q hq => hre.f q (by simp [hq]), hre.n, hre.l, hre.r⟩
      · rw [hf2 hz]; exact hre
    have hov := H.o
    have H' := H.re (ops' := w :: r) (pc' := f.pc + 1) (seg' := itT2 (nd G n).Nx (k + 1) e ++ seg) (by rw [List.length_cons, hrl]; exact hK') hD (by simp; omega) (nr_items (nr_tl H.V.nr))
    have S' := H'.S.tabsE (t' := a.tabs.set w.N R.2) (by rw [← hR]; exact TabExt.set _ _)
    exact ⟨ρ, S'⟩

/-- values of hidden slots do not hang on variables that have names. -/
theorem hvs_congr {vars vars' : List PV} {sl : List Nat} {h : List Nat} (hv : ∀ s ∈ h, vars'.getD (sl.getD s 0) vNil = vars.getD (sl.getD s 0) vNil) : hvs vars' sl h = hvs vars sl h := by
  unfold hvs; exact List.map_congr_left hv

/-- a variable that has a name gets a value. -/
theorem Hd.setVar (H : Hd G root Ps Fs i a ρ x y f fs seg ts vs vals p j ids od L hid fl) {k : Nat} {z : Env} (hk : i.envs[k]? = some z) (v : PV) {d l : List PV} (ho : f.ops = d ++ l) {pc' : Nat} {seg' : List Tk} (hl : l.length ≤ 128) (hop : OpLt l.length fl) (hh : HidOK L hid fl) (hK : KK G Ps Fs i ρ f od vals j false pc' seg' l.length L hid lc fl) (nr : ∀ t ∈ seg', t.k ≠ 3) :
    ∃ ρ', Sim G root Ps Fs { mkI i x (seg' ++ ⟨3, p, vals.length, 0⟩ :: ts) ((l ++ hvs a.vars f.slots hid) ++ vals) with envs := i.envs.modify k fun x => { x with v := v } } (mkA a y fs { f with ops := l, pc := pc' } (a.vars.set (ρ.getD k 0) v)) ρ' := by
  have hkl : k < ρ.length := by rw [H.S.rlen]; exact (List.getElem?_eq_some_iff.1 hk).1
  have hmem : ρ.getD k 0 ∈ ρ := rho_mem hkl
  have hL := H.nsl
  have hval : ∀ {s : Nat}, L[s]? = some [] → (a.vars.set (ρ.getD k 0) v).getD (f.slots.getD s 0) vNil = a.vars.getD (f.slots.getD s 0) vNil := fun {s} hs => by
    refine getD_set_ne (fun he => ?_) v
    have hsl : s < f.slots.length := Nat.lt_of_lt_of_le (List.getElem?_eq_some_iff.1 hs).1 hL
    exact H.free hsl (fun nm h => by rw [hs] at h; exact (Option.some.inj h).symm) (by rw [← he]; exact hmem)
  have hvs' : hvs (a.vars.set (ρ.getD k 0) v) f.slots hid = hvs a.vars f.slots hid := hvs_congr (fun s hs => hval (hh.1 s hs))
  have hE : EnvExt i.envs (i.envs.modify k fun x => { x with v := v }) := EnvExt.set _ _ _
  have hlen : (i.envs.modify k fun x => { x with v := v }).length = i.envs.length := by simp
  refine ⟨ρ, (H.gen (es' := i.envs.modify k fun x => { x with v := v }) (ρ' := ρ) (vars' := a.vars.set (ρ.getD k 0) v) (f' := { f with ops := l, pc := pc' }) (seg' := seg') (vs' := l ++ hvs a.vars f.slots hid) (L' := L) (hid' := hid) (lc' := lc) (fl' := fl) rfl rfl
    ⟨hE, fun _ _ => rfl, fun _ h => .inl h, fun s h1 h2 h3 => getD_set_ne (fun he => h2 (by rw [← he]; exact hmem)) v, fun _ _ h => h, TabExt.refl _⟩ H.snd (fun s hs => ⟨.inl hs, by rw [List.length_set]; exact H.slt s hs⟩) (by rw [List.length_set]; exact Nat.le_refl _) (by rw [hlen]; exact H.S.rlen) H.S.rnd (fun k' w hw => ?_)
    (hK.mono (fun e D h => h.mono hE (fun _ _ => rfl)) (fun _ _ _ _ => rfl)) ⟨by rw [← hvs']; rfl, fun q hq => ?_, H.D.n, H.D.l, H.D.r⟩ hl nr).S⟩
  · rw [List.length_set]
    rw [List.getElem?_modify] at hw
    by_cases hkk : k = k'
    · subst hkk
      rw [hk] at hw
      simp at hw
      have := (H.S.rval k z hk).2
      exact ⟨by rw [getD_set_self this, ← hw], this⟩
    · simp [hkk] at hw
      have := H.S.rval k' w hw
      refine ⟨?_, this.2⟩
      rw [getD_set_ne (fun he => hkk (slot_inj H.S.rnd hkl (by rw [H.S.rlen]; exact (List.getElem?_eq_some_iff.1 hw).1) he))]
      exact this.1
  · have h1 := H.D.f q hq
    refine ⟨((h1.1.ops (ops' := l) ?_).ext (es := i.envs) (ρ := []) (clos := a.clos) (es' := i.envs) (ρ' := []) (clos' := a.clos) (M := fun _ => True) ⟨EnvExt.refl _, fun _ _ => rfl, fun _ h => .inl h, fun _ _ _ h => absurd trivial h, fun _ _ h => h, TabExt.refl _⟩ h1.2 (fun k hk => hval (hh.2 q hq k hk))), h1.2⟩
    intro h2
    rw [ho]
    exact OpSame.of hop d [] q hq h2

/-- new variables in own free slots. -/
theorem Hd.bindL (H : Hd G root Ps Fs i a ρ x y f fs seg ts vs vals p j ids od L hid fl) {ns : List Nat} {news : List Env} {vars' ops' vs' : List PV} {pc' : Nat} {seg' : List Tk} {L' : List Str} {hid' : List Nat} {lc' fl' : List (Nat × Nat)}
    (hln : news.length = ns.length) (hnd : ns.Nodup) (hnl : ∀ n ∈ ns, n < f.slots.length) (hfr : ∀ n ∈ ns, ∀ nm, L[n]? = some nm → nm = [])
    (hvl : vars'.length = a.vars.length) (hvo : ∀ s, (s ∉ f.slots ∨ s ∈ ρ) → vars'.getD s vNil = a.vars.getD s vNil) (hvn : ∀ (k : Nat) n z, ns[k]? = some n → news[k]? = some z → vars'.getD (f.slots.getD n 0) vNil = z.v)
    (hL : ∀ (s : Nat) nm, L[s]? = some nm → nm ≠ [] → ∃ nm', L'[s]? = some nm' ∧ nm' ≠ []) (hLn : ∀ n ∈ ns, ∃ nm, L'[n]? = some nm ∧ nm ≠ []) (hLl : L'.length ≤ (pr Ps j).ns)
    (hfl : ∀ q ∈ fl', FlD vars' a.tabs f.slots ops' q ∧ q.2 ≤ 2) (hvs : vs' = ops' ++ hvs vars' f.slots hid')
    (hK : K G Ps Fs (Bd (i.envs ++ news) (ρ ++ ns.map fun n => f.slots.getD n 0)) f.slots od vals.length j false pc' seg' ops'.length L' hid' lc' fl') (ho : ops'.length ≤ 128) (nr : ∀ t ∈ seg', t.k ≠ 3) :
    Hd G root Ps Fs { mkI i x (seg' ++ ⟨3, p, vals.length, 0⟩ :: ts) (vs' ++ vals) with envs := i.envs ++ news } (mkA a y fs { f with ops := ops', pc := pc' } vars') (ρ ++ ns.map fun n => f.slots.getD n 0)
      { x with tasks := seg' ++ ⟨3, p, vals.length, 0⟩ :: ts, vals := vs' ++ vals } { y with frs := { f with ops := ops', pc := pc' } :: fs } { f with ops := ops', pc := pc' } fs seg' ts vs' vals p j ids od L' hid' fl' := by
  have hfree : ∀ n ∈ ns, f.slots.getD n 0 ∉ ρ := fun n hn => H.free (hnl n hn) (hfr n hn)
  refine H.gen (es' := i.envs ++ news) (ρ' := ρ ++ ns.map fun n => f.slots.getD n 0) (vars' := vars') (f' := { f with ops := ops', pc := pc' }) rfl rfl
    ⟨EnvExt.app _ _, fun k hk => by simp only [List.getD_eq_getElem?_getD]; rw [List.getElem?_append_left (by rw [H.S.rlen]; exact hk)], fun s hs => ?_, fun s h1 h2 h3 => hvo s (.inl fun h => h3 (.inl h)), fun _ _ h => h, TabExt.refl _⟩
    H.snd (fun s hs => ⟨.inl hs, by rw [hvl]; exact H.slt s hs⟩) (by rw [hvl]; exact Nat.le_refl _) (by simp [H.S.rlen, hln]) ?_ (fun k w hw => ?_) hK ⟨hvs, hfl, H.D.n, hLl, fun s hs hr => ?_⟩ ho nr
  · rcases List.mem_append.1 hs with h | h
    · exact .inl h
    · obtain ⟨n, hn, rfl⟩ := List.mem_map.1 h
      exact .inr (.inl (getD_mem (hnl n hn)))
  · rw [List.nodup_append]
    refine ⟨H.S.rnd, ?_, fun s hs t ht he => ?_⟩
    · rw [List.nodup_iff_pairwise_ne, List.pairwise_map]
      refine List.Pairwise.imp_of_mem ?_ (List.nodup_iff_pairwise_ne.1 hnd)
      intro u v hu hv huv he
      exact huv (slot_inj H.snd (hnl u hu) (hnl v hv) he)
    · obtain ⟨n, hn, rfl⟩ := List.mem_map.1 ht
      subst he
      exact hfree n hn hs
  · by_cases hk : k < i.envs.length
    · rw [List.getElem?_append_left hk] at hw
      have := H.S.rval k w hw
      have hkr : k < ρ.length := by rw [H.S.rlen]; exact hk
      have e1 : (ρ ++ ns.map fun n => f.slots.getD n 0).getD k 0 = ρ.getD k 0 := by simp only [List.getD_eq_getElem?_getD]; rw [List.getElem?_append_left hkr]
      rw [e1, hvl, hvo _ (.inr (rho_mem hkr))]
      exact this
    · rw [List.getElem?_append_right (by omega)] at hw
      have hk2 := (List.getElem?_eq_some_iff.1 hw).1
      obtain ⟨n, hn⟩ : ∃ n, ns[k - i.envs.length]? = some n := ⟨_, List.getElem?_eq_getElem (by omega)⟩
      have e1 : (ρ ++ ns.map fun n => f.slots.getD n 0).getD k 0 = f.slots.getD n 0 := by
        rw [List.getD_eq_getElem?_getD, List.getElem?_append_right (by rw [H.S.rlen]; omega), H.S.rlen, List.getElem?_map, hn]; rfl
      rw [e1, hvl]
      exact ⟨hvn _ _ _ hn hw, H.slt _ (getD_mem (hnl n (List.mem_of_getElem? hn)))⟩
  · rcases List.mem_append.1 hr with h | h
    · obtain ⟨nm, h1, h2⟩ := H.D.r s hs h
      exact hL s nm h1 h2
    · obtain ⟨n, hn, he⟩ := List.mem_map.1 h
      have := slot_inj H.snd (hnl n hn) hs he
      subst this
      exact hLn n hn
end

end Go.Proofs.Qxb6500568aGreatDoor
