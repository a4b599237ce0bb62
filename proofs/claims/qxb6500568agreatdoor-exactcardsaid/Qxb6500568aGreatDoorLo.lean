import Derived.Test.Qxb6500568aGreatDoorLn
namespace Go.Proofs.Qxb6500568aGreatDoor
open Ieee
set_option linter.unusedVariables false
set_option linter.unusedSimpArgs false
set_option linter.unusedSectionVars false

/-! Returns and calls. -/

section
variable {G : Arena} {root : Nat} {Ps : List Proto} {Fs : Nat → FI} {i : IS} {a : AS} {ρ : List Nat} {x : ITh} {y : ATh} {f : AFr} {fs : List AFr} {seg ts : List Tk} {vs vals : List PV} {p j : Nat} {ids : List Nat} {od : List (Str × Nat)} {L : List Str} {hid : List Nat} {lc : List (Nat × Nat)} {fl : List (Nat × Nat)}

theorem retL_seg : ∀ {seg T : List Tk}, (∀ t ∈ seg, t.k ≠ 3) → retL (seg ++ T) = retL T
  | [], T, h => rfl
  | t :: seg, T, h => by
    simp only [List.cons_append, retL]
    rw [if_neg (h t (by simp)), retL_seg (fun u hu => h u (by simp [hu]))]

theorem ret_sim (S : Sim0 G root Ps Fs i a ρ) (hx : i.ths[i.cur]? = some x) (hy : a.ths[a.cur]? = some y) (hst : x.st = 4) (hfn : x.fn = y.fn) (hF : FrL G Ps Fs i.envs ρ a.vars a.clos a.tabs fs ts vals 2) {f' : AFr} (hsub : (frSl (f' :: fs)).Sublist (frSl y.frs)) (hpr : f'.prot = decide (p = 1)) (hp1 : p ≤ 1) (hp0 : fs = [] → p = 0)
    (u v : PV) {pre : List PV} {seg' : List Tk} (nr : ∀ t ∈ seg', t.k ≠ 3) :
    Rel G root Ps Fs (iret u v { i with ths := i.ths.set i.cur { x with tasks := seg' ++ ⟨3, p, vals.length, 0⟩ :: ts, depth := fs.length + 1, vals := pre ++ vals } }) (aret u v { a with ths := a.ths.set a.cur { y with frs := f' :: fs } }) := by
  have hic : i.cur < i.ths.length := S.curlt
  have hac : a.cur < a.ths.length := by rw [← S.cur, ← S.tlen]; exact hic
  have hcs : i.cur ∉ i.stack := fun h => by have := (S.stk _ h).2; rw [getD_of hx] at this; omega
  have hys : x.st = y.st := (S.ths _ _ _ hx (by rw [S.cur]; exact hy)).st
  have hsub2 : (frSl fs).Sublist (frSl y.frs) := List.Sublist.trans (by simp [frSl]) hsub
  unfold iret aret
  simp only [IS.th, AS.th, getD_of (List.getElem?_set_self hic), getD_of (List.getElem?_set_self hac)]
  rw [retL_seg nr]
  simp only [retL, if_true, cutTo_app, Nat.add_sub_cancel]
  cases fs with
  | nil =>
    obtain ⟨rfl, rfl⟩ := hF
    rw [if_pos rfl, if_pos rfl]
    simp only [IS.setT, AS.setT, List.set_set]
    have S2 := S.thr (t := i.cur) (x' := { x with tasks := [], depth := 0, vals := [], st := 5 }) (y' := { y with frs := [], st := 5 }) hx (by rw [S.cur]; exact hy)
      ⟨rfl, hfn, rfl, .nil, (fun h => by rcases h with h | h <;> cases h), (fun _ => rfl), (fun h => by cases h), ⟨by show 1 ≤ 5; omega, by show 5 ≤ 5; omega⟩⟩ (by simp [frSl]) (fun h => absurd h hcs)
    have := back_sim S2 true u
    rw [S.cur] at this ⊢
    exact this
  | cons g q =>
    obtain ⟨sg, tq, vq, vr, pq, rfl, rfl, k1, k2, k3, k4, k5, k6⟩ := hF
    rw [if_neg (show ¬ (sg ++ ⟨3, pq, vr.length, 0⟩ :: tq = []) by simp), if_neg (show ¬ (g :: q = []) by simp)]
    left
    refine ⟨ρ, ?_⟩
    have hF' : FrL G Ps Fs i.envs ρ a.vars a.clos a.tabs (g :: q) (sg ++ ⟨3, pq, vr.length, 0⟩ :: tq) (vq ++ vr) 2 := .cons k1 k2 k3 k4 k5 k6
    have key : ∀ (b c : PV), Sim G root Ps Fs { i with ths := i.ths.set i.cur { x with tasks := sg ++ ⟨3, pq, vr.length, 0⟩ :: tq, depth := (g :: q).length, vals := c :: b :: (vq ++ vr) } } { a with ths := a.ths.set a.cur { y with frs := { g with ops := c :: b :: g.ops } :: q } } ρ := by
      intro b c
      have S2 := S.thr (t := i.cur) (x' := { x with tasks := sg ++ ⟨3, pq, vr.length, 0⟩ :: tq, depth := (g :: q).length, vals := c :: b :: (vq ++ vr) }) (y' := { y with frs := { g with ops := c :: b :: g.ops } :: q }) hx (by rw [S.cur]; exact hy)
        ⟨hys, hfn, by simp, by show FrL _ _ _ _ _ _ _ _ _ _ _ (if x.st = 4 then 0 else 2); rw [if_pos hst]; exact hF'.give _ _, fun h => by simp, fun h => by have h' : x.st = 1 ∨ x.st = 5 := h; omega, fun h => by have h' : x.st = 1 := h; omega, by show 1 ≤ x.st ∧ x.st ≤ 5; omega⟩
        (List.Sublist.trans (by simp [frSl]) hsub2) (fun h => absurd h hcs)
      refine Sim.of ?_ ?_ ?_
      · rw [S.cur] at S2 ⊢
        exact S2
      · show (List.getD (i.ths.set i.cur _) i.cur ITh.zero).st = 4
        rw [getD_of (List.getElem?_set_self hic)]; exact hst
      · show (List.getD (a.ths.set a.cur _) a.cur ATh.zero).frs ≠ []
        rw [getD_of (List.getElem?_set_self hac)]; simp
    by_cases hp : p = 1
    · rw [if_pos hp, if_pos (show f'.prot = true by rw [hpr, hp]; rfl)]
      simp only [IS.setT, apush2, AS.setT, AS.th, getD_of (List.getElem?_set_self hac), List.set_set]
      exact key _ _
    · rw [if_neg hp, if_neg (show ¬ f'.prot = true by rw [hpr]; simp [hp])]
      simp only [IS.setT, apush2, AS.setT, AS.th, getD_of (List.getElem?_set_self hac), List.set_set]
      exact key _ _

/-! parameters -/

def prs (ps : List Str) (b : Nat) : List (Str × Nat) := (List.range ps.length).map fun k => (ps.getD k [], b + k)
theorem prs_cons (s : Str) (ps : List Str) (b : Nat) : prs (s :: ps) b = (s, b) :: prs ps (b + 1) := by
  unfold prs
  rw [List.length_cons, List.range_succ_eq_map, List.map_cons, List.map_map]
  congr 1
  apply List.map_congr_left
  intro k _
  simp only [Function.comp, List.getD_cons_succ]
  rw [show b + (k + 1) = b + 1 + k by omega]
theorem visF_all : ∀ (ps : List Str) (b : Nat) (acc : List (Str × Nat)), (∀ s ∈ ps, s ≠ []) → visF ps b acc = (prs ps b).reverse ++ acc
  | [], b, acc, h => by simp [visF, prs]
  | s :: ps, b, acc, h => by
    rw [prs_cons, visF, if_neg (h s (by simp)), visF_all ps (b + 1) _ (fun t ht => h t (by simp [ht]))]
    simp
theorem rng_cons (b n : Nat) : (List.range (n + 1)).map (b + ·) = b :: (List.range n).map (b + 1 + ·) := by
  rw [List.range_succ_eq_map, List.map_cons, List.map_map]
  congr 1
  apply List.map_congr_left
  intro k _
  simp only [Function.comp]
  omega
theorem bindP_sim : ∀ (ps : List Str) {f n : Nat} {zs : List PV} {e : Nat} {s : IS} {ρ : List Nat} {D : List (Str × Nat)} (b : Nat), IsNm G n ps → ps.length < f → Bd s.envs ρ e D → ρ.length = s.envs.length →
    ∃ e' news, bindP G f n zs e s = (e', { s with envs := s.envs ++ news }) ∧ news.length = ps.length ∧ (∀ (k : Nat) z, news[k]? = some z → z.v = zs.getD k vNil) ∧ Bd (s.envs ++ news) (ρ ++ (List.range ps.length).map (b + ·)) e' ((prs ps b).reverse ++ D)
  | [], f + 1, n, zs, e, s, ρ, D, b, hN, hf, hB, hl => by
    simp only [IsNm] at hN
    subst hN
    exact ⟨e, [], by simp [bindP], rfl, fun k z h => by simp at h, by simpa [prs] using hB⟩
  | t :: ps, f + 1, n, zs, e, s, ρ, D, b, hN, hf, hB, hl => by
    simp only [IsNm] at hN
    obtain ⟨h0, h1, h2, h3⟩ := hN
    have hB' := Bd.new (nm := (nd G n).S) (v := zs.headD vNil) (id := b) hB hl
    obtain ⟨e', news, k1, k2, k3, k4⟩ := bindP_sim ps (f := f) (zs := zs.tail) (s := inew (nd G n).S (zs.headD vNil) e s) (b + 1) h3 (by simp at hf; omega) hB' (by simp [inew, hl])
    refine ⟨e', ⟨(nd G n).S, zs.headD vNil, e⟩ :: news, ?_, by simp [k2], ?_, ?_⟩
    · simp only [bindP, if_neg h0]
      have hlast : (inew (nd G n).S (zs.headD vNil) e s).last = s.envs.length + 1 := by simp [IS.last, inew]
      rw [hlast, k1]
      simp [inew]
    · intro k z hz
      cases k with
      | zero => simp at hz; subst hz; cases zs <;> simp
      | succ k =>
        have := k3 k z (by simpa using hz)
        rw [this]
        cases zs <;> simp
    · have e1 : (inew (nd G n).S (zs.headD vNil) e s).envs ++ news = s.envs ++ ⟨(nd G n).S, zs.headD vNil, e⟩ :: news := by simp [inew]
      rw [e1] at k4
      rw [List.length_cons, rng_cons, prs_cons, ← h2]
      have e2 : ρ ++ b :: (List.range ps.length).map (b + 1 + ·) = (ρ ++ [b]) ++ (List.range ps.length).map (b + 1 + ·) := by simp
      rw [e2]
      have e3 : ((((nd G n).S, b) :: prs ps (b + 1)).reverse ++ D) = (prs ps (b + 1)).reverse ++ (((nd G n).S, b) :: D) := by simp
      rw [e3]
      exact k4

theorem padTo_len (n : Nat) (l : List PV) : (padTo n l).length = n := by simp [padTo]
theorem padTo_get {n : Nat} {l : List PV} {k : Nat} (h : k < n) : (padTo n l).getD k vNil = l.getD k vNil := by
  simp [padTo, List.getD_eq_getElem?_getD, List.getElem?_map, List.getElem?_range h]

theorem enter_sim (S : Sim0 G root Ps Fs i a ρ) (hx : i.ths[i.cur]? = some x) (hy : a.ths[a.cur]? = some y) (hcs : i.cur ∉ i.stack) (hfn : x.fn = y.fn) {F : List AFr} {T : List Tk} {V : List PV} (hF : FrL G Ps Fs i.envs ρ a.vars a.clos a.tabs F T V 2) (hsub : (frSl F).Sublist (frSl y.frs))
    {c n e : Nat} (hc : i.clos[c]? = some (n, e)) (zs : List PV) (hp1 : p ≤ 1) (hp0 : F = [] → p = 0) :
    ∃ ρ', Sim G root Ps Fs (ienter G root c zs p { i with ths := i.ths.set i.cur { x with st := 4, depth := F.length, tasks := T, vals := V } }) (aenter Ps c zs (decide (p = 1)) { a with ths := a.ths.set a.cur { y with st := 4, frs := F } }) ρ' := by
  have hic : i.cur < i.ths.length := S.curlt
  have hac : a.cur < a.ths.length := by rw [← S.cur, ← S.tlen]; exact hic
  obtain ⟨j, ids, od, hcl, hU, hB, ps, bd, z, hN, hSL, hnp, hns, hne, hp3, hCB, hz0, hz1, hz2⟩ := S.clos c n e hc
  obtain ⟨e', news, hb1, hb2, hb3, hb4⟩ := bindP_sim ps (f := 4) (zs := zs) (s := { i with ths := i.ths.set i.cur { x with st := 4, depth := F.length + 1, tasks := ⟨3, p, V.length, 0⟩ :: T, vals := V } }) a.vars.length hN (by omega) hB S.rlen
  have hI : ienter G root c zs p { i with ths := i.ths.set i.cur { x with st := 4, depth := F.length, tasks := T, vals := V } } =
      { i with ths := i.ths.set i.cur { x with st := 4, depth := F.length + 1, tasks := ⟨1, if n = 0 then root else (nd G n).B, 0, e'⟩ :: ⟨3, p, V.length, 0⟩ :: T, vals := V }, envs := i.envs ++ news } := by
    unfold ienter
    simp only [IS.th, IS.setT, getD_of (List.getElem?_set_self hic), List.set_set, getD_of hc]
    rw [hb1]
    simp only [ido, IS.th, IS.setT, getD_of (List.getElem?_set_self hic), List.set_set]
  have hA : aenter Ps c zs (decide (p = 1)) { a with ths := a.ths.set a.cur { y with st := 4, frs := F } } =
      { a with ths := a.ths.set a.cur { y with st := 4, frs := ⟨c, 0, (List.range (pr Ps j).ns).map (a.vars.length + ·), [], decide (p = 1)⟩ :: F }, vars := a.vars ++ padTo (pr Ps j).ns (zs.take (pr Ps j).np) } := by
    unfold aenter anew
    simp only [getD_of hcl, AS.th, AS.setT, getD_of (List.getElem?_set_self hac), List.set_set]
    show _ = ({ a with ths := _, vars := _ } : AS)
    have : (padTo (Ps.getD j Proto.zero).ns (zs.take (Ps.getD j Proto.zero).np)).length = (pr Ps j).ns := padTo_len _ _
    rw [this]
    rfl
  rw [hI, hA]
  have hrl : ∀ r ∈ ρ, r < a.vars.length := by
    intro r hr
    obtain ⟨k, hk, he⟩ := List.mem_iff_getElem.1 hr
    have := (S.rval k _ (List.getElem?_eq_getElem (by rw [← S.rlen]; exact hk))).2
    rw [List.getD_eq_getElem?_getD, List.getElem?_eq_getElem hk] at this
    simpa [he] using this
  have hfr : ∀ r ∈ (List.range ps.length).map (a.vars.length + ·), a.vars.length ≤ r ∧ r < a.vars.length + ps.length := by
    intro r hr
    obtain ⟨k, hk, rfl⟩ := List.mem_map.1 hr
    have := List.mem_range.1 hk
    omega
  have hvl : (a.vars ++ padTo (pr Ps j).ns (zs.take (pr Ps j).np)).length = a.vars.length + (pr Ps j).ns := by rw [List.length_append, padTo_len]
  have hv0 : ∀ {s : Nat}, s < a.vars.length → (a.vars ++ padTo (pr Ps j).ns (zs.take (pr Ps j).np)).getD s vNil = a.vars.getD s vNil := fun {s} hs => by simp only [List.getD_eq_getElem?_getD]; rw [List.getElem?_append_left hs]
  have E : Ext i.envs ρ a.vars a.clos a.tabs (i.envs ++ news) (ρ ++ (List.range ps.length).map (a.vars.length + ·)) (a.vars ++ padTo (pr Ps j).ns (zs.take (pr Ps j).np)) a.clos a.tabs (fun s => a.vars.length ≤ s) :=
    ⟨EnvExt.app _ _, fun k hk => by simp only [List.getD_eq_getElem?_getD]; rw [List.getElem?_append_left (by rw [S.rlen]; exact hk)], fun s hs => by
      rcases List.mem_append.1 hs with h | h
      · exact .inl h
      · exact .inr (hfr s h).1, fun s h1 _ _ => hv0 h1, fun _ _ h => h, TabExt.refl _⟩
  have hold : ∀ s ∈ slotsOf a.ths, ¬ a.vars.length ≤ s ∧ s < a.vars.length := fun s hs => by have := S.sl s hs; omega
  have hFm : ∀ g ∈ F, ∀ s ∈ g.slots, ¬ a.vars.length ≤ s ∧ s < a.vars.length := fun g hg s hs => by
    refine hold s ((slots_self hy).mem_iff.2 (List.mem_append_left _ (hsub.subset ?_)))
    exact List.mem_flatMap.2 ⟨g, hg, hs⟩
  refine ⟨ρ ++ (List.range ps.length).map (a.vars.length + ·), ⟨⟨S.cur, S.stack, S.fuel, S.first, S.out, S.tabs, S.di, S.da, ?_, ?_, ?_, ?_, ?_, S.clen, ?_, by simp [S.tlen], ?_, by simpa using S.curlt, ?_, S.stn, S.bot⟩, ?_, ?_⟩⟩
  · simp [S.rlen, hb2]
  · rw [List.nodup_append]
    exact ⟨S.rnd, range_nodup _ _, fun s hs t ht he => by have := hrl s hs; have := hfr t ht; omega⟩
  · intro k w hw
    by_cases hk : k < i.envs.length
    · rw [List.getElem?_append_left hk] at hw
      have := S.rval k w hw
      rw [E.r k hk, hv0 this.2, hvl]
      exact ⟨this.1, by omega⟩
    · rw [List.getElem?_append_right (by omega)] at hw
      have hk2 := (List.getElem?_eq_some_iff.1 hw).1
      rw [hb2] at hk2
      have e1 : (ρ ++ (List.range ps.length).map (a.vars.length + ·)).getD k 0 = a.vars.length + (k - i.envs.length) := by
        rw [List.getD_eq_getElem?_getD, List.getElem?_append_right (by rw [S.rlen]; omega), S.rlen, List.getElem?_map, List.getElem?_range hk2]; rfl
      rw [e1, hvl]
      refine ⟨?_, by omega⟩
      rw [List.getD_eq_getElem?_getD, List.getElem?_append_right (by omega), Nat.add_sub_cancel_left, ← List.getD_eq_getElem?_getD, padTo_get (by omega), hb3 _ _ hw]
      simp only [List.getD_eq_getElem?_getD]
      rw [List.getElem?_take_of_lt (by rw [hnp]; exact hk2)]
  · have := slots_set (ths := a.ths) hac { y with st := 4, frs := ⟨c, 0, (List.range (pr Ps j).ns).map (a.vars.length + ·), [], decide (p = 1)⟩ :: F }
    rw [this.nodup_iff]
    have e1 : frSl (⟨c, 0, (List.range (pr Ps j).ns).map (a.vars.length + ·), [], decide (p = 1)⟩ :: F) = (List.range (pr Ps j).ns).map (a.vars.length + ·) ++ frSl F := by simp [frSl]
    show (frSl (_ :: F) ++ _).Nodup
    rw [e1, List.append_assoc, List.nodup_append]
    have hs2 : (frSl F ++ rstSl a.ths a.cur).Sublist (frSl y.frs ++ rstSl a.ths a.cur) := hsub.append (List.Sublist.refl _)
    refine ⟨range_nodup _ _, hs2.nodup ((slots_self hy).nodup_iff.1 S.sn), fun s hs t ht he => ?_⟩
    obtain ⟨k, hk, rfl⟩ := List.mem_map.1 hs
    have := hold t ((slots_self hy).mem_iff.2 (hs2.subset ht))
    omega
  · intro s hs
    have := (slots_set (ths := a.ths) hac { y with st := 4, frs := ⟨c, 0, (List.range (pr Ps j).ns).map (a.vars.length + ·), [], decide (p = 1)⟩ :: F }).mem_iff.1 hs
    rw [hvl]
    rcases List.mem_append.1 this with h | h
    · rcases List.mem_append.1 (show s ∈ (List.range (pr Ps j).ns).map (a.vars.length + ·) ++ frSl F by simpa [frSl] using h) with h | h
      · obtain ⟨k, hk, rfl⟩ := List.mem_map.1 h
        have := List.mem_range.1 hk
        omega
      · have := hold s ((slots_self hy).mem_iff.2 (List.mem_append_left _ (hsub.subset h)))
        omega
    · have := hold s ((slots_self hy).mem_iff.2 (List.mem_append_right _ h))
      omega
  · intro k m g hk
    obtain ⟨j', ids', od', h1, h2, h3, h4⟩ := S.clos k m g hk
    exact ⟨j', ids', od', h1, h2, h3.mono E.e E.r, h4⟩
  · intro t x1 y1 h1 h2
    by_cases ht : t = i.cur
    · subst ht
      simp only [List.getElem?_set_self hic, Option.some.injEq] at h1
      simp only [S.cur, List.getElem?_set_self hac, Option.some.injEq] at h2
      subst h1; subst h2
      refine ⟨rfl, hfn, by simp, ?_, (fun h => by rcases h with h | h <;> cases h), (fun h => by rcases h with h | h <;> cases h), (fun h => by cases h), ⟨by show 1 ≤ 4; omega, by show 4 ≤ 5; omega⟩⟩
      show FrL G Ps Fs _ _ _ _ _ _ ([⟨1, if n = 0 then root else (nd G n).B, 0, e'⟩] ++ ⟨3, p, V.length, 0⟩ :: T) ([] ++ V) 0
      have hvis : vis ps = (prs ps 0).reverse := by unfold vis; rw [visF_all ps 0 [] hne, List.append_nil]
      have hDy : Dy ((List.range (pr Ps j).ns).map (a.vars.length + ·)) od ps = (prs ps a.vars.length).reverse ++ od := by
        unfold Dy
        rw [hvis]
        congr 1
        rw [List.map_reverse]
        congr 1
        unfold prs
        rw [List.map_map]
        apply List.map_congr_left
        intro k hk
        have hk' : k < ps.length := by simpa using hk
        simp only [Function.comp, Nat.zero_add]
        congr 1
        rw [List.getD_eq_getElem?_getD, List.getElem?_map, List.getElem?_range (by omega)]
        rfl
      refine .cons ⟨j, ids, od, ps, [], [], [], hcl, hU, .set (.block hSL (by rw [hDy]; exact hb4) hCB (List.prefix_refl _) hns .none (.set (.foot hz0 hz1 hz2))), ⟨rfl, (fun q hq => by cases hq), by simp, hns, ?_⟩, by simp⟩ (hF.ext E hFm) rfl hp1 hp0 (by intro t ht; rw [List.mem_singleton] at ht; subst ht; show 1 ≠ 3; decide)
      intro s hs hr
      simp only [List.length_map, List.length_range] at hs
      have e1 : ((List.range (pr Ps j).ns).map (a.vars.length + ·)).getD s 0 = a.vars.length + s := by
        rw [List.getD_eq_getElem?_getD, List.getElem?_map, List.getElem?_range hs]; rfl
      simp only [e1] at hr
      rcases List.mem_append.1 hr with h | h
      · have := hrl _ h; omega
      · have := hfr _ h
        have hs2 : s < ps.length := by omega
        exact ⟨ps[s], List.getElem?_eq_getElem hs2, hne _ (List.getElem_mem hs2)⟩
    · simp only [List.getElem?_set_ne (fun h => ht h.symm)] at h1
      have h2' : a.ths[t]? = some y1 := by
        rw [← h2]; exact (List.getElem?_set_ne (fun h => ht (by rw [S.cur, h]))).symm
      exact (S.ths t x1 y1 h1 h2').ext E (fun g hg s hs => hold s (mem_slots h2' hg hs))
  · intro k hk
    have h1 := S.stk k hk
    refine ⟨by simpa using h1.1, ?_⟩
    have hne' : i.cur ≠ k := fun h => hcs (by rw [h]; exact hk)
    simp only [List.getD_eq_getElem?_getD, List.getElem?_set_ne hne']
    rw [← List.getD_eq_getElem?_getD]; exact h1.2
  · show (List.getD (i.ths.set i.cur _) i.cur ITh.zero).st = 4
    rw [getD_of (List.getElem?_set_self hic)]
  · show (List.getD (a.ths.set a.cur _) a.cur ATh.zero).frs ≠ []
    rw [getD_of (List.getElem?_set_self hac)]; simp
end

end Go.Proofs.Qxb6500568aGreatDoor
