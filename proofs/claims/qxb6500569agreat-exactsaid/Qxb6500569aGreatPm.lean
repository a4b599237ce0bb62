import Derived.Test.Qxb6500569aGreatPl
/- Plain: bounds of the model's search; the machine with choices, and that it gives the search's answers. -/
namespace Go.Proofs.Qxb6500569aGreat
set_option linter.unusedVariables false
set_option linter.unusedSimpArgs false

theorem kidsS_len (hp : List Nd) (root lvl left : Nat) : (kidsS hp root 1 lvl left).length ≤ 3 := by
  unfold kidsS
  have := List.length_filterMap_le (fun j => argOf hp root j) (List.range' 1 (4 - 1))
  simp at this ⊢
  omega

theorem kidsS_mem {hp : List Nd} {root frm lvl left : Nat} {g : Gl} (h : g ∈ kidsS hp root frm lvl left) : g.2 = (lvl, left) := by
  unfold kidsS at h
  obtain ⟨a, _, rfl⟩ := List.mem_map.1 h
  rfl

def phi (st : SSt) : Nat := st.tried + 8 * (26 - st.inf)
def psi (st : SSt) : Nat := st.list.length + (26 - st.inf)

/-- How far a search can go. -/
structure Bnd (fuel k m : Nat) (st r : SSt) : Prop where
  lo : st.inf ≤ r.inf
  hi : r.inf ≤ fuel + 1
  ok : r.fin = 0 → r.inf ≤ fuel
  ph : phi r ≤ phi st + k
  ps : psi r ≤ psi st + m

theorem tryL_bnd {cls : List Cl2} {fuel : Nat} (hf : fuel ≤ 24) {rec : List Nd → List Gl → List UInt8 → Nat → Nat → SSt → Int × SSt} (hrec : ∀ hp gs proof lvl left st, st.inf ≤ fuel → st.fin = 0 → Bnd fuel 8 1 st (rec hp gs proof lvl left st).2) (hp : List Nd) (g : Nat) (gs : List Gl) (proof : List UInt8) (lvl left : Nat) :
    ∀ (ids : List UInt8) (st : SSt), st.inf ≤ fuel → st.fin = 0 → Bnd fuel ids.length 0 st (tryL cls fuel rec hp g gs proof lvl left ids st).2
  | [], st, hi, h0 => by
    simp only [tryL]
    exact ⟨Nat.le_refl _, by omega, fun _ => hi, Nat.le_refl _, Nat.le_refl _⟩
  | id :: ids, st, hi, h0 => by
    simp only [tryL]
    split
    · exact ⟨Nat.le_refl _, by simp; omega, fun h => by simp at h, by simp [phi]; omega, by simp [psi]⟩
    split
    · exact ⟨Nat.le_refl _, by simp; omega, fun h => by simp at h, by simp [phi]; omega, by simp [psi]⟩
    split
    · have := tryL_bnd (cls := cls) hf hrec hp g gs proof lvl left ids { st with tried := st.tried + 1 } hi h0
      obtain ⟨a, b, c, d, e⟩ := this
      refine ⟨a, b, c, ?_, ?_⟩
      · simp only [phi, List.length_cons] at d ⊢; omega
      · simp only [psi] at e ⊢; omega
    split
    · exact ⟨by simp, by simp; omega, fun h => by simp at h, by simp [phi]; omega, by simp [psi]; omega⟩
    · rename_i hfu
      have hs := hrec (uniS [(g, (argOf (hp ++ nsOf (cls.getD (id.toNat - 48) ([], [])).2 hp.length) hp.length 0).getD 0)] (hp ++ nsOf (cls.getD (id.toNat - 48) ([], [])).2 hp.length) 0).2.2 (kidsS (uniS [(g, (argOf (hp ++ nsOf (cls.getD (id.toNat - 48) ([], [])).2 hp.length) hp.length 0).getD 0)] (hp ++ nsOf (cls.getD (id.toNat - 48) ([], [])).2 hp.length) 0).2.2 hp.length 1 lvl left ++ gs) (proof ++ [id]) (lvl + 1) (if ids = [] then left else left + 1) { st with tried := st.tried + 1, inf := st.inf + 1 } (by simp; omega) h0
      generalize rec _ _ _ _ _ _ = r at hs ⊢
      obtain ⟨a, b, c, d, e⟩ := hs
      simp only at a
      have hB : Bnd fuel 1 0 st r.2 := by
        refine ⟨by omega, b, c, ?_, ?_⟩
        · simp only [phi] at d ⊢; omega
        · simp only [psi] at e ⊢; omega
      have hB2 : Bnd fuel (id :: ids).length 0 st r.2 := ⟨hB.lo, hB.hi, hB.ok, by have := hB.ph; simp; omega, hB.ps⟩
      split
      · exact hB2
      split
      · exact hB2
      · rename_i h1 h2
        have h00 : r.2.fin = 0 := by
          by_cases h : r.2.fin = 0
          · exact h
          · exact absurd (.inl h) h1
        have hT := tryL_bnd (cls := cls) hf hrec hp g gs proof lvl left ids r.2 (hB.ok h00) h00
        exact ⟨Nat.le_trans hB.lo hT.lo, hT.hi, hT.ok, by have := hB.ph; have := hT.ph; simp; omega, by have := hB.ps; have := hT.ps; omega⟩

theorem matchS_len (cls : List Cl2) (pred key : List UInt8) : (matchS cls pred key).length ≤ cls.length := matchF_len pred key cls 0

theorem dfs_bnd {cls : List Cl2} {fuel : Nat} (hf : fuel ≤ 24) (h8 : cls.length ≤ 8) : ∀ (f : Nat) (hp : List Nd) (gs : List Gl) (proof : List UInt8) (lvl left : Nat) (st : SSt), st.inf ≤ fuel → st.fin = 0 → Bnd fuel 8 1 st (dfsF cls fuel f hp gs proof lvl left st).2
  | 0, hp, gs, proof, lvl, left, st, hi, h0 => by
    simp only [dfsF]
    exact ⟨Nat.le_refl _, by omega, fun _ => hi, by omega, by omega⟩
  | f + 1, hp, [], proof, lvl, left, st, hi, h0 => by
    simp only [dfsF]
    split
    · exact ⟨Nat.le_refl _, by simp; omega, fun _ => hi, by simp [phi], by simp [psi]; omega⟩
    · exact ⟨Nat.le_refl _, by simp; omega, fun h => by simp at h, by simp [phi], by simp [psi]⟩
  | f + 1, hp, g :: gs, proof, lvl, left, st, hi, h0 => by
    simp only [dfsF]
    split
    · have := dfs_bnd (cls := cls) hf h8 f hp gs proof lvl g.2.2 st hi h0
      split <;> exact this
    · have := tryL_bnd (cls := cls) hf (rec := dfsF cls fuel f) (fun hp gs proof lvl left st hi h0 => dfs_bnd hf h8 f hp gs proof lvl left st hi h0) hp g.1 gs proof lvl left (matchS cls (hd hp g.1) (hdO hp (argOf hp g.1 0))) st hi h0
      have hm := matchS_len cls (hd hp g.1) (hdO hp (argOf hp g.1 0))
      exact ⟨this.lo, this.hi, this.ok, by have := this.ph; omega, by have := this.ps; omega⟩

/- The machine. -/
abbrev Gf := Nat × Nat
def gf (g : Gl) : Gf := (g.1, g.2.2)

structure Ch where
  hp : List Nd
  goal : Nat
  next : List Gf
  alts : List UInt8
  proof : List UInt8

/-- The state: the choices stand top first. -/
structure Ms where
  hp : List Nd
  gs : List Gf
  proof : List UInt8
  K : List Ch
  inf : Nat
  tried : Nat

def cutK (n : Nat) (K : List Ch) : List Ch := K.drop (K.length - n)

def tryM (cls : List Cl2) (fuel : Nat) (k : Bool → Ms → Option (Nat × Ms)) (s : Ms) (goal : Nat) (next : List Gf) (bar : Nat) (id : UInt8) : Option (Nat × Ms) :=
  let ns := nsOf (cls.getD (id.toNat - 48) ([], [])).2 s.hp.length
  if 64 < s.hp.length + ns.length then some (6, { s with tried := s.tried + 1 })
  else
    let u := uniS [(goal, (argOf (s.hp ++ ns) s.hp.length 0).getD 0)] (s.hp ++ ns) 0
    if u.2.1 = 8 then some (8, { s with tried := s.tried + 1 })
    else if u.2.1 ≠ 0 then k true { s with tried := s.tried + 1 }
    else if fuel < s.inf + 1 then some (10, { s with tried := s.tried + 1, inf := s.inf + 1 })
    else k false ⟨u.2.2, (kidsS u.2.2 s.hp.length 1 0 bar).map gf ++ next, s.proof ++ [id], s.K, s.inf + 1, s.tried + 1⟩

def mrun (cls : List Cl2) (fuel : Nat) : Nat → Bool → Ms → Option (Nat × Ms)
  | 0, _, _ => none
  | n + 1, true, s => match s.K with
    | [] => some (9, ⟨[], [], [], [], s.inf, s.tried⟩)
    | c :: K => tryM cls fuel (mrun cls fuel n) ⟨c.hp, [], c.proof, if c.alts.tail = [] then K else { c with alts := c.alts.tail } :: K, s.inf, s.tried⟩ c.goal c.next K.length (c.alts.headD 0)
  | n + 1, false, s => match s.gs with
    | [] => some (0, s)
    | g :: gs => if hd s.hp g.1 = [33, 48] then mrun cls fuel n false ⟨s.hp, gs, s.proof, cutK g.2 s.K, s.inf, s.tried⟩
      else match matchS cls (hd s.hp g.1) (hdO s.hp (argOf s.hp g.1 0)) with
        | [] => mrun cls fuel n true s
        | id :: ids => tryM cls fuel (mrun cls fuel n) ⟨s.hp, [], s.proof, if ids = [] then s.K else ⟨s.hp, g.1, gs, ids, s.proof⟩ :: s.K, s.inf, s.tried⟩ g.1 gs s.K.length id

def Yield (cls : List Cl2) (fuel : Nat) (b : Bool) (s : Ms) (x : Nat × Ms) : Prop := ∃ n, mrun cls fuel n b s = some x

theorem mrun_back {cls : List Cl2} {fuel n : Nat} {s s' : Ms} (h1 : s.K = s'.K) (h2 : s.inf = s'.inf) (h3 : s.tried = s'.tried) : mrun cls fuel n true s = mrun cls fuel n true s' := by
  cases n with
  | zero => rfl
  | succ n =>
    simp only [mrun]
    rw [h1, h2, h3]

def back (K : List Ch) (inf tried : Nat) : Ms := ⟨[], [], [], K, inf, tried⟩

def ansT (s : Ms) : List UInt8 := (putF 49 s.hp 0 [] []).2.1 ++ [35] ++ s.proof ++ [if 0 < s.K.length then 59 else 46]

/-- The answers to come, and the end behind them. -/
def Str (cls : List Cl2) (fuel : Nat) : List (Nat × Nat × Nat × List UInt8) → Nat × Nat × Nat → (Nat × Ms → Prop) → Prop
  | [], F, Y => ∃ e s', Y (e, s') ∧ s'.inf = F.2.1 ∧ s'.tried = F.2.2 ∧ ((e ≠ 0 ∧ e = F.1) ∨ (e = 0 ∧ (putF 49 s'.hp 0 [] []).1 = false ∧ F.1 = 8))
  | a :: L, F, Y => ∃ s', Y (0, s') ∧ (putF 49 s'.hp 0 [] []).1 = true ∧ a = (0, s'.inf, s'.tried, ansT s') ∧ Str cls fuel L F (Yield cls fuel true s')

theorem Str.mono {cls : List Cl2} {fuel : Nat} {L : List (Nat × Nat × Nat × List UInt8)} {F : Nat × Nat × Nat} {Y Y' : Nat × Ms → Prop} (h : ∀ x, Y x → Y' x) (hs : Str cls fuel L F Y) : Str cls fuel L F Y' := by
  cases L with
  | nil => obtain ⟨e, s', h1, h2⟩ := hs; exact ⟨e, s', h _ h1, h2⟩
  | cons a L => obtain ⟨s', h1, h2⟩ := hs; exact ⟨s', h _ h1, h2⟩

def Tgt (gs : List Gl) (k : Nat) (r : Int) (n : Nat) : Prop := (r = -1 ∧ n = k) ∨ ∃ g ∈ gs, r = (g.2.1 : Int) ∧ n = g.2.2

def Sim (cls : List Cl2) (fuel : Nat) (Y : Nat × Ms → Prop) (gs : List Gl) (K : List Ch) (st : SSt) (r : Int × SSt) : Prop :=
  ∃ L, r.2.list = st.list ++ L ∧ st.inf ≤ r.2.inf ∧ (r.2.fin ≠ 0 → Str cls fuel L (r.2.fin, r.2.inf, r.2.tried) Y) ∧
    (r.2.fin = 0 → r.2.inf ≤ fuel ∧ ∃ n, Tgt gs K.length r.1 n ∧ ∀ L' F, Str cls fuel L' F (Yield cls fuel true (back (cutK n K) r.2.inf r.2.tried)) → Str cls fuel (L ++ L') F Y)

def Dec (gs : List Gl) (lvl k : Nat) : Prop := (∀ g ∈ gs, g.2.1 < lvl ∧ g.2.2 ≤ k) ∧ gs.Pairwise (fun a b => b.2.1 ≤ a.2.1 ∧ b.2.2 ≤ a.2.2 ∧ (b.2.1 = a.2.1 → b.2.2 = a.2.2))

theorem cutK_all (K : List Ch) : cutK K.length K = K := by simp [cutK]
theorem cutK_ge {K : List Ch} {n : Nat} (h : K.length ≤ n) : cutK n K = K := by unfold cutK; rw [Nat.sub_eq_zero_of_le h]; rfl
theorem cutK_len {K : List Ch} {n : Nat} (h : n ≤ K.length) : (cutK n K).length = n := by simp [cutK]; omega
theorem cutK_cut {K : List Ch} {n m : Nat} (h : m ≤ n) (hn : n ≤ K.length) : cutK m (cutK n K) = cutK m K := by
  unfold cutK
  rw [List.drop_drop]
  congr 1
  simp
  omega
theorem cutK_cons {K : List Ch} {c : Ch} {n : Nat} (h : n ≤ K.length) : cutK n (c :: K) = cutK n K := by
  unfold cutK
  rw [show (c :: K).length - n = (K.length - n) + 1 by simp; omega]
  rfl

def chK (K : List Ch) (hp : List Nd) (g : Nat) (next : List Gf) (proof ids : List UInt8) : List Ch := if ids = [] then K else ⟨hp, g, next, ids, proof⟩ :: K

theorem kids_gf (hp : List Nd) (root lvl left : Nat) : (kidsS hp root 1 lvl left).map gf = (kidsS hp root 1 0 left).map gf := by
  unfold kidsS
  simp [gf, Function.comp_def]

theorem tryL_str {cls : List Cl2} {fuel : Nat} {rec : List Nd → List Gl → List UInt8 → Nat → Nat → SSt → Int × SSt} {hp : List Nd} {g : Nat} {gs : List Gl} {proof : List UInt8} {lvl : Nat} {K : List Ch} (hd1 : Dec gs lvl K.length) {i0 : Nat}
    (hrec : ∀ hp gs' proof K st, gs'.length ≤ gs.length + 3 → i0 + 1 ≤ st.inf → st.inf ≤ fuel → st.fin = 0 → Dec gs' (lvl + 1) K.length → Sim cls fuel (Yield cls fuel false ⟨hp, gs'.map gf, proof, K, st.inf, st.tried⟩) gs' K st (rec hp gs' proof (lvl + 1) K.length st)) :
    ∀ (ids : List UInt8) (id : UInt8) (st : SSt) (Y : Nat × Ms → Prop), i0 ≤ st.inf → st.inf ≤ fuel → st.fin = 0 →
      (∀ n x, tryM cls fuel (mrun cls fuel n) ⟨hp, [], proof, chK K hp g (gs.map gf) proof ids, st.inf, st.tried⟩ g (gs.map gf) K.length id = some x → Y x) →
      Sim cls fuel Y gs K st (tryL cls fuel rec hp g gs proof lvl K.length (id :: ids) st) := by
  intro ids
  induction ids with
  | nil =>
    intro id st Y hi0 hi h0 hY
    simp only [tryL]
    simp only [tryM, chK, if_true] at hY
    split
    · rename_i hc
      simp only [hc, if_true] at hY
      exact ⟨[], by simp, Nat.le_refl _, fun _ => ⟨6, _, hY 0 _ rfl, rfl, rfl, .inl ⟨by decide, rfl⟩⟩, fun h => by simp at h⟩
    rename_i hc
    simp only [hc, if_false] at hY
    split
    · rename_i hc
      simp only [hc, if_true] at hY
      exact ⟨[], by simp, Nat.le_refl _, fun _ => ⟨8, _, hY 0 _ rfl, rfl, rfl, .inl ⟨by decide, rfl⟩⟩, fun h => by simp at h⟩
    rename_i hc
    simp only [hc, if_false] at hY
    split
    · rename_i hc
      simp only [hc, if_true, ne_eq, not_false_eq_true] at hY
      refine ⟨[], by simp, Nat.le_refl _, fun h => absurd h0 h, fun _ => ⟨hi, K.length, .inl ⟨rfl, rfl⟩, ?_⟩⟩
      intro L' F hs
      rw [cutK_all] at hs
      refine hs.mono ?_
      rintro x ⟨n, hn⟩
      exact hY n x (by rw [← hn]; exact mrun_back rfl rfl rfl)
    rename_i hc
    simp only [hc, if_false] at hY
    split
    · rename_i hc
      simp only [hc, if_true] at hY
      exact ⟨[], by simp, by simp, fun _ => ⟨10, _, hY 0 _ rfl, rfl, rfl, .inl ⟨by decide, rfl⟩⟩, fun h => by simp at h⟩
    · rename_i hc
      simp only [hc, if_false] at hY
      simp only [if_true]
      generalize (uniS [(g, (argOf (hp ++ nsOf (cls.getD (id.toNat - 48) ([], [])).2 hp.length) hp.length 0).getD 0)] (hp ++ nsOf (cls.getD (id.toNat - 48) ([], [])).2 hp.length) 0).2.2 = u at hY ⊢
      have hdec : Dec (kidsS u hp.length 1 lvl K.length ++ gs) (lvl + 1) K.length := by
        refine ⟨?_, ?_⟩
        · intro x hx
          rcases List.mem_append.1 hx with h | h
          · have := kidsS_mem h
            rw [show x.2.1 = lvl by rw [this], show x.2.2 = K.length by rw [this]]
            omega
          · have := hd1.1 x h; omega
        · rw [List.pairwise_append]
          refine ⟨?_, hd1.2, ?_⟩
          · rw [List.pairwise_iff_forall_sublist]
            intro a b hab
            have ha := kidsS_mem (hab.subset (by simp : a ∈ [a, b]))
            have hb := kidsS_mem (hab.subset (by simp : b ∈ [a, b]))
            rw [ha, hb]; simp
          · intro a ha b hb
            have ha := kidsS_mem ha
            have hb := hd1.1 b hb
            rw [show a.2.1 = lvl by rw [ha], show a.2.2 = K.length by rw [ha]]
            omega
      have hs := hrec u (kidsS u hp.length 1 lvl K.length ++ gs) (proof ++ [id]) K { st with tried := st.tried + 1, inf := st.inf + 1 } (by have := kidsS_len u hp.length lvl K.length; simp; omega) (by simp; omega) (by simp; omega) h0 hdec
      obtain ⟨L, e1, e2, e3, e4⟩ := hs
      generalize rec _ _ _ _ _ _ = r at e1 e2 e3 e4 ⊢
      have hYY : ∀ x, Yield cls fuel false ⟨u, (kidsS u hp.length 1 lvl K.length ++ gs).map gf, proof ++ [id], K, st.inf + 1, st.tried + 1⟩ x → Y x := by
        rintro x ⟨n, hn⟩
        refine hY n x ?_
        rw [List.map_append, kids_gf] at hn
        exact hn
      simp only at e1 e2
      split
      · rename_i h1
        refine ⟨L, e1, by simp only; omega, fun h => (e3 h).mono hYY, fun h => ?_⟩
        have h2 : r.1 = (lvl : Int) := by rcases h1 with h1 | h1; exact absurd h h1; exact h1
        obtain ⟨hin, n, ht, hk⟩ := e4 h
        refine ⟨hin, K.length, .inl ⟨rfl, rfl⟩, ?_⟩
        intro L' F hs
        refine (hk L' F ?_).mono hYY
        rcases ht with ⟨h3, h4⟩ | ⟨g', hg', h3, h4⟩
        · rw [h4]; exact hs
        · rcases List.mem_append.1 hg' with h5 | h5
          · have := kidsS_mem h5
            rw [h4, show g'.2.2 = K.length by rw [this]]; exact hs
          · have := (hd1.1 g' h5).1
            omega
      · rename_i h1
        have hf0 : r.2.fin = 0 := by
          by_cases h : r.2.fin = 0
          · exact h
          · exact absurd (.inl h) h1
        have hne : r.1 ≠ (lvl : Int) := fun h => h1 (.inr h)
        obtain ⟨hin, n, ht, hk⟩ := e4 hf0
        split
        · rename_i h2
          refine ⟨L, e1, by omega, fun h => absurd hf0 h, fun _ => ⟨hin, n, ?_, fun L' F hs => (hk L' F hs).mono hYY⟩⟩
          rcases ht with ⟨h3, h4⟩ | ⟨g', hg', h3, h4⟩
          · omega
          · rcases List.mem_append.1 hg' with h5 | h5
            · have := kidsS_mem h5
              exact absurd (h3.trans (by rw [show g'.2.1 = lvl by rw [this]])) hne
            · exact .inr ⟨g', h5, h3, h4⟩
        · rename_i h2
          refine ⟨L, e1, by simp only; omega, fun h => absurd hf0 h, fun _ => ⟨hin, K.length, .inl ⟨rfl, rfl⟩, fun L' F hs => (hk L' F ?_).mono hYY⟩⟩
          rcases ht with ⟨h3, h4⟩ | ⟨g', hg', h3, h4⟩
          · rw [h4]; exact hs
          · omega
  | cons id2 ids ih =>
    intro id st Y hi0 hi h0 hY
    have hne2 : (id2 :: ids) ≠ [] := by simp
    rw [tryL]
    simp only [tryM, chK, hne2, if_false] at hY
    simp only
    split
    · rename_i hc
      simp only [hc, if_true] at hY
      exact ⟨[], by simp, Nat.le_refl _, fun _ => ⟨6, _, hY 0 _ rfl, rfl, rfl, .inl ⟨by decide, rfl⟩⟩, fun h => by simp at h⟩
    rename_i hc
    simp only [hc, if_false] at hY
    split
    · rename_i hc
      simp only [hc, if_true] at hY
      exact ⟨[], by simp, Nat.le_refl _, fun _ => ⟨8, _, hY 0 _ rfl, rfl, rfl, .inl ⟨by decide, rfl⟩⟩, fun h => by simp at h⟩
    rename_i hc
    simp only [hc, if_false] at hY
    split
    · rename_i hc
      simp only [hc, if_true, ne_eq, not_false_eq_true] at hY
      refine ih id2 { st with tried := st.tried + 1 } Y hi0 hi h0 ?_
      intro n x hx
      refine hY (n + 1) x ?_
      rw [← hx]
      rfl
    rename_i hc
    simp only [hc, if_false] at hY
    split
    · rename_i hc
      simp only [hc, if_true] at hY
      exact ⟨[], by simp, by simp, fun _ => ⟨10, _, hY 0 _ rfl, rfl, rfl, .inl ⟨by decide, rfl⟩⟩, fun h => by simp at h⟩
    · rename_i hc
      simp only [hc, if_false] at hY
      generalize (uniS [(g, (argOf (hp ++ nsOf (cls.getD (id.toNat - 48) ([], [])).2 hp.length) hp.length 0).getD 0)] (hp ++ nsOf (cls.getD (id.toNat - 48) ([], [])).2 hp.length) 0).2.2 = u at hY ⊢
      obtain ⟨K1, hK1⟩ : ∃ K1 : List Ch, K1 = ⟨hp, g, gs.map gf, id2 :: ids, proof⟩ :: K := ⟨_, rfl⟩
      have hl1 : K1.length = K.length + 1 := by rw [hK1]; rfl
      rw [← hK1] at hY
      rw [← hl1]
      have hdec : Dec (kidsS u hp.length 1 lvl K.length ++ gs) (lvl + 1) K1.length := by
        refine ⟨?_, ?_⟩
        · intro x hx
          rcases List.mem_append.1 hx with h | h
          · have := kidsS_mem h
            rw [show x.2.1 = lvl by rw [this], show x.2.2 = K.length by rw [this]]
            omega
          · have := hd1.1 x h; omega
        · rw [List.pairwise_append]
          refine ⟨?_, hd1.2, ?_⟩
          · rw [List.pairwise_iff_forall_sublist]
            intro a b hab
            have ha := kidsS_mem (hab.subset (by simp : a ∈ [a, b]))
            have hb := kidsS_mem (hab.subset (by simp : b ∈ [a, b]))
            rw [ha, hb]; simp
          · intro a ha b hb
            have ha := kidsS_mem ha
            have hb := hd1.1 b hb
            rw [show a.2.1 = lvl by rw [ha], show a.2.2 = K.length by rw [ha]]
            omega
      have hs := hrec u (kidsS u hp.length 1 lvl K.length ++ gs) (proof ++ [id]) K1 { st with tried := st.tried + 1, inf := st.inf + 1 } (by have := kidsS_len u hp.length lvl K.length; simp; omega) (by simp; omega) (by simp; omega) h0 hdec
      obtain ⟨L, e1, e2, e3, e4⟩ := hs
      generalize rec _ _ _ _ _ _ = r at e1 e2 e3 e4 ⊢
      have hYY : ∀ x, Yield cls fuel false ⟨u, (kidsS u hp.length 1 lvl K.length ++ gs).map gf, proof ++ [id], K1, st.inf + 1, st.tried + 1⟩ x → Y x := by
        rintro x ⟨n, hn⟩
        refine hY n x ?_
        rw [List.map_append, kids_gf] at hn
        exact hn
      simp only at e1 e2
      split
      · rename_i h1
        refine ⟨L, e1, by simp only; omega, fun h => (e3 h).mono hYY, fun h => ?_⟩
        have h2 : r.1 = (lvl : Int) := by rcases h1 with h1 | h1; exact absurd h h1; exact h1
        obtain ⟨hin, n, ht, hk⟩ := e4 h
        refine ⟨hin, K.length, .inl ⟨rfl, rfl⟩, ?_⟩
        intro L' F hs
        refine (hk L' F ?_).mono hYY
        rcases ht with ⟨h3, h4⟩ | ⟨g', hg', h3, h4⟩
        · omega
        · rcases List.mem_append.1 hg' with h5 | h5
          · have := kidsS_mem h5
            rw [h4, show g'.2.2 = K.length by rw [this], hK1, cutK_cons (Nat.le_refl _)]; exact hs
          · have := (hd1.1 g' h5).1
            omega
      · rename_i h1
        have hf0 : r.2.fin = 0 := by
          by_cases h : r.2.fin = 0
          · exact h
          · exact absurd (.inl h) h1
        have hne : r.1 ≠ (lvl : Int) := fun h => h1 (.inr h)
        obtain ⟨hin, n, ht, hk⟩ := e4 hf0
        split
        · rename_i h2
          rcases ht with ⟨h3, h4⟩ | ⟨g', hg', h3, h4⟩
          · omega
          · rcases List.mem_append.1 hg' with h5 | h5
            · have := kidsS_mem h5
              exact absurd (h3.trans (by rw [show g'.2.1 = lvl by rw [this]])) hne
            · refine ⟨L, e1, by omega, fun h => absurd hf0 h, fun _ => ⟨hin, n, .inr ⟨g', h5, h3, h4⟩, fun L' F hs => (hk L' F ?_).mono hYY⟩⟩
              rw [hK1, cutK_cons (by rw [h4]; exact (hd1.1 g' h5).2)]; exact hs
        · rename_i h2
          have hn : n = K1.length := by
            rcases ht with ⟨h3, h4⟩ | ⟨g', hg', h3, h4⟩
            · exact h4
            · omega
          rw [hn, cutK_all] at hk
          obtain ⟨L2, f1, f2, f3, f4⟩ := ih id2 r.2 (Yield cls fuel true (back K1 r.2.inf r.2.tried)) (by omega) hin hf0 (by
            intro n x hx
            refine ⟨n + 1, ?_⟩
            rw [← hx, hK1]
            rfl)
          refine ⟨L ++ L2, by rw [f1, e1, List.append_assoc], by omega, fun h => (hk _ _ (f3 h)).mono hYY, fun h => ?_⟩
          obtain ⟨g1, n2, g2, g3⟩ := f4 h
          refine ⟨g1, n2, g2, fun L' F hs => ?_⟩
          rw [List.append_assoc]
          exact (hk _ _ (g3 L' F hs)).mono hYY

theorem dfs_str {cls : List Cl2} {fuel : Nat} : ∀ (f : Nat) (hp : List Nd) (gs : List Gl) (proof : List UInt8) (lvl : Nat) (K : List Ch) (st : SSt), 4 * (fuel + 1 - st.inf) + gs.length + 1 ≤ f → st.inf ≤ fuel → st.fin = 0 → Dec gs lvl K.length →
    Sim cls fuel (Yield cls fuel false ⟨hp, gs.map gf, proof, K, st.inf, st.tried⟩) gs K st (dfsF cls fuel f hp gs proof lvl K.length st)
  | 0, hp, gs, proof, lvl, K, st, hf, hi, h0, hd1 => by omega
  | f + 1, hp, [], proof, lvl, K, st, hf, hi, h0, hd1 => by
    simp only [dfsF]
    split
    · rename_i hp1
      refine ⟨[(0, st.inf, st.tried, (putF 49 hp 0 [] []).2.1 ++ [35] ++ proof ++ [if 0 < K.length then 59 else 46])], rfl, Nat.le_refl _, fun h => absurd h0 h, fun _ => ⟨hi, K.length, .inl ⟨rfl, rfl⟩, ?_⟩⟩
      intro L' F hs
      rw [cutK_all] at hs
      refine ⟨_, ⟨1, rfl⟩, hp1, rfl, hs.mono ?_⟩
      rintro x ⟨n, hn⟩
      exact ⟨n, by rw [← hn]; exact mrun_back rfl rfl rfl⟩
    · rename_i hp1
      refine ⟨[], by simp, Nat.le_refl _, fun _ => ⟨0, _, ⟨1, rfl⟩, rfl, rfl, .inr ⟨rfl, by simpa using hp1, rfl⟩⟩, fun h => by simp at h⟩
  | f + 1, hp, g :: gs, proof, lvl, K, st, hf, hi, h0, hd1 => by
    have hg := hd1.1 g (by simp)
    have hd2 : ∀ b ∈ gs, b.2.1 ≤ g.2.1 ∧ b.2.2 ≤ g.2.2 ∧ (b.2.1 = g.2.1 → b.2.2 = g.2.2) := (List.pairwise_cons.1 hd1.2).1
    have hd3 := (List.pairwise_cons.1 hd1.2).2
    simp only [dfsF]
    split
    · rename_i hcut
      have hkl := cutK_len hg.2
      have hs := dfs_str (cls := cls) (fuel := fuel) f hp gs proof lvl (cutK g.2.2 K) st (by simp at hf; omega) hi h0 ⟨fun x hx => ⟨(hd1.1 x (by simp [hx])).1, by rw [hkl]; exact (hd2 x hx).2.1⟩, hd3⟩
      rw [hkl] at hs
      obtain ⟨L, e1, e2, e3, e4⟩ := hs
      generalize dfsF cls fuel f hp gs proof lvl g.2.2 st = r at e1 e2 e3 e4 ⊢
      have hYY : ∀ x, Yield cls fuel false ⟨hp, gs.map gf, proof, cutK g.2.2 K, st.inf, st.tried⟩ x → Yield cls fuel false ⟨hp, (g :: gs).map gf, proof, K, st.inf, st.tried⟩ x := by
        rintro x ⟨n, hn⟩
        refine ⟨n + 1, ?_⟩
        simp only [mrun, List.map_cons, gf, hcut, if_true]
        exact hn
      rw [hkl] at e4
      split
      · rename_i hr
        refine ⟨L, e1, e2, fun h => (e3 h).mono hYY, fun h => ?_⟩
        obtain ⟨hin, n, ht, hk⟩ := e4 h
        rcases ht with ⟨h3, h4⟩ | ⟨g', hg', h3, h4⟩
        · omega
        · refine ⟨hin, n, .inr ⟨g', by simp [hg'], h3, h4⟩, fun L' F hs => (hk L' F ?_).mono hYY⟩
          rw [cutK_cut (by rw [h4]; exact (hd2 g' hg').2.1) hg.2]; exact hs
      · rename_i hr
        refine ⟨L, e1, e2, fun h => (e3 h).mono hYY, fun h => ?_⟩
        obtain ⟨hin, n, ht, hk⟩ := e4 h
        refine ⟨hin, g.2.2, .inr ⟨g, by simp, rfl, rfl⟩, fun L' F hs => (hk L' F ?_).mono hYY⟩
        have hn : n = g.2.2 := by
          rcases ht with ⟨h3, h4⟩ | ⟨g', hg', h3, h4⟩
          · exact h4
          · have := hd2 g' hg'
            rw [h4]
            exact this.2.2 (by omega)
        rw [hn, cutK_cut (Nat.le_refl _) hg.2]; exact hs
    · rename_i hcut
      have hd4 : Dec gs lvl K.length := ⟨fun x hx => hd1.1 x (by simp [hx]), hd3⟩
      cases hm : matchS cls (hd hp g.1) (hdO hp (argOf hp g.1 0)) with
      | nil =>
        simp only [tryL]
        refine ⟨[], by simp, Nat.le_refl _, fun h => absurd h0 h, fun _ => ⟨hi, K.length, .inl ⟨rfl, rfl⟩, fun L' F hs => hs.mono ?_⟩⟩
        rintro x ⟨n, hn⟩
        refine ⟨n + 1, ?_⟩
        simp only [mrun, List.map_cons, gf, hcut, if_false, hm]
        rw [← hn, cutK_all]
        exact mrun_back rfl rfl rfl
      | cons id ids =>
        have hs := tryL_str (cls := cls) (fuel := fuel) (rec := dfsF cls fuel f) (hp := hp) (g := g.1) (proof := proof) hd4 (i0 := st.inf) (fun hp gs' proof K st' h1 h2 h3 h4 h5 => dfs_str (cls := cls) (fuel := fuel) f hp gs' proof (lvl + 1) K st' (by simp at hf; omega) h3 h4 h5) ids id st
          (Yield cls fuel false ⟨hp, (g :: gs).map gf, proof, K, st.inf, st.tried⟩) (Nat.le_refl _) hi h0 (by
            intro n x hx
            refine ⟨n + 1, ?_⟩
            simp only [mrun, List.map_cons, gf, hcut, if_false, hm]
            exact hx)
        obtain ⟨L, e1, e2, e3, e4⟩ := hs
        refine ⟨L, e1, e2, e3, fun h => ?_⟩
        obtain ⟨hin, n, ht, hk⟩ := e4 h
        refine ⟨hin, n, ?_, hk⟩
        rcases ht with h | ⟨g', hg', h3, h4⟩
        · exact .inl h
        · exact .inr ⟨g', by simp [hg'], h3, h4⟩

end Go.Proofs.Qxb6500569aGreat
