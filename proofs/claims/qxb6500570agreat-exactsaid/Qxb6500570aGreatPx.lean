import Derived.Test.Qxb6500570aGreatEf
/- Plain: the sheet: what its cells show; that it is one; how it is swept. -/
namespace Go.Proofs.Qxb6500570aGreat
set_option linter.unusedVariables false
set_option linter.unusedSimpArgs false

/-! ### what a text is worth hangs on what it reads -/
theorem sweep_dep {fn m : Nat} {env env' : Nat → Vl} : ∀ (k c : Nat) (t : Ty), (∀ d, c ≤ d → d < c + k → m.testBit d = true → env d = env' d) → sweepT fn m env k c t = sweepT fn m env' k c t
  | 0, _, _, _ => rfl
  | k + 1, c, t, h => by
    show sweepT fn m env k (c + 1) _ = sweepT fn m env' k (c + 1) _
    have : (if m.testBit c = true then takeT fn (env c) true t else t) = (if m.testBit c = true then takeT fn (env' c) true t else t) := by
      split
      · rename_i hb; rw [h c (Nat.le_refl _) (by omega) hb]
      · rfl
    rw [this]
    exact sweep_dep k (c + 1) _ (fun d h1 h2 hb => h d (by omega) (by omega) hb)
theorem ev_dep {n : List Nd} {env env' : Nat → Vl} (h : ∀ (i : Int) (d : Nat), d < 24 → (rdN (ndA n i)).testBit d = true → env d = env' d) : ∀ (g fn : Nat) (i : Int), evF n env g fn i = evF n env' g fn i := by
  intro g
  induction g with
  | zero => intro fn i; rfl
  | succ g ih =>
    intro fn i
    unfold evF
    simp only [ih]
    split
    · congr 1
      split
      · rename_i hk
        cases hb : blkR (ndA n (ndA n i).a).p (ndA n (ndA n i).a).q with
        | none => rfl
        | some m =>
          refine sweep_dep 24 0 _ (fun d _ hd hbit => h (ndA n i).a d (by omega) ?_)
          unfold rdN
          rw [if_pos hk, hb, Nat.testBit_or]
          show (_ || m.testBit d) = true
          rw [hbit, Bool.or_true]
      · rfl
    · congr 1
      split
      · rfl
      · split
        · rfl
        · split
          · rename_i hk
            split
            · rename_i hg
              refine h i _ (cell_lt hg) ?_
              unfold rdN
              rw [if_pos ⟨hk, hg⟩, Nat.testBit_or, bit_pow]
              simp
            · rfl
          · rfl
theorem rdF_in (n : List Nd) : ∀ (k j d : Nat), j < k → (rdN (ndA n (j : Nat))).testBit d = true → (rdF n 0 k).testBit d = true
  | 0, j, d, h, _ => by omega
  | k + 1, j, d, h, hb => by
    show (rdF n 0 k ||| rdN (ndA n (0 + k : Nat))).testBit d = true
    rw [Nat.testBit_or, Nat.zero_add, Bool.or_eq_true]
    by_cases e : j = k
    · subst e; exact .inr hb
    · exact .inl (rdF_in n k j d (by omega) hb)
theorem rdN_lt (x : Nd) : rdN x < 2 ^ 24 := by
  unfold rdN
  refine or_lt ?_ ?_
  · split
    · rename_i h; exact bit_lt (cell_lt h.2)
    · decide
  · split
    · cases hb : blkR x.p x.q with
      | none => show 0 < 2 ^ 24; decide
      | some m => exact blk_lt hb
    · decide
theorem rdF_lt (n : List Nd) (lo : Nat) : ∀ k, rdF n lo k < 2 ^ 24
  | 0 => by show 0 < 2 ^ 24; decide
  | k + 1 => or_lt (rdF_lt n lo k) (rdN_lt _)
theorem rdsV_lt (raw : List UInt8) : rdsV raw < 2 ^ 24 := by
  unfold rdsV
  split
  · split
    · decide
    · exact rdF_lt _ _ _
  · decide
theorem vT_dep {n : List Nd} {env env' : Nat → Vl} (h : ∀ d, d < 24 → (rdT n).testBit d = true → env d = env' d) : vT n env = vT n env' := by
  unfold vT
  rw [ev_dep (env' := env')]
  intro i d hd hb
  refine h d hd ?_
  unfold rdT
  by_cases hi : 0 ≤ i ∧ i < n.length
  · refine rdF_in n n.length i.toNat d (by omega) ?_
    rw [Int.toNat_of_nonneg hi.1]; exact hb
  · -- no node there, or the node at 0
    by_cases h0 : i < 0
    · cases n with
      | nil => unfold ndA at hb; simp [nd0, rdN] at hb
      | cons y t =>
        have e : ndA (y :: t) i = ndA (y :: t) ((0 : Nat) : Int) := by unfold ndA; rw [Int.toNat_of_nonpos (by omega)]; rfl
        rw [e] at hb
        exact rdF_in (y :: t) _ 0 d (by simp) hb
    · have e : ndA n i = nd0 := by
        unfold ndA
        rw [List.getD_eq_getElem?_getD, List.getElem?_eq_none (by omega)]
        rfl
      rw [e] at hb
      simp [nd0, rdN] at hb
theorem cellV_dep {raw : List UInt8} {S S' : Nat → Vl} (h : ∀ d, d < 24 → (rdsV raw).testBit d = true → S d = S' d) : cellV raw S = cellV raw S' := by
  unfold cellV
  unfold rdsV at h
  split
  · rename_i hq
    rw [if_pos hq] at h
    split
    · rfl
    · rename_i n hp
      rw [hp] at h
      exact vT_dep h
  · rfl
theorem plainV_lw {s : List UInt8} (hs : s.length ≤ 40) : Lw (plainV s) := by
  have hall : ∀ (D : List UInt8), ¬ (D.length < 1 ∨ 9 < D.length ∨ D.all dg = false) → numF D ≤ 999999999 := by
    intro D h
    have ha : D.all dg = true := by
      cases hq : D.all dg with
      | true => rfl
      | false => exact absurd (.inr (.inr hq)) h
    have := numF_all (d := D) D.length (fun c hc => List.all_eq_true.1 ha c hc) (by omega)
    rwa [List.take_length] at this
  have ht : Lw ⟨2, 0, s⟩ := .inr (.inr (.inl ⟨rfl, rfl, hs⟩))
  unfold plainV
  split
  · exact Lw.z
  · by_cases h3 : s[0]? = some 45
    · simp only [if_pos h3]
      split
      · exact ht
      · rename_i h2
        have := hall _ h2
        exact Lw.i (by omega) (by omega)
    · simp only [if_neg h3, List.drop_zero]
      split
      · exact ht
      · rename_i h2
        have := hall _ h2
        exact Lw.i (by omega) (by omega)
theorem cellV_lw {raw : List UInt8} {S : Nat → Vl} (hr : raw.length ≤ 40) (hS : ∀ c, c < 24 → Lw (S c)) : Lw (cellV raw S) := by
  unfold cellV
  split
  · split
    · exact Lw.e (by omega) (by omega)
    · rename_i n hp
      exact (tree_law (prs_ok hp) hS).2.1
  · exact plainV_lw hr

/-! ### the sheet -/
abbrev rdT' (T : Nat → List UInt8) : Nat → Nat := fun c => rdsV (T c)
def ShOK (T : Nat → List UInt8) (L : Nat → Int) (S : Nat → Vl) : Prop := LvOK (rdT' T) L ∧ ∀ c, c < 24 → (L c = -1 → S c = vE 6) ∧ (0 ≤ L c → S c = cellV (T c) S)
theorem sh_uniq {T : Nat → List UInt8} {L M : Nat → Int} {S S' : Nat → Vl} (h : ShOK T L S) (g : ShOK T M S') (c : Nat) (hc : c < 24) : S c = S' c := by
  have hLM := lv_uniq h.1 g.1
  have key : ∀ (n c : Nat), c < 24 → 0 ≤ L c → L c ≤ n → S c = S' c := by
    intro n
    induction n using Nat.strongRecOn with
    | _ n ih =>
      intro c hc h0 hn
      rw [(h.2 c hc).2 h0, (g.2 c hc).2 (by rw [hLM c hc]; exact h0)]
      refine cellV_dep (fun d hd hb => ?_)
      rcases h.1 c hc with q | q
      · have := q.2.1 d ⟨hd, hb⟩
        exact ih (L d).toNat (by omega) d hd this.1 (by omega)
      · exact absurd q.1 (by omega)
  rcases h.1 c hc with q | q
  · exact key (L c).toNat c hc q.1 (by have := q.1; omega)
  · rw [(h.2 c hc).1 q.1, (g.2 c hc).1 (by rw [hLM c hc]; exact q.1)]
/-- Levels agree on a part that is closed under reading. -/
theorem lv_part {r r' : Nat → Nat} {L M : Nat → Int} (h : LvOK r L) (g : LvOK r' M) {A : Nat → Prop} (hA : ∀ c, A c → c < 24 ∧ r' c = r c ∧ ∀ d, rdB r c d → A d) (c : Nat) (hc : A c) : M c = L c := by
  have half : ∀ {r r' : Nat → Nat} {L M : Nat → Int}, LvOK r L → LvOK r' M → (∀ c, A c → c < 24 ∧ r' c = r c ∧ ∀ d, rdB r c d → A d) → ∀ (n c : Nat), A c → 0 ≤ L c → L c ≤ n → M c = L c := by
    intro r r' L M h g hA n
    induction n using Nat.strongRecOn with
    | _ n ih =>
      intro c hc h0 hn
      obtain ⟨hc24, hrr, hcl⟩ := hA c hc
      have hS : SetL r L c := by
        rcases h c hc24 with q | q
        · exact q
        · exact absurd q.1 (by omega)
      have hd : ∀ d, rdB r c d → M d = L d := by
        intro d hd
        have := hS.2.1 d hd
        exact ih (L d).toNat (by omega) d (hcl d hd) this.1 (by omega)
      have hrd : ∀ d, rdB r' c d → rdB r c d := fun d q => ⟨q.1, by rw [← hrr]; exact q.2⟩
      have hrd' : ∀ d, rdB r c d → rdB r' c d := fun d q => ⟨q.1, by rw [hrr]; exact q.2⟩
      rcases g c hc24 with q | q
      · obtain ⟨q1, q2, q3⟩ := q
        rcases hS.2.2 with e | ⟨d, hrd1, e⟩
        · rcases q3 with e' | ⟨d', hd', e'⟩
          · rw [e, e']
          · have := hd d' (hrd d' hd')
            have := hS.2.1 d' (hrd d' hd')
            omega
        · have h1 := hd d hrd1
          have h2 := q2 d (hrd' d hrd1)
          rcases q3 with e' | ⟨d', hd', e'⟩
          · omega
          · have := hd d' (hrd d' hd')
            have := hS.2.1 d' (hrd d' hd')
            omega
      · obtain ⟨d, hd1, hd2⟩ := q.2
        have := hd d (hrd d hd1)
        have := (hS.2.1 d (hrd d hd1)).1
        omega
  have hA' : ∀ c, A c → c < 24 ∧ r c = r' c ∧ ∀ d, rdB r' c d → A d := fun c q => by
    obtain ⟨a, b, e⟩ := hA c q
    exact ⟨a, b.symm, fun d hd => e d ⟨hd.1, by rw [← b]; exact hd.2⟩⟩
  rcases h c (hA c hc).1 with q | q
  · exact half h g hA (L c).toNat c hc q.1 (by have := q.1; omega)
  · rcases g c (hA c hc).1 with p | p
    · have := half g h hA' (M c).toNat c hc p.1 (by have := p.1; omega)
      rw [this]
    · rw [p.1, q.1]

/-! ### the sweep -/
/-- The sweep under way: done: the cells of the list that have had their turn; S0: what the cells showed at first. -/
structure SwI (T : Nat → List UInt8) (L : Nat → Int) (h : Nat) (S0 S : Nat → Vl) (turned : Nat) (done todo : List Nat) : Prop where
  tl : turned < 2 ^ 24
  ok : ∀ x, x ∈ done → S x = cellV (T x) S
  tn : ∀ x, x < 24 → (turned.testBit x = false → S x = S0 x)
  nd : ∀ x, x < 24 → x ∉ done → turned.testBit x = false
/-- The new sheet. -/
theorem SwI.turn {T : Nat → List UInt8} {L : Nat → Int} {h : Nat} {S0 S S' : Nat → Vl} {turned turned' : Nat} {done todo : List Nat} {x : Nat} (hlv : LvOK (rdT' T) L) (ho : OrdOK L h (done ++ x :: todo))
    (i : SwI T L h S0 S turned done (x :: todo)) (hx : S' x = cellV (T x) S) (hS : ∀ y, y < 24 → y ≠ x → S' y = S y) (htl : turned' < 2 ^ 24) (ht : ∀ y, y < 24 → y ≠ x → turned'.testBit y = turned.testBit y) (htx : turned'.testBit x = false → S' x = S x) : SwI T L h S0 S' turned' (done ++ [x]) todo := by
  have hx24 : x < 24 ∧ h.testBit x = true ∧ 0 ≤ L x := (ho.1 x).1 (by simp)
  have hpw := ho.2
  rw [List.pairwise_append] at hpw
  obtain ⟨p1, p2, p3⟩ := hpw
  have hnr : ∀ y, y < 24 → 0 ≤ L y → ¬ lexP L x y → ¬ rdB (rdT' T) y x := by
    intro y hy h0 hl hr
    rcases hlv y hy with q | q
    · have := (q.2.1 x hr).2
      exact hl (.inl this)
    · exact absurd q.1 (by omega)
  have hxn : x ∉ done := fun hm => lexP.irr (p3 x hm x (by simp))
  refine ⟨htl, fun y hy => ?_, fun y hy hq => ?_, fun y hy hq => ?_⟩
  · rcases List.mem_append.1 hy with hy | hy
    · have hyx : y ≠ x := fun e => hxn (e ▸ hy)
      have hym : y < 24 ∧ h.testBit y = true ∧ 0 ≤ L y := (ho.1 y).1 (by simp [hy])
      have hyl := p3 y hy x (by simp)
      rw [hS y hym.1 hyx, i.ok y hy]
      refine cellV_dep (fun d hd hb => ?_)
      refine (hS d hd (fun e => ?_)).symm
      subst e
      exact hnr y hym.1 hym.2.2 hyl.asym ⟨hd, hb⟩
    · rw [List.mem_singleton] at hy
      subst hy
      rw [hx]
      refine cellV_dep (fun d hd hb => (hS d hd (fun e => ?_)).symm)
      subst e
      exact hnr d hd hx24.2.2 lexP.irr ⟨hd, hb⟩
  · by_cases e : y = x
    · subst e
      rw [htx hq, i.tn y hy (i.nd y hy hxn)]
    · rw [hS y hy e, i.tn y hy (by rw [← ht y hy e]; exact hq)]
  · have hyx : y ≠ x := fun e => hq (by simp [e])
    rw [ht y hy hyx]
    exact i.nd y hy (fun hm => hq (by simp [hm]))

end Go.Proofs.Qxb6500570aGreat
