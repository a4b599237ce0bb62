import Derived.Test.Qxb6500568aGreatDoorYd
namespace Go.Proofs.Qxb6500568aGreatDoor
open Ieee
set_option linter.unusedVariables false
set_option linter.unusedSimpArgs false
set_option linter.unusedSectionVars false

/-! The whole step keeps the shape; the shape at every step of a run. -/

section
variable {G : Arena} {root E h n x e k : Nat} {r T : List Tk} {t : Tk} {s : IS} {v : PV}

theorem PW.apply1 (hG : 0 < G.length) (P : PW G root s T h) (hT : TkI G s.envs.length T (h + 2)) (hf : flT T ≤ h) {zs : List PV} {fn : PV} (hz : ∀ v ∈ zs, ok s v) (hfn : ok s fn) : IWd G root (iapply1 G root zs fn s) := by
  have ha : ok s (zs.getD 0 vNil) := IOK.getD hz 0
  have hb : ok s (zs.getD 1 vNil) := IOK.getD hz 1
  unfold iapply1
  simp only
  generalize zs.getD 0 vNil = a at *
  generalize zs.getD 1 vNil = b at *
  have raise : ∀ m, IWd G root (iraise m s) := fun m => P.throw hT hf _
  have two : ∀ p q, IWd G root (ipush q (ipush p s)) := fun p q => ((P.push p).push q).iw hT
  have hdp : s.th.depth = nR T := P.d
  have ent : ∀ c zs p, c < s.clos.length → ¬ 8 ≤ s.th.depth → p ≤ 1 → IWd G root (ienter G root c zs p s) := fun c zs p hc hd hp => PW.enter hG P (fun _ => hT) hc (by omega) hp (fun q => absurd q hT.ne) hf zs
  refine IWd.ite (fun h5 => IWd.ite (fun _ => raise _) (fun hd => ent _ _ _ (hfn.f h5) hd (by decide))) (fun _ => ?_)
  refine IWd.ite (fun _ => raise _) (fun _ => ?_)
  refine IWd.ite (fun _ => IWd.ite (fun _ => .fin _ _) (fun ho => ?_)) (fun _ => ?_)
  · refine (((P.outP (o := s.out ++ txV a ++ [10]) ?_).push _).push _).iw hT
    simp only [List.length_append, List.length_cons, List.length_nil]; omega
  refine IWd.ite (fun _ => two _ _) (fun _ => ?_)
  refine IWd.ite (fun _ => two _ _) (fun _ => ?_)
  refine IWd.ite (fun _ => two _ _) (fun _ => ?_)
  refine IWd.ite (fun _ => P.throw hT hf _) (fun _ => ?_)
  refine IWd.ite (fun _ => IWd.ite (fun _ => two _ _) (fun h5 => IWd.ite (fun _ => two _ _) (fun hd => ent _ _ _ (ha.f (by omega)) hd (by decide)))) (fun _ => ?_)
  refine IWd.ite (fun _ => IWd.ite (fun _ => raise _) (fun _ => ?_)) (fun _ => ?_)
  · split
    · exact raise _
    · exact two _ _
  refine IWd.ite (fun _ => IWd.ite (fun _ => raise _) (fun h5 => IWd.ite (fun _ => .fin _ _) (fun _ => ?_))) (fun _ => ?_)
  · exact (((P.newT (ha.f (by omega))).push _).push _).iw hT
  refine IWd.ite (fun _ => IWd.ite (fun _ => raise _) (fun h7 => IWd.ite (fun _ => two _ _) (fun hst => ?_))) (fun _ => ?_)
  · exact PW.resume hG P hT (by omega) (ha.co (by omega))
  refine IWd.ite (fun _ => IWd.ite (fun _ => raise _) (fun h0 => ?_)) (fun _ => ?_)
  · have hb := P.b.bt
    cases hs : s.stack with
    | nil => rw [hs] at hb; simp at hb; exact absurd hb h0
    | cons c q =>
      have : IWd G root (iback true a (s.setT { s.th with st := 2 })) := by
        refine (P.b.setT (by simp)).back ?_ true a
        rw [th_setT P.cl]
        exact ⟨(fun q => by cases q), fun _ => by show TkI G s.envs.length s.th.tasks (s.th.vals.length + 2); rw [P.t, P.v]; exact hT, (fun q => by cases q), (fun q => by cases q), ⟨(show 1 ≤ 2 by decide), (show 2 ≤ 5 by decide)⟩, by show s.th.depth = nR s.th.tasks; rw [P.t]; exact P.d, by show s.th.depth ≤ 8; rw [P.d]; exact P.d8⟩
      unfold iback at this
      have e : (s.setT { s.th with st := 2 }).stack = c :: q := hs
      rw [e] at this ⊢
      exact this
  refine IWd.ite (fun _ => IWd.ite (fun _ => raise _) (fun _ => two _ _)) (fun _ => two _ _)
theorem PW.iset (P : PW G root s T h) (hT : TkI G s.envs.length T h) (t k v : PV) : IWd G root (iset t k v s) := by
  have hf := hT.fl.1
  unfold Go.Proofs.Qxb6500568aGreatDoor.iset
  refine IWd.ite (fun _ => P.throw hT hf _) (fun _ => ?_)
  simp only
  exact IWd.ite (fun _ => .fin _ _) (fun _ => IWd.ite (fun _ => P.throw hT hf _) (fun _ => (P.tabs _).iw hT))
theorem PW.res (P : PW G root s T h) (hT : TkI G s.envs.length T (h + 1)) (hf : flT T ≤ h) (q : Res) : IWd G root (ires q s) := by
  unfold ires
  split
  · exact (P.push _).iw hT
  · exact P.throw hT hf _
theorem PW.burnDo (P : PW G root s T h) (hk : k ≠ 3) (hT : TkI G s.envs.length (⟨k, n, x, e⟩ :: T) h) : IWd G root (if (iburn s).done then iburn s else ido k n x e (iburn s)) := by
  unfold iburn
  by_cases h0 : s.fuel = 0
  · rw [if_pos h0]; exact IWd.ite (fun _ => .fin _ _) (fun q => absurd rfl q)
  · rw [if_neg h0]
    exact IWd.ite (fun q => by have := P.b.dn; rw [show s.done = true from q] at this; cases this) (fun _ => (P.fuel.doT hk).iw hT)
/-- where the task at hand needs a table, there is one. -/
def TabAt (s : IS) : Prop := ∀ t r, s.th.tasks = t :: r → t.k = 19 ∨ t.k = 23 → (s.top 1).T = 4

theorem iset_num {t v : PV} {x : Nat} (h4 : t.T = 4) : iset t (vNum (fInt x)) v s = if (tSet (s.tabs.getD t.N []) (vNum (fInt x)) v).1 = 8 then ifin 8 [45] s else { s with tabs := s.tabs.set t.N (tSet (s.tabs.getD t.N []) (vNum (fInt x)) v).2 } := by
  have hR2 := tSet_num (s.tabs.getD t.N []) x v
  unfold iset
  rw [if_neg (fun q => q h4)]
  simp only
  generalize tSet (s.tabs.getD t.N []) (vNum (fInt x)) v = R at *
  split
  · rfl
  · rename_i h8
    have h0 : R.1 = 0 := by rcases hR2 with h | h; exact absurd h h8; exact h
    rw [if_neg (fun q => q h0)]
theorem IW.step (hG : 0 < G.length) (H : IW G root s) (hI : IOK s) (hTb : TabAt s) : IWd G root (istep G root s) := by
  obtain ⟨T, h, P0, hT⟩ := H
  cases T with
  | nil => exact hT.elim
  | cons t r =>
  have htb := hTb t r P0.t
  unfold istep
  rw [P0.t]
  simp only
  obtain ⟨k, n, x, e⟩ := t
  by_cases h3 : k = 3
  · subst h3
    have hf := hT.fl.1
    unfold istep1
    rw [if_neg (show ¬ ((3 : Nat) = 1) by decide), if_neg (show ¬ ((3 : Nat) = 2) by decide), if_pos rfl]
    exact P0.ret hT hf _ _
  have P := P0.pop (t := ⟨k, n, x, e⟩) h3
  obtain ⟨he0, hn, hb, hf, hk, hT0⟩ := hT.inv (t := ⟨k, n, x, e⟩) h3
  have hI' : IOK (s.setT { s.th with tasks := r }) := hI.setT hI.th
  have htop : (s.setT { s.th with tasks := r }).top 1 = s.top 1 := by unfold IS.top; rw [th_setT P0.cl]
  rw [← htop] at htb
  have hT : TkI G (s.setT { s.th with tasks := r }).envs.length r (nextH ⟨k, n, x, e⟩ h) := hT0
  have he : e ≤ (s.setT { s.th with tasks := r }).envs.length := he0
  clear he0 hT0
  have hrg := hk.rg
  have hrg : k ≤ 28 := hrg
  generalize hs' : s.setT { s.th with tasks := r } = s' at *
  clear hs' hI hTb P0 htop
  have hfl := hT.fl
  unfold istep1
  simp only
  refine IWd.ite (fun q => ?_) (fun n1 => ?_)
  · subst q
    exact IWd.ite (fun q => P.stmt hG hT he q hk) (fun _ => P.iw hT)
  refine IWd.ite (fun q => ?_) (fun n2 => ?_)
  · subst q
    have hk : n = 0 ∨ EB G n r h 1 := hk
    have hf : flT r ≤ h := hf
    rcases hk with rfl | hk
    · unfold ieval
      rw [if_pos rfl]
      exact IWd.ite (fun _ => (P.push _).iw hT) (fun _ => (P.push _).iw hT)
    · exact P.eval hG hT hf he hk
  refine IWd.ite (fun q => absurd q h3) (fun _ => ?_)
  refine IWd.ite (fun q => ?_) (fun n5 => ?_)
  · subst q; exact (P.drop 1).iw hT
  refine IWd.ite (fun q => ?_) (fun n6 => ?_)
  · subst q
    refine (((P.drop 1).new _ _ he).doT (show (1 : Nat) ≠ 3 by decide)).iw ?_
    show TkI G (inew _ _ _ (idrop 1 s')).envs.length _ _
    have hl : ∀ nm v, (inew nm v e (idrop 1 s')).last = s'.envs.length + 1 := fun nm v => new_len _ _ _
    rw [new_len, hl]
    exact TkI.c1 hG (Nat.le_refl _) hk (hT.mono (Nat.le_succ _))
  refine IWd.ite (fun q => ?_) (fun n7 => ?_)
  · subst q
    have hl : ∀ nm v, (inew nm v e (idrop 2 s')).envs.length = s'.envs.length + 1 := fun nm v => new_len _ _ _
    refine ((((P.drop 2).new _ _ he).new _ _ (Nat.le_refl _)).doT (show (1 : Nat) ≠ 3 by decide)).iw ?_
    show TkI G (inew _ _ _ (inew _ _ _ (idrop 2 s'))).envs.length _ _
    have hl2 : ∀ nm v nm2 v2 u, (inew nm v u (inew nm2 v2 e (idrop 2 s'))).last = s'.envs.length + 1 + 1 := fun nm v nm2 v2 u => by show (inew nm v u _).envs.length = _; rw [new_len, hl]
    rw [new_len, hl, hl2]
    exact TkI.c1 hG (Nat.le_refl _) hk.2 (hT.mono (by omega))
  refine IWd.ite (fun q => ?_) (fun n8 => ?_)
  · subst q
    refine (((P.drop 1).setE _ _).doT (show (1 : Nat) ≠ 3 by decide)).iw ?_
    show TkI G (setE _ _ (idrop 1 s')).envs.length _ _
    rw [setE_len]
    exact TkI.c1 hG he hk.2 hT
  refine IWd.ite (fun q => ?_) (fun n9 => ?_)
  · subst q
    refine IWd.ite (fun _ => ((P.drop 1).setE _ _).iw ?_) (fun _ => (P.drop 1).iset hT _ _ _)
    show TkI G (setE _ _ (idrop 1 s')).envs.length _ _
    rw [setE_len]; exact hT
  refine IWd.ite (fun q => ?_) (fun n10 => ?_)
  · subst q; exact (P.drop 3).iset hT _ _ _
  refine IWd.ite (fun q => ?_) (fun n11 => ?_)
  · subst q
    refine ((P.drop 1).doT (show (1 : Nat) ≠ 3 by decide)).iw ?_
    split
    · exact TkI.c1 hG he hk.1 hT
    · exact TkI.c1 hG he hk.2 hT
  refine IWd.ite (fun q => ?_) (fun n12 => ?_)
  · subst q
    have hT : TkI G s'.envs.length r h := hT
    have hf : flT r ≤ h := hf
    have hk : EB G (nd G n).A r h 3 ∧ SB G (nd G n).B r h 3 := hk
    refine ((P.doT (show (13 : Nat) ≠ 3 by decide)).doT (show (2 : Nat) ≠ 3 by decide)).iw ?_
    have f2 := hk.2.fl
    refine TkI.c2 he (hk.1.skip (show (13 : Nat) ≠ 3 by decide) (by omega)) hf ?_
    exact TkI.mk h (show (13 : Nat) ≠ 3 by decide) he hn (by omega) (show flT r + 1 ≤ h + 1 by omega) (show EB G (nd G n).A r (h + 1 - 1) 3 ∧ SB G (nd G n).B r (h + 1 - 1) 3 from hk) rfl hT
  refine IWd.ite (fun q => ?_) (fun n13 => ?_)
  · subst q
    have hk : EB G (nd G n).A r (h - 1) 3 ∧ SB G (nd G n).B r (h - 1) 3 := hk
    have hT : TkI G s'.envs.length r (h - 1) := hT
    refine IWd.ite (fun _ => ?_) (fun _ => (P.drop 1).iw hT)
    refine (((P.drop 1).doT (show (14 : Nat) ≠ 3 by decide)).doT (show (1 : Nat) ≠ 3 by decide)).iw ?_
    have f2 := hk.2.fl
    refine TkI.c1 hG he (hk.2.skip (show (14 : Nat) ≠ 3 by decide) (show (14 : Nat) ≠ 4 by decide) (Nat.le_refl _) (by omega)) ?_
    exact TkI.mk (h - 1) (show (14 : Nat) ≠ 3 by decide) he hn (by omega) hfl.1 hk rfl hT
  refine IWd.ite (fun q => ?_) (fun n14 => ?_)
  · subst q
    exact P.burnDo (show (12 : Nat) ≠ 3 by decide) (TkI.mk h (show (12 : Nat) ≠ 3 by decide) he hn hb hf hk rfl hT)
  refine IWd.ite (fun q => ?_) (fun n15 => ?_)
  · subst q
    have hf : flT r + 3 ≤ h := hf
    have rs : IWd G root (iraise mFor s') := P.throw hT (by omega) _
    exact IWd.ite (fun _ => IWd.ite (fun _ => (P.doT (show (16 : Nat) ≠ 3 by decide)).iw (TkI.mk (h - 3) (show (16 : Nat) ≠ 3 by decide) he hn hb hf hk rfl hT)) (fun _ => rs)) (fun _ => rs)
  refine IWd.ite (fun q => ?_) (fun n16 => ?_)
  · subst q
    have hk : SB G (nd G n).B r h 3 := hk
    have hf : flT r + 3 ≤ h := hf
    refine IWd.ite (fun _ => ?_) (fun _ => (P.drop 3).iw hT)
    refine (((P.doT (show (17 : Nat) ≠ 3 by decide)).new _ _ he).doT (show (1 : Nat) ≠ 3 by decide)).iw ?_
    show TkI G (inew _ _ _ (ido 17 n 0 e s')).envs.length _ _
    have hl : ∀ nm v, (inew nm v e (ido 17 n 0 e s')).last = s'.envs.length + 1 := fun nm v => new_len _ _ _
    rw [new_len, hl]
    refine TkI.c1 hG (Nat.le_refl _) (hk.skip (show (17 : Nat) ≠ 3 by decide) (show (17 : Nat) ≠ 4 by decide) (Nat.le_refl _) (by omega)) ?_
    exact TkI.mk (h - 3) (show (17 : Nat) ≠ 3 by decide) (Nat.le_succ_of_le he) hn hb hf hk rfl (hT.mono (Nat.le_succ _))
  refine IWd.ite (fun q => ?_) (fun n17 => ?_)
  · subst q
    have P1 := P.setT (y := { s'.th with vals := s'.th.vals.modify 2 fun v => { v with N := fAri 1 v.N (s'.top 0).N } }) (T' := r) (h' := h) P.t (by simp [P.v]) P.d P.d8 P.st
    exact P1.burnDo (show (16 : Nat) ≠ 3 by decide) (TkI.mk (h - 3) (show (16 : Nat) ≠ 3 by decide) he hn hb hf hk rfl hT)
  refine IWd.ite (fun q => ?_) (fun n18 => ?_)
  · subst q
    have hk : N2 G (nd G n).A ∧ SB G (nd G n).C r (h + 1) 3 := hk
    have hf : flT r + 1 ≤ h := hf
    have f2 := hk.2.fl
    refine IWd.ite (fun _ => P.throw hT (by omega) _) (fun _ => ((P.push _).doT (show (19 : Nat) ≠ 3 by decide)).iw ?_)
    exact TkI.mk (h - 1) (show (19 : Nat) ≠ 3 by decide) he hn (by omega) (show flT r + 2 ≤ h + 1 by omega) hk (show h + 1 - 2 = h - 1 by omega) hT
  refine IWd.ite (fun q => ?_) (fun n19 => ?_)
  · subst q
    have hk : N2 G (nd G n).A ∧ SB G (nd G n).C r h 3 := hk
    have hf : flT r + 2 ≤ h := hf
    generalize (tNext (s'.tabs.getD (s'.top 1).N []) (s'.top 0)).getD (vNil, vNil) = kv
    obtain ⟨kk, vv⟩ := kv
    refine IWd.ite (fun _ => (P.drop 2).iw hT) (fun _ => ?_)
    have P1 := P.setT (y := { s'.th with vals := s'.th.vals.set 0 kk }) (T' := r) (h' := h) P.t (by simp [P.v]) P.d P.d8 P.st
    have P2 := P1.doT (k := 20) (n := n) (x := 0) (e := e) (by decide)
    have hl : ∀ nm v, (inew nm v e (ido 20 n 0 e (s'.setT { s'.th with vals := s'.th.vals.set 0 kk }))).envs.length = s'.envs.length + 1 := fun nm v => new_len _ _ _
    refine (((P2.new _ _ he).new _ _ (Nat.le_refl _)).doT (show (1 : Nat) ≠ 3 by decide)).iw ?_
    show TkI G (inew _ _ _ (inew _ _ _ (ido 20 n 0 e (s'.setT { s'.th with vals := s'.th.vals.set 0 kk })))).envs.length _ _
    have hl2 : ∀ nm v nm2 v2 u, (inew nm v u (inew nm2 v2 e (ido 20 n 0 e (s'.setT { s'.th with vals := s'.th.vals.set 0 kk })))).last = s'.envs.length + 1 + 1 := fun nm v nm2 v2 u => by show (inew nm v u _).envs.length = _; rw [new_len, hl]
    rw [new_len, hl, hl2]
    refine TkI.c1 hG (Nat.le_refl _) (hk.2.skip (show (20 : Nat) ≠ 3 by decide) (show (20 : Nat) ≠ 4 by decide) (Nat.le_refl _) (by omega)) ?_
    exact TkI.mk (h - 2) (show (20 : Nat) ≠ 3 by decide) (show e ≤ s'.envs.length + 1 + 1 by omega) hn hb hf hk rfl (hT.mono (by omega))
  refine IWd.ite (fun q => ?_) (fun n20 => ?_)
  · subst q
    exact P.burnDo (show (19 : Nat) ≠ 3 by decide) (TkI.mk (h - 2) (show (19 : Nat) ≠ 3 by decide) he hn hb hf hk rfl hT)
  refine IWd.ite (fun q => ?_) (fun n21 => ?_)
  · subst q
    have hf : flT r + 2 ≤ h := hf
    exact (P.drop 2).ret hT (by omega) _ _
  refine IWd.ite (fun q => ?_) (fun n22 => ?_)
  · subst q
    have hf : flT r + (x + 1) ≤ h := hf
    have hT : TkI G s'.envs.length r (h + 1 - x) := hT
    unfold iapply
    refine IWd.ite (fun _ => .fin _ _) (fun _ => ?_)
    have I1 : IOK (idrop (x + 1) { s' with fuel := s'.fuel - 1 }) := IOK.drop (hI'.flds _ _ _) _
    refine PW.apply1 hG (P.fuel.drop (x + 1)) (h := h - (x + 1)) ?_ (by omega) (fun v hv => ?_) ?_
    · show TkI G s'.envs.length r _
      rw [show h - (x + 1) + 2 = h + 1 - x by omega]; exact hT
    · refine (ok_drop _).2 ?_
      exact hI'.th v (List.mem_of_mem_take (List.mem_reverse.1 hv))
    · exact (ok_drop _).2 (hI'.top x)
  refine IWd.ite (fun q => ?_) (fun n23 => ?_)
  · subst q
    have hk : AB G (nd G n).Nx r (h - 1) x := hk
    have hf : flT r + 2 ≤ h := hf
    have h4 : (s'.top 1).T = 4 := htb (.inr rfl)
    rw [iset_num h4]
    generalize tSet ((idrop 1 s').tabs.getD (s'.top 1).N []) (vNum (fInt x)) (s'.top 0) = R
    by_cases h8 : R.1 = 8
    · rw [if_pos h8]; exact IWd.ite (fun _ => .fin _ _) (fun q => absurd rfl q)
    · rw [if_neg h8]
      have P1 := (P.drop 1).tabs ((idrop 1 s').tabs.set (s'.top 1).N R.2)
      refine IWd.ite (fun q => by have := P1.b.dn; rw [this] at q; cases q) (fun _ => ?_)
      obtain ⟨l, m, a1, a2, a3, a4⟩ := hk
      rcases a1.inv with rfl | ⟨ex, l, rfl⟩
      · unfold iitems
        rw [if_pos (IsEL_nil.1 a1)]
        exact P1.iw hT
      · have hz : ndT (ExL.cons ex l) = 0 + ndT ex + ndT l := rfl
        have h6 := ndT_E (IsEL_cons.1 a1).2.1
        have hw : W ex false m ∧ W l false m := a2
        obtain ⟨q1, q2, q3⟩ := IsEL_cons.1 a1
        unfold iitems
        rw [if_neg q1]
        refine ((P1.doT (show (23 : Nat) ≠ 3 by decide)).doT (show (2 : Nat) ≠ 3 by decide)).iw ?_
        have l22 : len1 ((⟨23, (nd G n).Nx, x + 1, e⟩ : Tk) :: r) = len1 r + 1 := len1_c (show (23 : Nat) ≠ 3 by decide)
        have f22 : flT ((⟨23, (nd G n).Nx, x + 1, e⟩ : Tk) :: r) = flT r := flT_c (show (23 : Nat) ≠ 3 by decide)
        refine TkI.c2 he ⟨ex, m, q2, hw.1, by rw [l22, f22]; omega⟩ (by rw [f22]; omega) ?_
        exact TkI.mk (h - 1) (show (23 : Nat) ≠ 3 by decide) he q2.lt (by omega) (show flT r + 2 ≤ h - 1 + 1 by omega) (show AB G (nd G (nd G n).Nx).Nx r (h - 1 + 1 - 1) (x + 1) from ⟨l, m, q3, hw.2, by omega, by omega⟩) rfl hT
  refine IWd.ite (fun q => ?_) (fun n24 => ?_)
  · subst q
    have hf : flT r + 2 ≤ h := hf
    refine PW.res (P.drop 2) (h := h - 2) ?_ (by omega) _
    show TkI G s'.envs.length r _
    rw [show h - 2 + 1 = h - 1 by omega]; exact hT
  refine IWd.ite (fun q => ?_) (fun n25 => ?_)
  · subst q
    have hf : flT r + 1 ≤ h := hf
    refine PW.res (P.drop 1) (h := h - 1) ?_ (by omega) _
    show TkI G s'.envs.length r _
    rw [show h - 1 + 1 = h by omega]; exact hT
  refine IWd.ite (fun q => ?_) (fun n26 => ?_)
  · subst q
    have hf : flT r + 1 ≤ h := hf
    refine IWd.ite (fun _ => ((P.drop 1).doT (show (2 : Nat) ≠ 3 by decide)).iw ?_) (fun _ => P.iw hT)
    refine TkI.c2 he hk (by omega) ?_
    show TkI G s'.envs.length r _
    rw [show h - 1 + 1 = h by omega]; exact hT
  refine IWd.ite (fun q => ?_) (fun n27 => ?_)
  · subst q
    have hf : flT r + 1 ≤ h := hf
    refine IWd.ite (fun _ => P.iw hT) (fun _ => ((P.drop 1).doT (show (2 : Nat) ≠ 3 by decide)).iw ?_)
    refine TkI.c2 he hk (by omega) ?_
    show TkI G s'.envs.length r _
    rw [show h - 1 + 1 = h by omega]; exact hT
  refine IWd.ite (fun q => ?_) (fun n28 => ?_)
  · subst q
    have hf : flT r + 2 ≤ h := hf
    refine IWd.ite (fun _ => (P.drop 2).throw hT (by omega) _) (fun _ => ((P.drop 2).push _).iw ?_)
    show TkI G s'.envs.length r _
    rw [show h - 2 + 1 = h - 1 by omega]; exact hT
  · have h4 : k = 4 ∨ k = 0 := by omega
    rcases h4 with rfl | rfl
    · exact P.iw hT
    · have : False := hk
      exact this.elim
end

section
variable {G : Arena} {root : Nat} {Ps : List Proto} {Fs : Nat → FI} {i s : IS} {a : AS} {ρ : List Nat}
theorem Sim.tabAt (S : Sim G root Ps Fs i a ρ) : TabAt i := by
  intro t r ht hk
  obtain ⟨x, y0, f0, fs, seg, ts, vs, vals, p, V⟩ := S.view
  obtain ⟨j, ids, od, L0, hid0, lc0, fl0, h1, h2, h3, h4, h5⟩ := V.fr
  have H0 : Hd G root Ps Fs i a ρ x y0 f0 fs seg ts vs vals p j ids od L0 hid0 fl0 := ⟨S, V, h1, h2, h4, by simpa using h5⟩
  obtain ⟨a', y, f, L, hid, lc, fl, g, H, hK⟩ := settle _ H0 (by simpa using h3) (Nat.le_refl _)
  have hth : i.th = x := getD_of V.hx
  have e1 : seg ++ ⟨3, p, vals.length, 0⟩ :: ts = t :: r := by rw [← ht, hth, V.ht]
  have e2 : i.top 1 = (vs ++ vals).getD 1 vNil := by unfold IS.top; rw [hth, V.hv]
  clear h3 h4 H0 g
  unfold KK at hK
  generalize hm : f.ops.length = m at hK
  generalize hpc : f.pc = pc at hK
  generalize hq : true = q at hK
  cases hK using K.elim with
  | intest F hB k =>
    have ho : f.ops = [] := List.eq_nil_of_length_eq_zero hm
    have hF := (H.D.f _ (List.mem_cons_self)).1
    unfold FlD at hF
    rw [if_neg (show ¬ ((0 : Nat) = 1) by decide), if_neg (show ¬ ((0 : Nat) = 2) by decide)] at hF
    rw [e2, H.vv, ho]
    exact hF.1
  | item q1 q2 q3 q4 q5 q6 k =>
    obtain ⟨u, w, r, ho, hrl⟩ := two_ops hm
    have := (H.D.f _ (List.mem_cons_self)).1
    unfold FlD at this
    rw [if_neg (by simp), if_pos rfl, ho] at this
    obtain ⟨q, hq, hq2⟩ := this
    rw [show u :: w :: r = [u, w] ++ r from rfl, List.reverse_append, List.getElem?_append_right (by simp [hrl])] at hq
    simp [hrl] at hq
    rw [e2, H.vv, ho]
    show w.T = 4
    rw [hq]; exact hq2
  | _ =>
    first
    | (cases hq; done)
    | (simp only [List.cons_append, List.nil_append, List.cons.injEq] at e1
       rw [← e1.1] at hk
       simp at hk)

/-- all that a step needs. -/
structure IA (G : Arena) (root : Nat) (s : IS) : Prop where
  ok : IOK s
  nu : NumAt s
  tb : TabAt s
  w : IW G root s
def IAd (G : Arena) (root : Nat) (s : IS) : Prop := s.done = true ∨ IA G root s

theorem h17_no (h : h17 s = false) : NumAt s ∧ TabAt s := by
  refine ⟨fun t r ht hk => ?_, fun t r ht hk => ?_⟩
  · unfold h17 at h; rw [ht] at h; simp [hk] at h
  · unfold h17 at h; rw [ht] at h
    simp at h
    omega
theorem it_C (hG : 0 < G.length) (hA : AOK G) : ∀ (n : Nat) {s : IS}, IOK s → IWd G root s → ∃ k, stepC G root n s = itN G root k s ∧ (∀ j, j < k → IAd G root (itN G root j s)) ∧ IOK (stepC G root n s) ∧ IWd G root (stepC G root n s)
  | 0, s, h, hw => ⟨0, rfl, (fun j q => absurd q (Nat.not_lt_zero _)), h, hw⟩
  | n + 1, s, h, hw => by
    unfold stepC
    by_cases q : s.done = true ∨ h17 s = true
    · rw [if_pos q]; exact ⟨0, rfl, (fun j q => absurd q (Nat.not_lt_zero _)), h, hw⟩
    · rw [if_neg q]
      have hd : s.done ≠ true := fun z => q (.inl z)
      have h7 : h17 s = false := by cases hc : h17 s with | false => rfl | true => exact absurd (.inr hc) q
      obtain ⟨n1, n2⟩ := h17_no h7
      have hw1 : IW G root s := by rcases hw with z | z; exact absurd z hd; exact z
      obtain ⟨k, e1, e2, e3, e4⟩ := it_C hG hA n (h.step (root := root) hA n1) (hw1.step hG h n2)
      refine ⟨k + 1, by rw [itN_succ, if_neg hd]; exact e1, fun j hj => ?_, e3, e4⟩
      cases j with
      | zero => exact .inr ⟨h, n1, n2, hw1⟩
      | succ j => rw [itN_succ, if_neg hd]; exact e2 j (by omega)
theorem it_all (hG : 0 < G.length) (hA : AOK G) : ∀ (k : Nat) {i : IS} {a : AS} {ρ : List Nat}, Sim G root Ps Fs i a ρ → IOK i → IW G root i → IAd G root (itN G root k i) := by
  intro k
  induction k using Nat.strongRecOn with
  | ind k ih =>
    intro i a ρ S I H
    have hd : i.done ≠ true := by rw [S.di]; decide
    have h0 : IA G root i := ⟨I, S.numAt, S.tabAt, H⟩
    cases k with
    | zero => exact .inr h0
    | succ k =>
      obtain ⟨n, a', g, r⟩ := sim_step S I.valOK
      have hs := stepN_succ (G := G) (root := root) S.di n
      obtain ⟨m, e1, e2, e3, e4⟩ := it_C (root := root) hG hA n (I.step (root := root) hA S.numAt) (H.step hG I S.tabAt)
      rw [itN_succ, if_neg hd]
      by_cases hm : k < m
      · exact e2 k hm
      · have e : itN G root k (istep G root i) = itN G root (k - m) (stepN G root (n + 1) i) := by
          rw [hs, e1, itN_add, show m + (k - m) = k by omega]
        rw [e]
        rcases r with ⟨ρ', S'⟩ | ⟨d1, -, -⟩
        · refine ih (k - m) (by omega) S' (by rw [hs]; exact e3) ?_
          have : IWd G root (stepN G root (n + 1) i) := by rw [hs]; exact e4
          rcases this with z | z
          · rw [S'.di] at z; cases z
          · exact z
        · rw [itN_done d1]; exact .inl d1
/-- the start. -/
theorem start_iw {t : Tr} {k : Nat} (h : TrOK t k) (hG : 0 < G.length) (hS : IsSL G root t) (h0 : (nd G 0).A = 0) (h3 : ndT t ≤ 300) {fuel : Nat} (hf : fuel < 9223372036854775808) : IW G root (istart G root fuel) := by
  have P : PW G root ⟨[], [(0, 0)], [⟨4, 0, 0, [], []⟩], [], 0, fuel, 0, [], glob, false, ⟨0, 0, 0, [], []⟩⟩ [] 0 := by
    refine ⟨⟨(show 0 < 1 by decide), fun k x hk hx => ?_, (fun c hc => by cases hc), List.nodup_nil, rfl, (fun k x hx => by simp at hx), fun c hc => ?_, Nat.zero_le _, (show (4 : Nat) ≠ 1 by decide), (show 0 < 1 by decide), hf, rfl⟩, rfl, rfl, rfl, Nat.zero_le _, rfl⟩
    · cases k with
      | zero => exact absurd rfl hk
      | succ k => simp at hx
    · have hc : c = (0, 0) := by simpa using hc
      subst hc
      exact ⟨Nat.le_refl _, hG, ⟨[], h0, Nat.zero_le _⟩, t, 0, hS, h.w, by omega⟩
  rcases PW.enter hG P (fun q => absurd rfl q) (c := 0) (p := 0) (show 0 < 1 by decide) (by decide) (by decide) (fun _ => ⟨rfl, rfl⟩) (Nat.zero_le _) [] with q | q
  · have : (istart G root fuel).done = false := by
      unfold istart ienter
      simp only [bindP]
      rw [show (([(0, 0)] : List (Nat × Nat)).getD 0 (0, 0)).1 = 0 from rfl, h0]
      rfl
    have q : (istart G root fuel).done = true := q
    rw [this] at q; cases q
  · exact q
end

end Go.Proofs.Qxb6500568aGreatDoor
