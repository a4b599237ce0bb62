import Derived.Test.Qxb6500568aGreatDoorMc
namespace Go.Proofs.Qxb6500568aGreatDoor
open Ieee
set_option linter.unusedVariables false
set_option linter.unusedSimpArgs false
set_option linter.unusedSectionVars false

/-! One step of the interpreter, some of the machine. -/

/-- what the thread at hand holds is valid; the keys of the tables are made one. -/
def ValOK (i : IS) : Prop := (∀ v ∈ i.th.vals, VOK i v) ∧ KeyN i.tabs

section
variable {G : Arena} {root : Nat} {Ps : List Proto} {Fs : Nat → FI} {i : IS} {a : AS} {ρ : List Nat}

theorem sim_step (S : Sim G root Ps Fs i a ρ) (hv : ValOK i) : Adv G root Ps Fs i a := by
  obtain ⟨x, y0, f0, fs, seg, ts, vs, vals, p, V⟩ := S.view
  obtain ⟨j, ids, od, L0, hid0, lc0, fl0, h1, h2, h3, h4, h5⟩ := V.fr
  have H0 : Hd G root Ps Fs i a ρ x y0 f0 fs seg ts vs vals p j ids od L0 hid0 fl0 := ⟨S, V, h1, h2, h4, by simpa using h5⟩
  obtain ⟨a', y, f, L, hid, lc, fl, g, H, hK⟩ := settle _ H0 (by simpa using h3) (Nat.le_refl _)
  have hth : i.th = x := getD_of V.hx
  have hvs : ∀ v ∈ vs, VOK i v := fun v h => hv.1 v (by rw [hth, V.hv]; exact List.mem_append_left _ h)
  have hops : ∀ v ∈ f.ops, VOK i v := fun v h => hvs v (by rw [H.vv]; exact List.mem_append_left _ h)
  have hhid : ∀ s ∈ hid, VOK i (sv a' f s) := fun s h => hvs _ (by rw [H.vv]; exact List.mem_append_right _ (List.mem_map.2 ⟨s, h, rfl⟩))
  suffices hA : Adv G root Ps Fs i a' by
    obtain ⟨n, a2, g2, r⟩ := hA
    exact ⟨n, a2, g.trans g2, r⟩
  clear h3 h4 H0 g
  have ht : a'.tabs = i.tabs := H.S.tabs.symm
  unfold KK at hK
  generalize hpc : f.pc = pc at hK
  generalize hm : f.ops.length = m at hK
  generalize hq : true = q at hK
  cases hK using K.elim with
  | set k => cases hq
  | jmp h1 h2 k => cases hq
  | close h1 h2 h3 k => cases hq
  | stash h1 h2 h3 k => cases hq
  | foot h1 h2 h3 => subst hpc; exact H.foot h1 h2 h3 hm
  | block h1 h2 h3 h4 h5 h6 h =>
    subst hpc
    rcases h1.inv with rfl | ⟨s, l, rfl⟩
    · have h1 := IsSL_nil.1 h1
      subst h1
      exact H.blockNil h3 h4 h hm
    · exact H.stmt h1 h2 h3 h4 h5 h6 h hm
  | evl h1 h2 h3 h4 h5 h => subst hpc; subst hm; exact H.evl h1 h2 h3 h4 h5 h
  | evl0 h1 h2 h3 h =>
    subst hpc; subst hm
    exact H.push (v := vNil) (by simp only [istep1, ieval]; simp [mkI_push H.hic]) (go_push H.hac H.S.da H.hk h1 (.inl ⟨rfl, rfl⟩) (by omega)) h2 h3 h
  | evl1 h1 h2 h3 h4 h =>
    subst hpc; subst hm
    exact H.push (v := vNum (fInt 1)) (by simp only [istep1, ieval]; simp [mkI_push H.hic]) (go_push H.hac H.S.da H.hk h1 (.inr (.inr (.inr ⟨rfl, h2⟩))) (by omega)) h3 h4 h
  | pop h1 h => subst hpc; exact H.popT h1 hm h
  | bind h1 h2 h3 h4 h5 h6 h7 h8 h => subst hpc; exact H.bindT h1 h2 h3 h4 h5 h6 h7 h8 h hm
  | bind2 h1 h2 h3 h4 h5 h6 h7 h8 h9 ha hb h => subst hpc; exact H.bind2T h1 h2 h3 h4 h5 h6 h7 h8 h9 ha hb h hm
  | storeN h1 h2 h3 h => subst hpc; exact H.storeN h1 h2 hm h
  | storeI h1 h => subst hpc; exact H.storeI h1 hm h
  | iff h1 h2 h3 h4 h5 h6 h7 h8 h9 ha hb h => subst hpc; exact H.iffT h1 h2 h3 h4 h5 h6 h7 h8 h9 ha hb h hm
  | whl h1 h2 h3 h => exact H.whileT h1 hpc h2 h3 h hm
  | wtest h1 h2 h3 h => exact H.wtestT h1 hpc h2 h3 h hm
  | wback h1 h2 h3 h => exact H.wbackT h1 hpc h2 h3 h hm
  | loop h => subst hpc; exact H.loopT h hm
  | finit h1 h2 h =>
    refine H.finitT h1 hpc h2 h hm (fun k hk hT => ?_)
    rcases k with _ | _ | _ | k
    · exact (hhid _ (by simp)).2.2.2.2 hT
    · exact (hhid _ (by simp)).2.2.2.2 hT
    · exact (hhid _ (by simp)).2.2.2.2 hT
    · omega
  | ftest h1 h2 h => exact H.ftestT h1 hpc h2 h hm
  | fback h1 h2 h => exact H.fbackT h1 hpc h2 h hm
  | inin h1 h2 h => exact H.ininT h1 hpc h2 h hm (fun hT => by rw [ht]; exact (hhid _ (by simp)).2.2.2.1 hT)
  | intest h1 h2 h => exact H.intestT h1 hpc h2 h hm (by rw [ht]; exact hv.2)
  | inback h1 h2 h => exact H.inbackT h1 hpc h2 h hm
  | ret h1 h2 h3 h => subst hpc; exact H.retT h1 hm
  | call h1 h2 h3 h4 h => subst hpc; exact H.call h1 h2 hm h3 h4 h hops
  | item h1 h2 h3 h4 h5 h6 h => subst hpc; exact H.item h1 h2 h3 h4 h5 hm h6 h
  | bin h1 h2 h3 h => subst hpc; exact H.bin h1 h2 hm h h3
  | un h1 h2 h3 h4 h => subst hpc; exact H.un h1 h2 h3 hm h h4
  | land h1 h2 h3 h4 h5 h6 h7 h => subst hpc; exact H.short (.inl ⟨rfl, rfl⟩) h1 h2 h3 h4 h5 h6 hm h h7
  | lor h1 h2 h3 h4 h5 h6 h7 h => subst hpc; exact H.short (.inr ⟨rfl, rfl⟩) h1 h2 h3 h4 h5 h6 hm h h7
  | index h1 h2 h => subst hpc; exact H.index h1 hm h h2
end

end Go.Proofs.Qxb6500568aGreatDoor
