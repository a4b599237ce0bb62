import Derived.Test.Qxb6500568aGreatDoorZt
/- The compiler: statements: laws. -/
namespace Go.Proofs.Qxb6500568aGreatDoor
open Ieee
set_option linter.unusedVariables false
set_option linter.unusedSimpArgs false
set_option linter.unusedSectionVars false

section
variable {ta tb tc : Tr}
theorem co_consB (ha : CoT ta) (hb : CoT tb) : CoT (StL.cons ta tb) := fun md ch base a S x y => by
  have e0 : ∀ x, (cmp (StL.cons ta tb) md ch base a S).1 x = (cmp ta 0 ch base a S).1 x ++ (cmp tb md (loc ch (aftS (hL ch) ta)) base (a + ln (cmp ta 0 ch base a S)) (cmp ta 0 ch base a S).2).1 x := fun x => rfl
  rw [e0, e0, ha 0 ch base a S x y, hb md _ base _ _ x y]
theorem co_iff (ha : CoT ta) (hb : CoT tb) (hc : CoT tc) : CoT (St.iff ta tb tc) := fun md ch base a S x y => by
  show _ ++ _ ++ _ ++ _ ++ _ = _ ++ _ ++ _ ++ _ ++ _
  rw [ha 0 ch 0 a S x y, hb (hL ch).length ch base _ _ x y, hc (hL ch).length ch base _ _ x y]
end
/-- with no loop around, the code does not hang on an exit. -/
theorem co_w (G : Arena) : ∀ k, (∀ s n m, IsS G n s → W s false m → szT s ≤ k → CoT s) ∧ (∀ l n m, IsSL G n l → W l false m → szT l ≤ k → CoT l)
  | 0 => ⟨fun e n m _ _ h => by have := szT_pos e; omega, fun e n m _ _ h => by have := szT_pos e; omega⟩
  | k + 1 => by
    obtain ⟨hS, hB⟩ := co_w G k
    have hE : ∀ {e n}, IsE G n e → CoT e := fun {e n} h => (co_all G (szT e)).1 e n h (Nat.le_refl _)
    have hA : ∀ {e n}, IsEL G n e → CoT e := fun {e n} h => (co_all G (szT e)).2 e n h (Nat.le_refl _)
    refine ⟨fun s n m h hw hk => ?_, fun l n m h hw hk => ?_⟩
    · rcases h.inv with ⟨s, rfl⟩ | ⟨s, v, rfl⟩ | ⟨s, t, f, zs, rfl⟩ | ⟨s, c, ps, b, rfl⟩ | ⟨s, v, rfl⟩ | ⟨a, b, v, rfl⟩ | ⟨f, zs, rfl⟩ | ⟨c, t, e, rfl⟩ | ⟨c, b, rfl⟩ | ⟨s, a, l, b, rfl⟩ | ⟨s, a, l, p, b, rfl⟩ | ⟨s, t, x, b, rfl⟩ | rfl | ⟨a, rfl⟩ | ⟨a, b, rfl⟩ | rfl
      · exact co_loc
      · obtain ⟨-, -, -, ha⟩ := IsS_locV.1 h
        exact co_locV (hE ha)
      · obtain ⟨-, -, -, -, -, ha, hb⟩ := IsS_loc2.1 h
        exact co_loc2 (hE ha) (hA hb)
      · exact co_locFn
      · obtain ⟨-, -, -, -, -, ha⟩ := IsS_setN.1 h
        exact co_setN (hE ha)
      · obtain ⟨-, -, -, -, ha, hb, hv⟩ := IsS_setI.1 h
        exact co_setI (hE ha) (hE hb) (hE hv)
      · obtain ⟨-, -, -, -, ha, hb⟩ := IsS_call.1 h
        exact co_scall (hE ha) (hA hb)
      · obtain ⟨-, -, ha, hb, hc⟩ := IsS_iff.1 h
        obtain ⟨-, -, w2, w3⟩ : dE c ≤ 128 ∧ W c false m ∧ W t false m ∧ W e false m := hw
        have hk : 1 + szT c + szT t + szT e ≤ k + 1 := hk
        exact co_iff (hE ha) (hB t _ _ hb w2 (by omega)) (hB e _ _ hc w3 (by omega))
      · obtain ⟨-, -, ha, hb⟩ := IsS_whl.1 h
        exact co_whl (hE ha)
      · obtain ⟨-, -, -, -, ha, -, hb, -, -⟩ := IsS_for2.1 h
        exact co_for2 (hE ha) (hE hb)
      · obtain ⟨-, -, -, -, ha, -, hb, -, hc, -⟩ := IsS_for3.1 h
        exact co_for3 (hE ha) (hE hb) (hE hc)
      · obtain ⟨-, -, -, ha, -⟩ := IsS_forIn.1 h
        exact co_forIn (hE ha)
      · exact co_ret0
      · obtain ⟨-, -, ha, -⟩ := IsS_ret1.1 h
        exact co_ret1 (hE ha)
      · obtain ⟨-, -, ha, hb⟩ := IsS_ret2.1 h
        exact co_ret2 (hE ha) (hE hb)
      · have hw : false = true := hw
        cases hw
    · rcases h.inv with rfl | ⟨s, l, rfl⟩
      · exact co_nilB
      · obtain ⟨-, hs, hl⟩ := IsSL_cons.1 h
        obtain ⟨w1, w2⟩ : W s false m ∧ W l false (aftN m s) := hw
        have hk : 1 + szT s + szT l ≤ k + 1 := hk
        exact co_consB (hS s _ _ hs w1 (by omega)) (hB l _ _ hl w2 (by omega))

section
variable {E : ZEnv} {w : World} {ow : Nat → Nat} {O : List Nat} {S : Fns} {f g : ZAct} {q A : List ZAct}
/-- a function done. -/
theorem CM.pop (h : CM E w ow O S (g :: A)) (hl : g.lps = []) (hn : g.L.length = (fsAt S g.j).np) (hj : g.j < S.length) : CM E w ow O (S.modify g.j fun x => { x with code := g.code }) A := by
  have hun := h.un
  rw [List.map_cons, List.nodup_cons] at hun
  have hm : ∀ k, fsAt (S.modify g.j fun x => { x with code := g.code }) k = if k = g.j then { fsAt S g.j with code := g.code } else fsAt S k := fun k => fsAt_mod hj
  obtain ⟨R, h1, h2, h3⟩ := h.F
  refine ⟨h.cb, h.tc, h.ta, h.N, ⟨R, h1, h2, fun j r hr => ?_⟩, hun.2, fun f hf => h.mem f (List.mem_cons_of_mem _ hf), h.df⟩
  obtain ⟨m, y⟩ := h3 j r hr
  refine ⟨m, y.k, fun ho => ?_, fun f hf e => y.a f (List.mem_cons_of_mem _ hf) e, fun hno => ?_⟩
  · have o := y.o ho
    rw [show FnO E w ow (S.modify g.j fun x => { x with code := g.code }) j r m ↔ FnO E w ow S j r m from ?_]
    · exact o
    · have e : (fsAt (S.modify g.j fun x => { x with code := g.code }) j).np = (fsAt S j).np ∧ (fsAt (S.modify g.j fun x => { x with code := g.code }) j).ns = (fsAt S j).ns ∧ (fsAt (S.modify g.j fun x => { x with code := g.code }) j).ups = (fsAt S j).ups ∧ (fsAt (S.modify g.j fun x => { x with code := g.code }) j).ks = (fsAt S j).ks := by
        rw [hm]
        split
        · rename_i e; subst e; exact ⟨rfl, rfl, rfl, rfl⟩
        · exact ⟨rfl, rfl, rfl, rfl⟩
      obtain ⟨e1, e2, e3, e4⟩ := e
      exact ⟨fun o => ⟨o.c, o.par, by rw [← e1]; exact o.np, by rw [← e2]; exact o.ns, by rw [← e3]; exact o.ups, by rw [← e4]; exact o.ks, o.nums, o.strs⟩, fun o => ⟨o.c, o.par, by rw [e1]; exact o.np, by rw [e2]; exact o.ns, by rw [e3]; exact o.ups, by rw [e4]; exact o.ks, o.nums, o.strs⟩⟩
  · by_cases e : j = g.j
    · subst e
      obtain ⟨a1, a2, a3⟩ := y.a g List.mem_cons_self rfl
      rw [hm, if_pos rfl]
      exact ⟨by rw [a3]; exact hl, fun _ => ⟨a2, by rw [a1]; exact hn⟩⟩
    · rw [hm, if_neg e]
      refine y.i fun f hf => ?_
      rcases List.mem_cons.1 hf with rfl | hf
      · exact fun z => e z.symm
      · exact hno f hf
/-- what block does with a list of statements. -/
def XB (t : Tr) (lp : Bool) : Prop := ∀ (E : ZEnv) (w : World) (ow : Nat → Nat) (O : List Nat) (S : Fns) (f : ZAct) (q : List ZAct) (n : Nat), CM E w ow O S (f :: q) → IsSL E.G n t → W t lp f.L.length → PaT E.pa t f.j → (lp = true → f.lps ≠ []) → FX E S f q (numsT t) (100 * ndT t + 3) →
  Ret Tryz.prog 79 [fptr E f.j, i64c n] w (fun r w' => r = .tuple #[] ∧ ZP E w ow (O ++ numsT t) (cmp t f.L.length (chn (f :: q)) (lpB f.lps) f.code.length S).2 ({ f with code := f.code ++ (cmp t f.L.length (chn (f :: q)) (lpB f.lps) f.code.length S).1 65535, lps := addB f.lps (hp f.code.length ((cmp t f.L.length (chn (f :: q)) (lpB f.lps) f.code.length S).1 65535)) } :: q) w')
/-- what stmt does with a statement. -/
def XS (t : Tr) (lp : Bool) : Prop := ∀ (E : ZEnv) (w : World) (ow : Nat → Nat) (O : List Nat) (S : Fns) (f : ZAct) (q : List ZAct) (n : Nat), CM E w ow O S (f :: q) → IsS E.G n t → W t lp f.L.length → PaT E.pa t f.j → (lp = true → f.lps ≠ []) → FX E S f q (numsT t) (100 * ndT t) →
  Ret Tryz.prog 139 [fptr E f.j, i64c n] w (fun r w' => r = .tuple #[] ∧ ZP E w ow (O ++ numsT t) (cmp t 0 (chn (f :: q)) (lpB f.lps) f.code.length S).2 (⟨f.j, aftS f.L t, f.code ++ (cmp t 0 (chn (f :: q)) (lpB f.lps) f.code.length S).1 65535, addB f.lps (hp f.code.length ((cmp t 0 (chn (f :: q)) (lpB f.lps) f.code.length S).1 65535))⟩ :: q) w')
theorem FX.lpB {N : List Nat} {B : Nat} (h : FX E S f q N B) : Go.Proofs.Qxb6500568aGreatDoor.lpB f.lps ≤ 12 := by
  have := h.lb
  unfold Go.Proofs.Qxb6500568aGreatDoor.lpB
  cases hl : f.lps with
  | nil => exact Nat.zero_le _
  | cons x r => rw [hl] at this; exact (this x List.mem_cons_self).1
end
end Go.Proofs.Qxb6500568aGreatDoor
