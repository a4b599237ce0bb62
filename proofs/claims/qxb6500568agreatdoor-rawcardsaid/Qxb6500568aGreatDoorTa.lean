import Derived.Test.Qxb6500568aGreatDoorJg
/- Induction over the trees that an arena holds. -/
namespace Go.Proofs.Qxb6500568aGreatDoor
open Ieee
set_option linter.unusedVariables false
set_option linter.unusedSimpArgs false
set_option linter.unusedSectionVars false

/-- what has to be shown, one field a kind of tree. -/
structure TrI (PE PA PS PB : Tr → Prop) : Prop where
  lit : ∀ k, k = 12 ∨ k = 13 ∨ k = 14 → PE (Ex.lit k)
  num : ∀ k, PE (Ex.num k)
  str : ∀ s, PE (Ex.str s)
  name : ∀ s, PE (Ex.name s)
  index : ∀ a b, PE a → PE b → PE (Ex.index a b)
  call : ∀ a b, PE a → PA b → PE (Ex.call a b)
  func : ∀ n ps b, PB b → PE (Ex.func n ps b)
  table : ∀ a, PA a → PE (Ex.table a)
  bin : ∀ k a b, PE a → PE b → PE (Ex.bin k a b)
  un : ∀ k a, PE a → PE (Ex.un k a)
  land : ∀ a b, PE a → PE b → PE (Ex.land a b)
  lor : ∀ a b, PE a → PE b → PE (Ex.lor a b)
  enil : PA ExL.nil
  econs : ∀ a b, PE a → PA b → PA (ExL.cons a b)
  loc : ∀ s, PS (St.loc s)
  locV : ∀ s a, PE a → PS (St.locV s a)
  loc2 : ∀ s t a b, PE a → PA b → PS (St.loc2 s t a b)
  locFn : ∀ s n ps b, PB b → PS (St.locFn s n ps b)
  setN : ∀ s a, PE a → PS (St.setN s a)
  setI : ∀ a b d, PE a → PE b → PE d → PS (St.setI a b d)
  scall : ∀ a b, PE a → PA b → PS (St.call a b)
  iff : ∀ a b d, PE a → PB b → PB d → PS (St.iff a b d)
  whl : ∀ a b, PE a → PB b → PS (St.whl a b)
  for2 : ∀ s a b d, PE a → PE b → PB d → PS (St.for2 s a b d)
  for3 : ∀ s a b d e, PE a → PE b → PE d → PB e → PS (St.for3 s a b d e)
  forIn : ∀ s t a b, PE a → PB b → PS (St.forIn s t a b)
  ret0 : PS St.ret0
  ret1 : ∀ a, PE a → PS (St.ret1 a)
  ret2 : ∀ a b, PE a → PE b → PS (St.ret2 a b)
  brk : PS St.brk
  snil : PB StL.nil
  scons : ∀ a b, PS a → PB b → PB (StL.cons a b)
theorem tr_all {PE PA PS PB : Tr → Prop} (H : TrI PE PA PS PB) (G : Arena) : ∀ k, (∀ e n, IsE G n e → szT e ≤ k → PE e) ∧ (∀ l n, IsEL G n l → szT l ≤ k → PA l) ∧
    (∀ s n, IsS G n s → szT s ≤ k → PS s) ∧ (∀ l n, IsSL G n l → szT l ≤ k → PB l)
  | 0 => ⟨fun e n _ h => by have := szT_pos e; omega, fun e n _ h => by have := szT_pos e; omega, fun e n _ h => by have := szT_pos e; omega, fun e n _ h => by have := szT_pos e; omega⟩
  | k + 1 => by
    obtain ⟨hE, hA, hS, hB⟩ := tr_all H G k
    refine ⟨fun e n h hk => ?_, fun l n h hk => ?_, fun s n h hk => ?_, fun l n h hk => ?_⟩
    · rcases h.inv with ⟨_, rfl⟩ | ⟨_, rfl⟩ | ⟨_, rfl⟩ | ⟨_, rfl⟩ | ⟨a, b, rfl⟩ | ⟨f, zs, rfl⟩ | ⟨c, ps, b, rfl⟩ | ⟨zs, rfl⟩ | ⟨op, a, b, rfl⟩ | ⟨op, a, rfl⟩ | ⟨a, b, rfl⟩ | ⟨a, b, rfl⟩
      · exact H.lit _ (IsE_lit.1 h).2.2
      · exact H.num _
      · exact H.str _
      · exact H.name _
      · obtain ⟨-, -, ha, hb⟩ := IsE_index.1 h
        have hk : 1 + szT a + szT b ≤ k + 1 := hk
        exact H.index _ _ (hE a _ ha (by omega)) (hE b _ hb (by omega))
      · obtain ⟨-, -, ha, hb⟩ := IsE_call.1 h
        have hk : 1 + szT f + szT zs ≤ k + 1 := hk
        exact H.call _ _ (hE f _ ha (by omega)) (hA zs _ hb (by omega))
      · obtain ⟨-, -, -, -, hb⟩ := IsE_func.1 h
        have hk : 1 + szT b ≤ k + 1 := hk
        exact H.func _ _ _ (hB b _ hb (by omega))
      · obtain ⟨-, -, hb⟩ := IsE_table.1 h
        have hk : 1 + szT zs ≤ k + 1 := hk
        exact H.table _ (hA zs _ hb (by omega))
      · obtain ⟨-, -, -, ha, hb⟩ := IsE_bin.1 h
        have hk : 1 + szT a + szT b ≤ k + 1 := hk
        exact H.bin _ _ _ (hE a _ ha (by omega)) (hE b _ hb (by omega))
      · obtain ⟨-, -, -, ha⟩ := IsE_un.1 h
        have hk : 1 + szT a ≤ k + 1 := hk
        exact H.un _ _ (hE a _ ha (by omega))
      · obtain ⟨-, -, ha, hb⟩ := IsE_land.1 h
        have hk : 1 + szT a + szT b ≤ k + 1 := hk
        exact H.land _ _ (hE a _ ha (by omega)) (hE b _ hb (by omega))
      · obtain ⟨-, -, ha, hb⟩ := IsE_lor.1 h
        have hk : 1 + szT a + szT b ≤ k + 1 := hk
        exact H.lor _ _ (hE a _ ha (by omega)) (hE b _ hb (by omega))
    · rcases h.inv with rfl | ⟨e, l, rfl⟩
      · exact H.enil
      · obtain ⟨-, ha, hb⟩ := IsEL_cons.1 h
        have hk : 1 + szT e + szT l ≤ k + 1 := hk
        exact H.econs _ _ (hE e _ ha (by omega)) (hA l _ hb (by omega))
    · rcases h.inv with ⟨s, rfl⟩ | ⟨s, v, rfl⟩ | ⟨s, t, f, zs, rfl⟩ | ⟨s, c, ps, b, rfl⟩ | ⟨s, v, rfl⟩ | ⟨a, b, v, rfl⟩ | ⟨f, zs, rfl⟩ | ⟨c, t, e, rfl⟩ | ⟨c, b, rfl⟩ | ⟨s, a, l, b, rfl⟩ | ⟨s, a, l, p, b, rfl⟩ | ⟨s, t, c, b, rfl⟩ | rfl | ⟨a, rfl⟩ | ⟨a, b, rfl⟩ | rfl
      · exact H.loc _
      · obtain ⟨-, -, -, ha⟩ := IsS_locV.1 h
        have hk : 1 + szT v ≤ k + 1 := hk
        exact H.locV _ _ (hE v _ ha (by omega))
      · obtain ⟨-, -, -, -, -, ha, hb⟩ := IsS_loc2.1 h
        have hk : 1 + szT f + szT zs ≤ k + 1 := hk
        exact H.loc2 _ _ _ _ (hE f _ ha (by omega)) (hA zs _ hb (by omega))
      · obtain ⟨-, -, -, -, -, -, -, hb⟩ := IsS_locFn.1 h
        have hk : 1 + szT b ≤ k + 1 := hk
        exact H.locFn _ _ _ _ (hB b _ hb (by omega))
      · obtain ⟨-, -, -, -, -, ha⟩ := IsS_setN.1 h
        have hk : 1 + szT v ≤ k + 1 := hk
        exact H.setN _ _ (hE v _ ha (by omega))
      · obtain ⟨-, -, -, -, ha, hb, hv⟩ := IsS_setI.1 h
        have hk : 1 + szT a + szT b + szT v ≤ k + 1 := hk
        exact H.setI _ _ _ (hE a _ ha (by omega)) (hE b _ hb (by omega)) (hE v _ hv (by omega))
      · obtain ⟨-, -, -, -, ha, hb⟩ := IsS_call.1 h
        have hk : 1 + szT f + szT zs ≤ k + 1 := hk
        exact H.scall _ _ (hE f _ ha (by omega)) (hA zs _ hb (by omega))
      · obtain ⟨-, -, ha, hb, hc⟩ := IsS_iff.1 h
        have hk : 1 + szT c + szT t + szT e ≤ k + 1 := hk
        exact H.iff _ _ _ (hE c _ ha (by omega)) (hB t _ hb (by omega)) (hB e _ hc (by omega))
      · obtain ⟨-, -, ha, hb⟩ := IsS_whl.1 h
        have hk : 1 + szT c + szT b ≤ k + 1 := hk
        exact H.whl _ _ (hE c _ ha (by omega)) (hB b _ hb (by omega))
      · obtain ⟨-, -, -, -, ha, -, hb, -, hc⟩ := IsS_for2.1 h
        have hk : 1 + szT a + szT l + szT b ≤ k + 1 := hk
        exact H.for2 _ _ _ _ (hE a _ ha (by omega)) (hE l _ hb (by omega)) (hB b _ hc (by omega))
      · obtain ⟨-, -, -, -, ha, -, hb, -, hp, -, hc⟩ := IsS_for3.1 h
        have hk : 1 + szT a + szT l + szT p + szT b ≤ k + 1 := hk
        exact H.for3 _ _ _ _ _ (hE a _ ha (by omega)) (hE l _ hb (by omega)) (hE p _ hp (by omega)) (hB b _ hc (by omega))
      · obtain ⟨-, -, -, ha, hb⟩ := IsS_forIn.1 h
        have hk : 1 + szT c + szT b ≤ k + 1 := hk
        exact H.forIn _ _ _ _ (hE c _ ha (by omega)) (hB b _ hb (by omega))
      · exact H.ret0
      · obtain ⟨-, -, ha, -⟩ := IsS_ret1.1 h
        have hk : 1 + szT a ≤ k + 1 := hk
        exact H.ret1 _ (hE a _ ha (by omega))
      · obtain ⟨-, -, ha, hb⟩ := IsS_ret2.1 h
        have hk : 1 + szT a + szT b ≤ k + 1 := hk
        exact H.ret2 _ _ (hE a _ ha (by omega)) (hE b _ hb (by omega))
      · exact H.brk
    · rcases h.inv with rfl | ⟨e, l, rfl⟩
      · exact H.snil
      · obtain ⟨-, ha, hb⟩ := IsSL_cons.1 h
        have hk : 1 + szT e + szT l ≤ k + 1 := hk
        exact H.scons _ _ (hS e _ ha (by omega)) (hB l _ hb (by omega))
theorem TrI.sl {PE PA PS PB : Tr → Prop} (H : TrI PE PA PS PB) {G : Arena} {n : Nat} {t : Tr} (h : IsSL G n t) : PB t := (tr_all H G (szT t)).2.2.2 t n h (Nat.le_refl _)

/-! How much a compilation lays: constants and instructions. -/

def totK (S : Fns) : Nat := (S.map fun f => f.ks.length).sum
def totC (S : Fns) : Nat := (S.map fun f => f.code.length).sum
section
variable {S : Fns} {j n : Nat} {f : FS → FS} {c : Nat}
theorem sum_mod {g : FS → Nat} (h : ∀ x, g (f x) ≤ g x + c) : ∀ (S : Fns) (j : Nat), ((S.modify j f).map g).sum ≤ (S.map g).sum + c
  | [], j => by simp
  | x :: S, 0 => by
    show g (f x) + (S.map g).sum ≤ g x + (S.map g).sum + c
    have := h x
    omega
  | x :: S, j + 1 => by
    have := sum_mod h S j
    show g x + ((S.modify j f).map g).sum ≤ g x + (S.map g).sum + c
    omega
theorem sum_set {g : FS → Nat} {y : FS} (h : g y = 0) : ∀ (S : Fns) (j : Nat), ((S.set j y).map g).sum ≤ (S.map g).sum
  | [], j => by simp
  | x :: S, 0 => by
    show g y + (S.map g).sum ≤ g x + (S.map g).sum
    omega
  | x :: S, j + 1 => by
    have := sum_set h S j
    show g x + ((S.set j y).map g).sum ≤ g x + (S.map g).sum
    omega
theorem sum_at {g : FS → Nat} (h0 : g FS.zero = 0) : ∀ (S : Fns) (j : Nat), g (fsAt S j) ≤ (S.map g).sum
  | [], j => by
    have : fsAt [] j = FS.zero := by unfold fsAt; simp
    rw [this]; omega
  | x :: S, 0 => by show g x ≤ g x + _; omega
  | x :: S, j + 1 => by
    have := sum_at h0 S j
    show g (fsAt S j) ≤ g x + (S.map g).sum
    omega
theorem totK_mod (h : ∀ x : FS, (f x).ks.length ≤ x.ks.length + c) : totK (S.modify j f) ≤ totK S + c := sum_mod (g := fun f => f.ks.length) h S j
theorem totK_mod0 (h : ∀ x : FS, (f x).ks = x.ks) : totK (S.modify j f) ≤ totK S := totK_mod (c := 0) (fun x => by rw [h x]; exact Nat.le_refl _)
theorem totK_set {y : FS} (h : y.ks = []) : totK (S.set j y) ≤ totK S := sum_set (g := fun f => f.ks.length) (by show y.ks.length = 0; rw [h]; rfl) S j
theorem kc_decl : totK (declF j n S) ≤ totK S := totK_mod0 (fun x => rfl)
theorem kc_con {v : PV} : totK (conF j v S).2 ≤ totK S + 1 := by
  unfold conF
  split
  · exact Nat.le_add_right _ _
  · exact totK_mod (fun x => by show (x.ks ++ [v]).length ≤ _; rw [List.length_append]; exact Nat.le_refl _)
theorem kc_add {d : Nat × Nat} {p : Nat} : totK (addUp j d p S).2 ≤ totK S := by
  unfold addUp
  split
  · exact Nat.le_refl _
  · exact totK_mod0 (fun x => rfl)
theorem kc_upv : ∀ (ch : Chn) (nm : Str) (S : Fns), totK (upvF ch nm S).2 ≤ totK S
  | [], nm, S => Nat.le_refl _
  | (j, L) :: [], nm, S => Nat.le_refl _
  | (j, L) :: (p, Lp) :: q, nm, S => by
    have ih := kc_upv ((p, Lp) :: q) nm S
    unfold upvF
    simp only
    split
    · exact kc_add
    · split
      · rename_i S1 e; rw [e] at ih; exact ih
      · rename_i u S1 e
        rw [e] at ih
        exact Nat.le_trans kc_add ih
theorem kc_var {l u g : Nat} {ch : Chn} {nm : Str} : totK (varF l u g ch nm S).2 ≤ totK S + 1 := by
  have ih := kc_upv ch nm S
  unfold varF
  split
  · exact Nat.le_add_right _ _
  · split
    · rename_i x S1 e; rw [e] at ih; exact Nat.le_trans ih (Nat.le_add_right _ _)
    · rename_i S1 e
      rw [e] at ih
      exact Nat.le_trans kc_con (Nat.add_le_add_right ih 1)
end

def KcB (k : CKid) (d : Nat) : Prop := ∀ (md : Nat) (ch : Chn) (base a : Nat) (S : Fns), totK (k md ch base a S).2 ≤ totK S + d
def KQ (S : Fns) (d : Nat) (o : Out) : Prop := totK o.2 ≤ totK S + d
theorem KQ.ite {S : Fns} {d : Nat} {x y : Out} {c : Prop} [Decidable c] (h1 : totK x.2 ≤ totK S + d) (h2 : KQ S d y) : KQ S d (if c then x else y) := by
  split
  · exact h1
  · exact h2
section
variable {ka kb kd ke : CKid} {da db dd de c fk md base a : Nat} {fs ft : Str} {fp : List Str} {ch : Chn} {S : Fns} {xa xb : Tr}
theorem kc0 : totK (cK0 c fk fs md ch base a S).2 ≤ totK S + (if c = 12 then 0 else if c = 30 then 0 else 1) := by
  have e1 : (c = 1 ∨ c = 2 ∨ c = 3) → (if c = 12 then 0 else if c = 30 then 0 else 1) = 1 := fun h => by rw [if_neg (by omega), if_neg (by omega)]
  unfold cK0
  split
  · exact Nat.le_add_right _ _
  · split
    · rw [e1 (by omega)]; exact kc_con
    · split
      · rw [e1 (by omega)]; exact kc_con
      · split
        · rw [e1 (by omega)]; exact kc_var
        · split
          · exact Nat.le_add_right _ _
          · split
            · exact Nat.le_trans kc_decl (Nat.le_add_right _ _)
            · split
              · exact Nat.le_add_right _ _
              · split
                · exact Nat.le_add_right _ _
                · exact Nat.le_add_right _ _
theorem kc_fn {n : Nat} (h : KcB ka da) : totK (fnF n fp ch ka S) ≤ totK S + da := by
  have h1 : totK (S.set n ⟨fp.length, fp.length, [], [], [], (vis (hL ch)).map (·.1) ++ (fsAt S (hj ch)).outer, []⟩) ≤ totK S := totK_set rfl
  have h2 := h fp.length ((n, fp) :: ch) 0 0 (S.set n ⟨fp.length, fp.length, [], [], [], (vis (hL ch)).map (·.1) ++ (fsAt S (hj ch)).outer, []⟩)
  refine Nat.le_trans (totK_mod0 (fun x => rfl)) ?_
  exact Nat.le_trans h2 (Nat.add_le_add_right h1 _)
theorem kc1 (h : KcB ka da) : totK (cK1 c fk fs fp ka md ch base a S).2 ≤ totK S + ((if c = 6 then 1 + fp.length else if c = 17 then 2 + fp.length else if c = 18 then 2 else 1) + da) := by
  unfold cK1
  split
  · refine Nat.le_trans (kc_fn h) (by omega)
  · split
    · refine Nat.le_trans (h _ _ _ _ _) (by omega)
    · split
      · refine Nat.le_trans (h _ _ _ _ _) (by omega)
      · split
        · refine Nat.le_trans kc_decl (Nat.le_trans (h _ _ _ _ _) (by omega))
        · split
          · refine Nat.le_trans (kc_fn h) (Nat.le_trans (Nat.add_le_add_right kc_decl _) (by omega))
          · split
            · rename_i h6 h7 h9 h15 h17 h18
              refine Nat.le_trans kc_var (Nat.le_trans (Nat.add_le_add_right (h _ _ _ _ _) 1) (by omega))
            · split
              · refine Nat.le_trans (h _ _ _ _ _) (by omega)
              · exact Nat.le_add_right _ _
theorem kc2 (h1 : KcB ka da) (h2 : KcB kb db) : totK (cK2 c fk fs ft xa xb ka kb md ch base a S).2 ≤ totK S + ((if c = 13 then 0 else if c = 31 then 0 else if c = 16 then 4 else if c = 20 then 2 else if c = 25 then 3 else 1) + da + db) := by
  have two : ∀ {x : Nat} {m1 m2 : Nat} {c1 c2 : Chn} {b1 b2 a1 a2 : Nat}, totK (kb m2 c2 b2 a2 (ka m1 c1 b1 a1 S).2).2 ≤ totK S + (x + da + db) := fun {x m1 m2 c1 c2 b1 b2 a1 a2} =>
    Nat.le_trans (h2 m2 c2 b2 a2 _) (Nat.le_trans (Nat.add_le_add_right (h1 m1 c1 b1 a1 S) _) (by omega))
  have twoD : ∀ {x : Nat} {m1 m2 : Nat} {c1 c2 : Chn} {b1 b2 a1 a2 j n : Nat}, totK (kb m2 c2 b2 a2 (declF j n (ka m1 c1 b1 a1 S).2)).2 ≤ totK S + (x + da + db) := fun {x m1 m2 c1 c2 b1 b2 a1 a2 j n} =>
    Nat.le_trans (h2 m2 c2 b2 a2 _) (Nat.le_trans (Nat.add_le_add_right (Nat.le_trans kc_decl (h1 m1 c1 b1 a1 S)) _) (by omega))
  generalize (if c = 13 then 0 else if c = 31 then 0 else if c = 16 then 4 else if c = 20 then 2 else if c = 25 then 3 else 1) = x0
  show KQ S (x0 + da + db) (cK2 c fk fs ft xa xb ka kb md ch base a S)
  exact .ite two (.ite two (.ite two (.ite two (.ite two (.ite (KQ.ite (S := S) two two) (.ite two (.ite (Nat.le_trans kc_decl two) (.ite two (.ite two (.ite twoD (.ite two (Nat.le_add_right _ _))))))))))))
theorem kc3 (h1 : KcB ka da) (h2 : KcB kb db) (h3 : KcB kd dd) : totK (cK3 c fs ka kb kd md ch base a S).2 ≤ totK S + ((if c = 19 then 2 else 1) + da + db + dd) := by
  have three : ∀ {x : Nat} {m1 m2 m3 : Nat} {c1 c2 c3 : Chn} {b1 b2 b3 a1 a2 a3 : Nat}, totK (kd m3 c3 b3 a3 (kb m2 c2 b2 a2 (ka m1 c1 b1 a1 S).2).2).2 ≤ totK S + (x + da + db + dd) := fun {x m1 m2 m3 c1 c2 c3 b1 b2 b3 a1 a2 a3} =>
    Nat.le_trans (h3 m3 c3 b3 a3 _) (Nat.le_trans (Nat.add_le_add_right (Nat.le_trans (h2 m2 c2 b2 a2 _) (Nat.add_le_add_right (h1 m1 c1 b1 a1 S) _)) _) (by omega))
  unfold cK3
  simp only
  split
  · exact three
  · split
    · exact three
    · split
      · rename_i h19 h21 h23
        refine Nat.le_trans (h3 _ _ _ _ _) ?_
        refine Nat.le_trans (Nat.add_le_add_right (Nat.le_trans kc_decl (Nat.le_trans kc_con (Nat.add_le_add_right (Nat.le_trans kc_decl (Nat.le_trans (h2 _ _ _ _ _) (Nat.add_le_add_right (Nat.le_trans kc_decl (h1 _ _ _ _ _)) _))) 1))) _) (by omega)
      · exact Nat.le_add_right _ _
theorem kc4 (h1 : KcB ka da) (h2 : KcB kb db) (h3 : KcB kd dd) (h4 : KcB ke de) : totK (cK4 c fs ka kb kd ke md ch base a S).2 ≤ totK S + (1 + da + db + dd + de) := by
  unfold cK4
  simp only
  split
  · refine Nat.le_trans (h4 _ _ _ _ _) ?_
    refine Nat.le_trans (Nat.add_le_add_right (Nat.le_trans kc_decl (Nat.le_trans (h3 _ _ _ _ _) (Nat.add_le_add_right (Nat.le_trans kc_decl (Nat.le_trans (h2 _ _ _ _ _) (Nat.add_le_add_right (Nat.le_trans kc_decl (h1 _ _ _ _ _)) _))) _))) _) (by omega)
  · exact Nat.le_add_right _ _
end
theorem kc_all : ∀ t : Tr, KcB (cmp t) (ndT t)
  | ⟨c, fk, fs, ft, fp, []⟩ => fun md ch base a S => kc0 (md := md) (base := base) (a := a)
  | ⟨c, fk, fs, ft, fp, [x]⟩ => fun md ch base a S => kc1 (md := md) (base := base) (a := a) (kc_all x)
  | ⟨c, fk, fs, ft, fp, [x, y]⟩ => fun md ch base a S => kc2 (md := md) (base := base) (a := a) (kc_all x) (kc_all y)
  | ⟨c, fk, fs, ft, fp, [x, y, z]⟩ => fun md ch base a S => kc3 (md := md) (base := base) (a := a) (kc_all x) (kc_all y) (kc_all z)
  | ⟨c, fk, fs, ft, fp, [x, y, z, w]⟩ => fun md ch base a S => kc4 (md := md) (base := base) (a := a) (kc_all x) (kc_all y) (kc_all z) (kc_all w)
  | ⟨c, fk, fs, ft, fp, x :: y :: z :: w :: v :: r⟩ => fun md ch base a S => Nat.le_refl _
theorem prog_ks (t : Tr) (n j : Nat) : (fsAt (progF t n) j).ks.length ≤ ndT t := by
  have h1 : totK (progF t n) ≤ totK (cmp t 0 [(0, [])] 0 0 (List.replicate n FS.zero)).2 := totK_mod0 (fun x => rfl)
  have h2 := kc_all t 0 [(0, [])] 0 0 (List.replicate n FS.zero)
  have h3 : totK (List.replicate n FS.zero) = 0 := by
    unfold totK
    rw [List.map_replicate]
    show (List.replicate n 0).sum = 0
    simp
  have h4 : (fsAt (progF t n) j).ks.length ≤ totK (progF t n) := sum_at (g := fun f => f.ks.length) rfl _ j
  omega
end Go.Proofs.Qxb6500568aGreatDoor
