import Derived.Test.Qxb6500568aGreatDoorTc
import Derived.Test.Qxb6500568aGreatDoorSm
/- What the compiler's check asks of a whole program. -/
namespace Go.Proofs.Qxb6500568aGreatDoor
open Ieee
set_option linter.unusedVariables false
set_option linter.unusedSimpArgs false
set_option linter.unusedSectionVars false

/-! No constant stands twice in a pool. -/
def NdK (S : Fns) : Prop := ∀ j, (fsAt S j).ks.Nodup
section
variable {S : Fns} {j n : Nat}
theorem fsAt_out {f : FS → FS} (h : ¬ j < S.length) : S.modify j f = S := by
  apply List.ext_getElem?
  intro i
  rw [List.getElem?_modify]
  by_cases q : j = i
  · subst q
    rw [List.getElem?_eq_none (by omega)]; rfl
  · simp [q]
theorem NdK.mod {f : FS → FS} (h : NdK S) (hf : (f (fsAt S j)).ks.Nodup) : NdK (S.modify j f) := fun k => by
  by_cases hl : j < S.length
  · rw [fsAt_mod hl]
    split
    · exact hf
    · exact h k
  · rw [fsAt_out hl]; exact h k
theorem NdK.st {y : FS} (h : NdK S) (hy : y.ks = []) : NdK (S.set j y) := fun k => by
  by_cases hl : j < S.length
  · rw [fsAt_set hl]
    split
    · rw [hy]; exact List.nodup_nil
    · exact h k
  · rw [List.set_eq_of_length_le (by omega)]; exact h k
theorem NdK.decl (h : NdK S) : NdK (declF j n S) := h.mod (h j)
theorem NdK.con {v : PV} (h : NdK S) : NdK (conF j v S).2 := by
  unfold conF
  split
  · exact h
  · rename_i hp
    refine h.mod ?_
    show ((fsAt S j).ks ++ [v]).Nodup
    rw [List.nodup_append]
    refine ⟨h j, by simp, fun a ha b hb e => ?_⟩
    rw [List.mem_singleton.1 hb] at e
    subst e
    have := posP_none hp a ha
    rw [eqPV_iff.2 rfl] at this
    cases this
theorem NdK.add {d : Nat × Nat} {p : Nat} (h : NdK S) : NdK (addUp j d p S).2 := by
  unfold addUp
  split
  · exact h
  · exact h.mod (h j)
theorem NdK.upv : ∀ (ch : Chn) (nm : Str) {S : Fns}, NdK S → NdK (upvF ch nm S).2
  | [], nm, S, h => h
  | (j, L) :: [], nm, S, h => h
  | (j, L) :: (p, Lp) :: q, nm, S, h => by
    have ih := NdK.upv ((p, Lp) :: q) nm h
    unfold upvF
    simp only
    split
    · exact h.add
    · split
      · rename_i S1 e; rw [e] at ih; exact ih
      · rename_i u S1 e
        rw [e] at ih
        exact ih.add
theorem NdK.var {l u g : Nat} {ch : Chn} {nm : Str} (h : NdK S) : NdK (varF l u g ch nm S).2 := by
  have ih := NdK.upv ch nm h
  unfold varF
  split
  · exact h
  · split
    · rename_i x S1 e; rw [e] at ih; exact ih
    · rename_i S1 e
      rw [e] at ih
      exact ih.con
end
def KN (k : CKid) : Prop := ∀ (md : Nat) (ch : Chn) (base a : Nat) {S : Fns}, NdK S → NdK (k md ch base a S).2
section
variable {ka kb kd ke : CKid} {c fk md base a : Nat} {fs ft : Str} {fp : List Str} {ch : Chn} {S : Fns} {xa xb : Tr}
theorem kn0 (h : NdK S) : NdK (cK0 c fk fs md ch base a S).2 := by
  unfold cK0
  simp only
  repeat' split
  all_goals first
    | exact h
    | exact h.con
    | exact h.var
    | exact h.decl
theorem kn_fn {n : Nat} (hk : KN ka) (h : NdK S) : NdK (fnF n fp ch ka S) := by
  have h1 : NdK (S.set n ⟨fp.length, fp.length, [], [], [], (vis (hL ch)).map (·.1) ++ (fsAt S (hj ch)).outer, []⟩) := h.st rfl
  have h2 := hk fp.length ((n, fp) :: ch) 0 0 h1
  exact h2.mod (h2 n)
theorem kn1 (hk : KN ka) (h : NdK S) : NdK (cK1 c fk fs fp ka md ch base a S).2 := by
  unfold cK1
  simp only
  repeat' split
  all_goals first
    | exact h
    | exact kn_fn hk h
    | exact kn_fn hk h.decl
    | exact hk _ _ _ _ h
    | exact (hk _ _ _ _ h).decl
    | exact (hk _ _ _ _ h).var
theorem NK.ite {x y : Out} {c : Prop} [Decidable c] (h1 : NdK x.2) (h2 : NdK y.2) : NdK (if c then x else y).2 := by
  split
  · exact h1
  · exact h2
theorem kn2 (h1 : KN ka) (h2 : KN kb) (h : NdK S) : NdK (cK2 c fk fs ft xa xb ka kb md ch base a S).2 := by
  have two : ∀ {m1 m2 : Nat} {c1 c2 : Chn} {b1 b2 a1 a2 : Nat}, NdK (kb m2 c2 b2 a2 (ka m1 c1 b1 a1 S).2).2 := h2 _ _ _ _ (h1 _ _ _ _ h)
  exact NK.ite two (NK.ite two (NK.ite two (NK.ite two (NK.ite two (NK.ite (NK.ite two two) (NK.ite two (NK.ite two.decl (NK.ite two (NK.ite two (NK.ite (h2 _ _ _ _ (h1 _ _ _ _ h).decl) (NK.ite two h)))))))))))
theorem kn3 (h1 : KN ka) (h2 : KN kb) (h3 : KN kd) (h : NdK S) : NdK (cK3 c fs ka kb kd md ch base a S).2 := by
  unfold cK3
  simp only
  repeat' split
  all_goals first
    | exact h
    | exact h3 _ _ _ _ (h2 _ _ _ _ (h1 _ _ _ _ h))
    | exact h3 _ _ _ _ (h2 _ _ _ _ (h1 _ _ _ _ h).decl).decl.con.decl
theorem kn4 (h1 : KN ka) (h2 : KN kb) (h3 : KN kd) (h4 : KN ke) (h : NdK S) : NdK (cK4 c fs ka kb kd ke md ch base a S).2 := by
  unfold cK4
  simp only
  split
  · exact h4 _ _ _ _ (h3 _ _ _ _ (h2 _ _ _ _ (h1 _ _ _ _ h).decl).decl).decl
  · exact h
end
theorem kn_all : ∀ t : Tr, KN (cmp t)
  | ⟨c, fk, fs, ft, fp, []⟩ => fun md ch base a S h => kn0 (md := md) (base := base) (a := a) h
  | ⟨c, fk, fs, ft, fp, [x]⟩ => fun md ch base a S h => kn1 (md := md) (base := base) (a := a) (kn_all x) h
  | ⟨c, fk, fs, ft, fp, [x, y]⟩ => fun md ch base a S h => kn2 (md := md) (base := base) (a := a) (kn_all x) (kn_all y) h
  | ⟨c, fk, fs, ft, fp, [x, y, z]⟩ => fun md ch base a S h => kn3 (md := md) (base := base) (a := a) (kn_all x) (kn_all y) (kn_all z) h
  | ⟨c, fk, fs, ft, fp, [x, y, z, w]⟩ => fun md ch base a S h => kn4 (md := md) (base := base) (a := a) (kn_all x) (kn_all y) (kn_all z) (kn_all w) h
  | ⟨c, fk, fs, ft, fp, x :: y :: z :: w :: v :: r⟩ => fun md ch base a S h => h
theorem prog_nd (t : Tr) (n : Nat) : NdK (progF t n) := by
  have h0 : NdK (List.replicate n FS.zero) := fun j => by
    have : fsAt (List.replicate n FS.zero) j = FS.zero := by
      unfold fsAt
      rw [List.getD_eq_getElem?_getD, List.getElem?_replicate]
      by_cases h : j < n <;> simp [h]
    rw [this]; exact List.nodup_nil
  have h1 := kn_all t 0 [(0, [])] 0 0 h0
  exact h1.mod (h1 0)

/-! The whole program. -/
/-- what the check asks of function j. -/
structure FcO (F : Fns) (pa : Nat → Nat) (j : Nat) : Prop where
  fo : FOK (fsAt F j)
  ks : (fsAt F j).ks.length ≤ 300
  nd : (fsAt F j).ks.Nodup
  u0 : j = 0 → (fsAt F j).ups = []
  up : j ≠ 0 → pa j < j ∧ ∀ (u k x : Nat), (fsAt F j).ups[u]? = some (k, x) → (k = 1 ∧ x < (fsAt F (pa j)).ns) ∨ (k = 0 ∧ x < (fsAt F (pa j)).ups.length)
  cd : ∃ z, (fsAt F j).code.length = z + 3 ∧ z ≤ 5101 ∧ (∀ (p : Nat) (i : Nat × Nat), (fsAt F j).code[p]? = some i → InsOK (protoOf (fsAt F j)) z (clO (Psf F) pa j) i) ∧ (fsAt F j).code[z]? = some (2, 0) ∧ (fsAt F j).code[z + 1]? = some (2, 0) ∧ (fsAt F j).code[z + 2]? = some (27, 0)
theorem cd_of {F : Fns} {pa : Nat → Nat} {j z : Nat} (R : Rng (Psf F) pa j z 0 z) (c0 : cod (Psf F) j z = some (2, 0)) (c1 : cod (Psf F) j (z + 1) = some (2, 0)) (c2 : cod (Psf F) j (z + 2) = some (27, 0)) (c3 : cod (Psf F) j (z + 3) = none) (hz : z ≤ 5101) :
    ∃ z, (fsAt F j).code.length = z + 3 ∧ z ≤ 5101 ∧ (∀ (p : Nat) (i : Nat × Nat), (fsAt F j).code[p]? = some i → InsOK (protoOf (fsAt F j)) z (clO (Psf F) pa j) i) ∧ (fsAt F j).code[z]? = some (2, 0) ∧ (fsAt F j).code[z + 1]? = some (2, 0) ∧ (fsAt F j).code[z + 2]? = some (27, 0) := by
  rw [cod_psf] at c0 c1 c2 c3
  have l2 := (List.getElem?_eq_some_iff.1 c2).1
  have l3 := List.getElem?_eq_none_iff.1 c3
  refine ⟨z, by omega, hz, fun p i hp => ?_, c0, c1, c2⟩
  have lp := (List.getElem?_eq_some_iff.1 hp).1
  by_cases q : p < z
  · obtain ⟨i', h1, h2⟩ := R p (Nat.zero_le _) q
    rw [cod_psf, hp] at h1
    cases h1
    rw [pr_psf] at h2
    exact h2
  · have : p = z ∨ p = z + 1 ∨ p = z + 2 := by omega
    rcases this with rfl | rfl | rfl
    · rw [hp] at c0; cases c0; exact in_0 (by omega)
    · rw [hp] at c1; cases c1; exact in_0 (by omega)
    · rw [hp] at c2; cases c2; exact in_0 (by omega)
section
variable {t : Tr} {k : Nat}
theorem nums1 (hT : TrOK t k) : 0 :: numsT t = List.range' 0 (k + 1) := by rw [hT.nums]; rfl
/-- the main function's code. -/
theorem prog_main {G : Arena} {root n : Nat} {t : StL} (hr : IsSL G root t) (hW : W t false 0) (hn : (0 :: numsT t).Nodup) (hl : ∀ k ∈ 0 :: numsT t, k < n) :
    ∃ z, CB (Psf (progF t n)) (Fsf (progF t n)) 0 [] [] [] t 0 z ∧ cod (Psf (progF t n)) 0 z = some (2, 0) ∧ cod (Psf (progF t n)) 0 (z + 1) = some (2, 0) ∧ cod (Psf (progF t n)) 0 (z + 2) = some (27, 0) ∧ cod (Psf (progF t n)) 0 (z + 3) = none := by
  have hz : ∀ k, fsAt (List.replicate n FS.zero) k = FS.zero := fun k => by
    unfold fsAt
    rw [List.getD_eq_getElem?_getD, List.getElem?_replicate]
    by_cases h : k < n <;> simp [h]
  have hc : ChOK (List.replicate n FS.zero) 0 [] := by
    refine ⟨?_, ?_, ?_⟩ <;> rw [hz] <;> rfl
  have hf : Fit (List.replicate n FS.zero) 0 [] (numsT t) := ⟨hn, fun k hk => by rw [List.length_replicate]; exact hl k hk⟩
  have m := mo_all t 0 0 [] [] 0 0 _ hc hf
  have hB : CorB t false := (cor_all G (szT t)).2.2.2 t root false 0 hr hW (Nat.le_refl _)
  have hb := fun F => @hB 0 [] [] [] 0 0 0 (List.replicate n FS.zero) F []
  have e : progF t n = List.modify (cmp t 0 [(0, [])] 0 0 (List.replicate n FS.zero)).2 0 (fun f => { f with code := (cmp t 0 [(0, [])] 0 0 (List.replicate n FS.zero)).1 0 ++ [(2, 0), (2, 0), (27, 0)] }) := rfl
  have hb : ∀ F, Ok F (List.replicate n FS.zero) 0 [] (numsT t) (cmp t 0 [(0, [])] 0 0 (List.replicate n FS.zero)) 0 0 → CB (Psf F) (Fsf F) 0 [] [] [] t 0 (0 + ln (cmp t 0 [(0, [])] 0 0 (List.replicate n FS.zero))) := fun F hok => hb F hok (Nat.zero_le _) (fun q => by cases q)
  generalize cmp t 0 [(0, [])] 0 0 (List.replicate n FS.zero) = q at *
  have hl2 : 0 < q.2.length := by rw [m.mo.len, List.length_replicate]; exact hl 0 List.mem_cons_self
  have hm : ∀ k, fsAt (progF t n) k = if k = 0 then { fsAt q.2 0 with code := q.1 0 ++ [(2, 0), (2, 0), (27, 0)] } else fsAt q.2 k := fun k => by rw [e]; exact fsAt_mod hl2
  have hn0 : 0 ∉ numsT t := (List.nodup_cons.1 hn).1
  have h00 := hm 0
  rw [if_pos rfl] at h00
  have hat : At (progF t n) 0 0 (q.1 0 ++ [(2, 0), (2, 0), (27, 0)]) := fun i y hi => by rw [h00, Nat.zero_add]; exact hi
  obtain ⟨a1, a2⟩ := hat.app
  have hcov : Cov (progF t n) q.2 0 [] (numsT t) := by
    refine ⟨by rw [e, List.length_modify], fun k hk => ?_, fun k hk => ?_⟩
    · rw [hm]
      by_cases h : k = 0
      · subst h; rw [if_pos rfl]; exact ⟨rfl, Nat.le_refl _, List.prefix_refl _, List.prefix_refl _, rfl, List.prefix_refl _⟩
      · rw [if_neg h]; exact Gw.refl _
    · rw [hm, if_neg fun (h : k = 0) => hn0 (h ▸ hk)]
  refine ⟨0 + ln q, hb _ ⟨hc, hf, hcov, a1⟩, a2.hd, a2.tl.hd, a2.tl.tl.hd, ?_⟩
  rw [cod_psf, h00]
  refine List.getElem?_eq_none ?_
  show (q.1 0 ++ [(2, 0), (2, 0), (27, 0)]).length ≤ _
  rw [List.length_append]
  show (q.1 0).length + 3 ≤ 0 + (q.1 0).length + 3
  omega
theorem prog_ck (hT : TrOK t k) (h300 : ndT t ≤ 300) : ∀ j, j ≤ k → FcO (progF t (k + 1)) (paF (paL t 0)) j := by
  have hn := nums1 hT
  have h12 := hT.k12
  have hnd : (0 :: numsT t).Nodup := by rw [hn]; exact List.nodup_range'
  have hlt : ∀ j ∈ 0 :: numsT t, j < k + 1 := fun j hj => by rw [hn, List.mem_range'_1] at hj; omega
  have hpw : (0 :: numsT t).Pairwise (· < ·) := by rw [hn]; exact List.pairwise_lt_range'
  obtain ⟨hb1, hb2, hb3, hb4, hb5⟩ := prog_bd (arena_is hT) hT.w hnd hlt (by omega) h300
  obtain ⟨-, hF0⟩ := prog_fnd (G := arena t) (root := rt t 1) (arena_is hT) hT.w rfl hnd hlt
  obtain ⟨z, hz, c0, c1, c2, c3⟩ := prog_main (arena_is hT) hT.w hnd hlt
  have hpa : PaT (paF (paL t 0)) t 0 := paT_ex (List.nodup_cons.1 hnd).2
  have hu0 : (pr (Psf (progF t (k + 1))) 0).ups.length = (Fsf (progF t (k + 1)) 0).upos.length := by
    rw [pr_psf, hF0]
    show (fsAt (progF t (k + 1)) 0).ups.length = 0
    rw [hb4]; rfl
  obtain ⟨R, hR⟩ := (TrI.sl (rng_tri (Ps := Psf (progF t (k + 1))) (Fs := Fsf (progF t (k + 1))) (pa := paF (paL t 0))) (arena_is hT)) 0 [] [] [] 0 z z hz hpa ⟨Nat.zero_le _, hu0, hpw, h300⟩ (fun e he => by cases he) (Nat.le_refl _)
  intro j hj
  refine ⟨hb1 j, Nat.le_trans (prog_ks t (k + 1) j) h300, prog_nd t (k + 1) j, fun e => by rw [e]; exact hb4, fun hj0 => ?_, ?_⟩
  · have hm : j ∈ numsT t := by
      have : j ∈ 0 :: numsT t := by rw [hn, List.mem_range'_1]; omega
      exact (List.mem_cons.1 this).resolve_left hj0
    have g := R.fg j hm
    refine ⟨g.pl, fun u k' x hu => ?_⟩
    have := g.ups u k' x (by rw [pr_psf]; exact hu)
    rw [pr_psf] at this
    exact this
  · by_cases hj0 : j = 0
    · subst hj0
      exact cd_of R.rg c0 c1 c2 c3 (by omega)
    · have hm : j ∈ numsT t := by
        have : j ∈ 0 :: numsT t := by rw [hn, List.mem_range'_1]; omega
        exact (List.mem_cons.1 this).resolve_left hj0
      obtain ⟨z', r1, r2, r3, r4, r5, r6⟩ := (R.fg j hm).cd
      exact cd_of r1 r2 r3 r4 r5 r6
end
end Go.Proofs.Qxb6500568aGreatDoor
