import Derived.Test.Qxb6500568aGreatDoorTb
/- All compiled code passes. -/
namespace Go.Proofs.Qxb6500568aGreatDoor
open Ieee
set_option linter.unusedVariables false
set_option linter.unusedSimpArgs false
set_option linter.unusedSectionVars false

section
variable {Ps : List Proto} {Fs : Nat → FI} {pa : Nat → Nat}
theorem r_one {t : Tr} (hn : ndT t = 1) (hN : numsT t = []) (h : ∀ (j : Nat) (L : List Str) (a b M : Nat), CE Ps Fs j L t a b → CxT Ps Fs j L (numsT t) (ndT t) → b = a + 1 ∧ RgR Ps pa j M [] a (a + 1)) : RE Ps Fs pa t :=
  ⟨by omega, fun j L a b M hc hp hx hM => by
    obtain ⟨rfl, R⟩ := h j L a b M hc hx
    rw [hN, hn]
    exact ⟨R, by omega⟩⟩
theorem r_two {t x y : Tr} {is : List (Nat × Nat)} (hn : ndT t = 1 + ndT x + ndT y) (hN : numsT t = numsT x ++ numsT y) (hP : ∀ j, PaT pa t j → PaT pa x j ∧ PaT pa y j) (hx : RE Ps Fs pa x) (hy : RE Ps Fs pa y)
    (h : ∀ (j : Nat) (L : List Str) (a b : Nat), CE Ps Fs j L t a b → ∃ m p, CE Ps Fs j L x a m ∧ CE Ps Fs j L y m p ∧ ∃ i, cod Ps j p = some i ∧ (∀ M, InsOK (pr Ps j) M (clO Ps pa j) i) ∧ b = p + 1) : RE Ps Fs pa t :=
  ⟨by omega, fun j L a b M hc hp hX hM => by
    obtain ⟨m, p, h1, h2, i, h3, h4, rfl⟩ := h j L a b hc
    rw [hN, hn] at hX
    have hp := hP j hp
    obtain ⟨R2, l2⟩ := hy.2 j L m p M h2 hp.2 (hX.rgt (by omega)) (by omega)
    have := R2.le
    obtain ⟨R1, l1⟩ := hx.2 j L a m M h1 hp.1 (hX.lft (by omega)) (by omega)
    rw [hN, hn]
    exact ⟨(R1.app R2).snoc h3 (h4 M), by omega⟩⟩
theorem r_jmp {t x y : Tr} {op : Nat} (ho : op = 23 ∨ op = 24) (hn : ndT t = 1 + ndT x + ndT y) (hN : numsT t = numsT x ++ numsT y) (hP : ∀ j, PaT pa t j → PaT pa x j ∧ PaT pa y j) (hx : RE Ps Fs pa x) (hy : RE Ps Fs pa y)
    (h : ∀ (j : Nat) (L : List Str) (a b : Nat), CE Ps Fs j L t a b → ∃ m, CE Ps Fs j L x a m ∧ cod Ps j m = some (op, b) ∧ m < b ∧ CE Ps Fs j L y (m + 1) b) : RE Ps Fs pa t :=
  ⟨by omega, fun j L a b M hc hp hX hM => by
    obtain ⟨m, h1, h2, h3, h4⟩ := h j L a b hc
    rw [hN, hn] at hX
    have hp := hP j hp
    obtain ⟨R2, l2⟩ := hy.2 j L (m + 1) b M h4 hp.2 (hX.rgt (by omega)) (by omega)
    obtain ⟨R1, l1⟩ := hx.2 j L a m M h1 hp.1 (hX.lft (by omega)) (by omega)
    rw [hN, hn]
    exact ⟨(R1.snoc h2 (in_j (by omega) hM)).app R2, by omega⟩⟩
theorem r_cons {x y : Tr} (hx : RE Ps Fs pa x) (hy : RA Ps Fs pa y) : RA Ps Fs pa (ExL.cons x y) := by
  have hn : ndT (ExL.cons x y) = 0 + ndT x + ndT y := rfl
  have hN : numsT (ExL.cons x y) = numsT x ++ numsT y := rfl
  have h1 := hx.1
  refine ⟨fun j L a b M h hp hX hM => ?_, fun j L i a b M h hp hX hM hi hd => ?_⟩
  · obtain ⟨m, c1, c2⟩ := CA_cons.1 h
    have hp : PaT pa x j ∧ PaT pa y j := hp
    rw [hn, hN] at *
    obtain ⟨R2, l2⟩ := hy.1 j L m b M c2 hp.2 (hX.rgt (by omega)) hM
    have := R2.le
    obtain ⟨R1, l1⟩ := hx.2 j L a m M c1 hp.1 (hX.lft (by omega)) (by omega)
    exact ⟨R1.app R2, by omega⟩
  · obtain ⟨m, c1, c2, c3⟩ := CI_cons.1 h
    have hp : PaT pa x j ∧ PaT pa y j := hp
    rw [hn, hN] at *
    obtain ⟨R2, l2⟩ := hy.2 j L (i + 1) (m + 1) b M c3 hp.2 (hX.rgt (by omega)) hM (by omega) (by omega)
    have := R2.le
    obtain ⟨R1, l1⟩ := hx.2 j L a m M c1 hp.1 (hX.lft (by omega)) (by omega)
    exact ⟨(R1.snoc c2 (in_i hi (by omega))).app R2, by omega⟩
/-- a call: two results. -/
theorem call_res {x y : Tr} {j a m p M d : Nat} {L : List Str} (hx : RE Ps Fs pa x) (hy : RA Ps Fs pa y) (c1 : CE Ps Fs j L x a m) (c2 : CA Ps Fs j L y m p) (c3 : cod Ps j p = some (26, lenE y)) (c4 : lenE y ≤ 3) (hp : PaT pa x j ∧ PaT pa y j) (hX : CxT Ps Fs j L (numsT x ++ numsT y) d) (hd : ndT x + ndT y ≤ d) (hM : p + 1 ≤ M) : RgR Ps pa j M (numsT x ++ numsT y) a (p + 1) ∧ p + 1 ≤ a + 17 * (ndT x + ndT y) := by
  obtain ⟨R2, l2⟩ := hy.1 j L m p M c2 hp.2 (hX.rgt (by omega)) (by omega)
  have := R2.le
  obtain ⟨R1, l1⟩ := hx.2 j L a m M c1 hp.1 (hX.lft (by omega)) (by omega)
  exact ⟨(R1.app R2).snoc c3 (in_k c4), by omega⟩
theorem rng_tri : TrI (RE Ps Fs pa) (RA Ps Fs pa) (RS Ps Fs pa) (RB Ps Fs pa) where
  lit := fun k hk => r_one rfl rfl fun j L a b M h hx => ⟨(CE_lit.1 h).2, .one (CE_lit.1 h).1 (in_0 (by omega))⟩
  num := fun k => r_one rfl rfl fun j L a b M h hx => by
    obtain ⟨⟨q, h1, h2⟩, h3⟩ := CE_num.1 h
    exact ⟨h3, .one h1 (in_c (con_lt h2))⟩
  str := fun k => r_one rfl rfl fun j L a b M h hx => by
    obtain ⟨⟨q, h1, h2⟩, h3⟩ := CE_str.1 h
    exact ⟨h3, .one h1 (in_c (con_lt h2))⟩
  name := fun k => r_one rfl rfl fun j L a b M h hx => ⟨(CE_name.1 h).2, cv_res (CE_name.1 h).1 hx (by omega) (by omega) (by omega)⟩
  index := fun x y hx hy => r_two (is := []) rfl rfl (fun j h => h) hx hy fun j L a b h => by
    obtain ⟨m, p, h1, h2, h3, h4⟩ := CE_index.1 h
    exact ⟨m, p, h1, h2, _, h3, fun M => in_0 (by omega), h4⟩
  call := fun x y hx hy => ⟨by show 1 ≤ 1 + ndT x + ndT y; omega, fun j L a b M h hp hX hM => by
    obtain ⟨m, p, c1, c2, c3, c4, c5, rfl⟩ := CE_call.1 h
    have hX : CxT Ps Fs j L (numsT x ++ numsT y) (1 + ndT x + ndT y) := hX
    obtain ⟨R, l⟩ := call_res (M := M) hx hy c1 c2 c3 c4 hp hX (by omega) (by omega)
    refine ⟨R.snoc c5 (in_0 (by omega)), ?_⟩
    show p + 2 + 1 ≤ a + 17 * (1 + ndT x + ndT y)
    omega⟩
  func := fun n ps bd hb => ⟨by show 1 ≤ 1 + ps.length + ndT bd; omega, fun j L a b M h hp hX hM => by
    obtain ⟨c1, rfl, c2⟩ := CE_func.1 h
    have hX : CxT Ps Fs j L (n :: numsT bd) (1 + ps.length + ndT bd) := hX
    have hp : pa n = j ∧ PaT pa bd n := hp
    obtain ⟨f1, f2⟩ := cf_res hb c2 hX.l hp hX (by have := hX.n; omega)
    refine ⟨(RgR.one c1 (in_cl f2)).addF f1, ?_⟩
    show a + 1 + 1 ≤ a + 17 * (1 + ps.length + ndT bd)
    omega⟩
  table := fun x hx => ⟨by show 1 ≤ 1 + ndT x; omega, fun j L a b M h hp hX hM => by
    obtain ⟨c1, c2⟩ := CE_table.1 h
    have hX : CxT Ps Fs j L (numsT x) (1 + ndT x) := hX
    have h3 := hX.n
    obtain ⟨R, l⟩ := hx.2 j L 1 (a + 1) b M c2 hp (hX.dn (by omega)) hM (by omega) (by omega)
    refine ⟨R.cons c1 (in_0 (by omega)), ?_⟩
    show b + 1 ≤ a + 17 * (1 + ndT x)
    omega⟩
  bin := fun k x y hx hy => r_two (is := []) rfl rfl (fun j h => h) hx hy fun j L a b h => by
    obtain ⟨m, p, h1, h2, h3, h4, h5⟩ := CE_bin.1 h
    exact ⟨m, p, h1, h2, _, h3, fun M => in_bin h5, h4⟩
  un := fun k x hx => ⟨by show 1 ≤ 1 + ndT x; omega, fun j L a b M h hp hX hM => by
    obtain ⟨m, c1, c2, rfl, -⟩ := CE_un.1 h
    have hX : CxT Ps Fs j L (numsT x) (1 + ndT x) := hX
    obtain ⟨R, l⟩ := hx.2 j L a m M c1 hp (hX.dn (by omega)) (by omega)
    refine ⟨R.snoc c2 in_un, ?_⟩
    show m + 1 + 1 ≤ a + 17 * (1 + ndT x)
    omega⟩
  land := fun x y hx hy => r_jmp (op := 23) (.inl rfl) rfl rfl (fun j h => h) hx hy fun j L a b h => CE_land.1 h
  lor := fun x y hx hy => r_jmp (op := 24) (.inr rfl) rfl rfl (fun j h => h) hx hy fun j L a b h => CE_lor.1 h
  enil := ⟨fun j L a b M h hp hX hM => by obtain rfl := CA_nil.1 h; exact ⟨.nil, by omega⟩, fun j L i a b M h hp hX hM _ _ => by obtain rfl := CI_nil.1 h; exact ⟨.nil, by omega⟩⟩
  econs := fun x y hx hy => r_cons hx hy
  loc := fun s j L lc a b M h hp hX hA hl hM => by
    obtain ⟨-, c1, c2, rfl⟩ := CS_loc.1 h
    rw [aftS_loc, List.length_append] at hA
    have hA : L.length + 1 ≤ _ := hA
    exact ⟨.cons c1 (in_0 (by omega)) (.one c2 (in_l (by omega) (by omega))), by show a + 2 ≤ a + 17 * 1; omega⟩
  locV := fun s x hx j L lc a b M h hp hX hA hl hM => by
    obtain ⟨-, -, m, c1, c2, rfl⟩ := CS_locV.1 h
    rw [aftS_locV, List.length_append] at hA
    have hA : L.length + 1 ≤ _ := hA
    have hX : CxT Ps Fs j L (numsT x) (1 + ndT x) := hX
    obtain ⟨R, l⟩ := hx.2 j L a m M c1 hp (hX.dn (by omega)) (by omega)
    exact ⟨R.snoc c2 (in_l (by omega) (by omega)), by show m + 1 ≤ a + 17 * (1 + ndT x); omega⟩
  loc2 := fun s t x y hx hy j L lc a b M h hp hX hA hl hM => by
    obtain ⟨-, -, -, m, p, c1, c2, c3, c4, c5, c6, rfl⟩ := CS_loc2.1 h
    rw [aftS_loc2, List.length_append] at hA
    have hA : L.length + 2 ≤ _ := hA
    have hX : CxT Ps Fs j L (numsT x ++ numsT y) (4 + ndT x + ndT y) := hX
    obtain ⟨R, l⟩ := call_res (M := M) hx hy c1 c2 c3 c4 hp hX (by omega) (by omega)
    exact ⟨(R.snoc c5 (in_l (by omega) (by omega))).snoc c6 (in_l (by omega) (by omega)), by show p + 3 ≤ a + 17 * (4 + ndT x + ndT y); omega⟩
  locFn := fun s n ps bd hb j L lc a b M h hp hX hA hl hM => by
    obtain ⟨-, c1, c2, c3, rfl⟩ := CS_locFn.1 h
    rw [aftS_locFn] at hA
    have hA' := hA
    rw [List.length_append] at hA'
    have hA' : L.length + 1 ≤ _ := hA'
    have hX : CxT Ps Fs j L (n :: numsT bd) (2 + ps.length + ndT bd) := hX
    have hp : pa n = j ∧ PaT pa bd n := hp
    obtain ⟨f1, f2⟩ := cf_res hb c2 hA hp hX (by have := hX.n; omega)
    exact ⟨((RgR.one c1 (in_cl f2)).snoc c3 (in_l (by omega) (by omega))).addF f1, by show a + 2 ≤ a + 17 * (2 + ps.length + ndT bd); omega⟩
  setN := fun s x hx j L lc a b M h hp hX hA hl hM => by
    obtain ⟨-, m, c1, c2, rfl⟩ := CS_setN.1 h
    have hX : CxT Ps Fs j L (numsT x) (2 + ndT x) := hX
    obtain ⟨R, l⟩ := hx.2 j L a m M c1 hp (hX.dn (by omega)) (by omega)
    have R2 := R.app (cv_res (M := M) (pa := pa) c2 hX (by omega) (by omega) (by omega))
    rw [List.append_nil] at R2
    exact ⟨R2, by show m + 1 ≤ a + 17 * (2 + ndT x); omega⟩
  setI := fun x y z hx hy hz j L lc a b M h hp hX hA hl hM => by
    obtain ⟨-, -, -, m, p, q, c1, c2, c3, c4, rfl⟩ := CS_setI.1 h
    have hX : CxT Ps Fs j L (numsT x ++ (numsT y ++ numsT z)) (2 + ndT x + ndT y + ndT z) := hX
    have hp : PaT pa x j ∧ PaT pa y j ∧ PaT pa z j := hp
    have hX2 := hX.rgt (d' := ndT y + ndT z) (by omega)
    obtain ⟨R3, l3⟩ := hz.2 j L p q M c3 hp.2.2 (hX2.rgt (by omega)) (by omega)
    have e3 := R3.le
    obtain ⟨R2, l2⟩ := hy.2 j L m p M c2 hp.2.1 (hX2.lft (by omega)) (by omega)
    have e2 := R2.le
    obtain ⟨R1, l1⟩ := hx.2 j L a m M c1 hp.1 (hX.lft (by omega)) (by omega)
    exact ⟨(R1.app (R2.app R3)).snoc c4 (in_0 (by omega)), by show q + 1 ≤ a + 17 * (2 + ndT x + ndT y + ndT z); omega⟩
  scall := fun x y hx hy j L lc a b M h hp hX hA hl hM => by
    obtain ⟨-, m, p, c1, c2, c3, c4, c5, c6, rfl⟩ := CS_call.1 h
    have hX : CxT Ps Fs j L (numsT x ++ numsT y) (2 + ndT x + ndT y) := hX
    obtain ⟨R, l⟩ := call_res (M := M) hx hy c1 c2 c3 c4 hp hX (by omega) (by omega)
    exact ⟨(R.snoc c5 (in_0 (by omega))).snoc c6 (in_0 (by omega)), by show p + 3 ≤ a + 17 * (2 + ndT x + ndT y); omega⟩
  iff := fun x y z hx hy hz j L lc a b M h hp hX hA hl hM => by
    obtain ⟨-, m, p, c1, c2, l2, c3, c4, l4, c5⟩ := CS_iff.1 h
    have hX : CxT Ps Fs j L (numsT x ++ (numsT y ++ numsT z)) (1 + ndT x + ndT y + ndT z) := hX
    have hp : PaT pa x j ∧ PaT pa y j ∧ PaT pa z j := hp
    have hX2 := hX.rgt (d' := ndT y + ndT z) (by omega)
    obtain ⟨R3, k3⟩ := hz j L L lc (p + 1) b M c5 hp.2.2 (hX2.rgt (by omega)) hl hM
    obtain ⟨R2, k2⟩ := hy j L L lc (m + 1) p M c3 hp.2.1 (hX2.lft (by omega)) hl (by omega)
    have e2 := R2.le
    obtain ⟨R1, k1⟩ := hx.2 j L a m M c1 hp.1 (hX.lft (by omega)) (by omega)
    exact ⟨(R1.snoc c2 (in_j (by omega) (by omega))).app ((R2.snoc c4 (in_j (by omega) hM)).app R3), by show b ≤ a + 17 * (1 + ndT x + ndT y + ndT z); omega⟩
  whl := fun x y hx hy j L lc a b M h hp hX hA hl hM => by
    obtain ⟨-, m, p, c1, c2, l2, c3, c4, l4, rfl⟩ := CS_whl.1 h
    have hX : CxT Ps Fs j L (numsT x ++ numsT y) (1 + ndT x + ndT y) := hX
    have hp : PaT pa x j ∧ PaT pa y j := hp
    obtain ⟨R2, k2⟩ := hy j L L _ (m + 1) p M c3 hp.2 (hX.rgt (by omega)) (fun e he => by
      rcases List.mem_cons.1 he with rfl | he
      · exact hM
      · exact hl e he) (by omega)
    have e2 := R2.le
    obtain ⟨R1, k1⟩ := hx.2 j L a m M c1 hp.1 (hX.lft (by omega)) (by omega)
    exact ⟨((R1.snoc c2 (in_j (by omega) hM)).app R2).snoc c4 (in_j (by omega) (by omega)), by show p + 1 ≤ a + 17 * (1 + ndT x + ndT y); omega⟩
  for2 := fun s x y z hx hy hz j L lc a b M h hp hX hA hl hM => by
    obtain ⟨-, -, -, hns, m, p, c1, c2, c3, c4, ⟨k, c5, c6⟩, c7⟩ := CS_for2.1 h
    have hX : CxT Ps Fs j L (numsT x ++ (numsT y ++ numsT z)) (1 + ndT x + ndT y + ndT z) := hX
    have hp : PaT pa x j ∧ PaT pa y j ∧ PaT pa z j := hp
    have hX2 := hX.rgt (d' := ndT y + ndT z) (by omega)
    have key : ∀ q, CB Ps Fs j (L ++ [[], [], [], s]) (L ++ [[], [], [], s]) ((L.length, q + 6) :: lc) z ((p + 2) + 6) q → q + 7 ≤ M → RgR Ps pa j M (numsT z) ((p + 2) + 6) q ∧ q ≤ (p + 2) + 6 + 17 * ndT z + 1 := fun q hq hqM =>
      hz j _ _ _ _ q M hq hp.2.2 ((hX2.rgt (by omega)).lo (by simpa using hns)) (fun e he => by
        rcases List.mem_cons.1 he with rfl | he
        · show q + 6 ≤ M; omega
        · exact hl e he) (by omega)
    obtain ⟨q, hq, rfl, R3⟩ := cl_res (N := numsT z) (pa := pa) c7 hns hM (fun q hq hqM => (key q hq hqM).1)
    have k3 := (key q hq hM).2
    have e3 := (key q hq hM).1.le
    obtain ⟨R2, k2⟩ := hy.2 j (L ++ [[]]) (m + 1) p M c3 hp.2.1 ((hX2.lft (by omega)).lo (by simp; omega)) (by omega)
    have e2 := R2.le
    obtain ⟨R1, k1⟩ := hx.2 j L a m M c1 hp.1 (hX.lft (by omega)) (by omega)
    exact ⟨(R1.snoc c2 (in_l (by omega) (by omega))).app (((R2.snoc c4 (in_l (by omega) (by omega))).snoc c5 (in_c (con_lt c6))).app R3), by show q + 7 ≤ a + 17 * (1 + ndT x + ndT y + ndT z); omega⟩
  for3 := fun s x y v z hx hy hv hz j L lc a b M h hp hX hA hl hM => by
    obtain ⟨-, -, -, -, hns, m, p, r, c1, c2, c3, c4, c5, c7⟩ := CS_for3.1 h
    have hX : CxT Ps Fs j L (numsT x ++ (numsT y ++ (numsT v ++ numsT z))) (1 + ndT x + ndT y + ndT v + ndT z) := hX
    have hp : PaT pa x j ∧ PaT pa y j ∧ PaT pa v j ∧ PaT pa z j := hp
    have hX2 := hX.rgt (d' := ndT y + ndT v + ndT z) (by omega)
    have hX3 := hX2.rgt (d' := ndT v + ndT z) (by omega)
    have key : ∀ q, CB Ps Fs j (L ++ [[], [], [], s]) (L ++ [[], [], [], s]) ((L.length, q + 6) :: lc) z (r + 6) q → q + 7 ≤ M → RgR Ps pa j M (numsT z) (r + 6) q ∧ q ≤ r + 6 + 17 * ndT z + 1 := fun q hq hqM =>
      hz j _ _ _ _ q M hq hp.2.2.2 ((hX3.rgt (by omega)).lo (by simpa using hns)) (fun e he => by
        rcases List.mem_cons.1 he with rfl | he
        · show q + 6 ≤ M; omega
        · exact hl e he) (by omega)
    obtain ⟨q, hq, rfl, R4⟩ := cl_res (N := numsT z) (pa := pa) c7 hns hM (fun q hq hqM => (key q hq hqM).1)
    have k4 := (key q hq hM).2
    have e4 := (key q hq hM).1.le
    obtain ⟨R3, k3⟩ := hv.2 j (L ++ [[], []]) (p + 1) r M c5 hp.2.2.1 ((hX3.lft (by omega)).lo (by simp; omega)) (by omega)
    have e3 := R3.le
    obtain ⟨R2, k2⟩ := hy.2 j (L ++ [[]]) (m + 1) p M c3 hp.2.1 ((hX2.lft (by omega)).lo (by simp; omega)) (by omega)
    have e2 := R2.le
    obtain ⟨R1, k1⟩ := hx.2 j L a m M c1 hp.1 (hX.lft (by omega)) (by omega)
    exact ⟨(R1.snoc c2 (in_l (by omega) (by omega))).app ((R2.snoc c4 (in_l (by omega) (by omega))).app (R3.app R4)), by show q + 7 ≤ a + 17 * (1 + ndT x + ndT y + ndT v + ndT z); omega⟩
  forIn := fun s t x y hx hy j L lc a b M h hp hX hA hl hM => by
    obtain ⟨-, -, -, hns, m, q, c1, c2, c3, c4, c5, c6, l6, c7, c8, c9, l9, c10, rfl⟩ := CS_forIn.1 h
    have hX : CxT Ps Fs j L (numsT x ++ numsT y) (3 + ndT x + ndT y) := hX
    have hp : PaT pa x j ∧ PaT pa y j := hp
    obtain ⟨R2, k2⟩ := hy j _ _ _ (m + 5) q M c7 hp.2 ((hX.rgt (by omega)).lo (by simpa using hns)) (fun e he => by
      rcases List.mem_cons.1 he with rfl | he
      · show q + 2 ≤ M; omega
      · exact hl e he) (by omega)
    have e2 := R2.le
    obtain ⟨R1, k1⟩ := hx.2 j L a m M c1 hp.1 (hX.lft (by omega)) (by omega)
    exact ⟨(((((((R1.snoc c2 (in_l (by omega) (by omega))).snoc c3 (in_0 (by omega))).snoc c4 (in_l (by omega) (by omega))).snoc c5 (in_f (by omega) (by omega))).snoc c6 (in_j (by omega) (by omega))).app R2).snoc c8 (in_l (by omega) (by omega))).snoc c9 (in_j (by omega) (by omega)) |>.snoc c10 (in_l (by omega) (by omega)), by show q + 3 ≤ a + 17 * (3 + ndT x + ndT y); omega⟩
  ret0 := fun j L lc a b M h hp hX hA hl hM => by
    obtain ⟨c1, c2, c3, rfl⟩ := CS_ret0.1 h
    exact ⟨.cons c1 (in_0 (by omega)) (.cons c2 (in_0 (by omega)) (.one c3 (in_0 (by omega)))), by show a + 3 ≤ a + 17 * 1; omega⟩
  ret1 := fun x hx j L lc a b M h hp hX hA hl hM => by
    obtain ⟨-, m, c1, c2, c3, rfl⟩ := CS_ret1.1 h
    have hX : CxT Ps Fs j L (numsT x) (1 + ndT x) := hX
    obtain ⟨R, l⟩ := hx.2 j L a m M c1 hp (hX.dn (by omega)) (by omega)
    exact ⟨(R.snoc c2 (in_0 (by omega))).snoc c3 (in_0 (by omega)), by show m + 2 ≤ a + 17 * (1 + ndT x); omega⟩
  ret2 := fun x y hx hy j L lc a b M h hp hX hA hl hM => by
    obtain ⟨-, -, m, p, c1, c2, c3, rfl⟩ := CS_ret2.1 h
    have hX : CxT Ps Fs j L (numsT x ++ numsT y) (1 + ndT x + ndT y) := hX
    have hp : PaT pa x j ∧ PaT pa y j := hp
    obtain ⟨R2, k2⟩ := hy.2 j L m p M c2 hp.2 (hX.rgt (by omega)) (by omega)
    have e2 := R2.le
    obtain ⟨R1, k1⟩ := hx.2 j L a m M c1 hp.1 (hX.lft (by omega)) (by omega)
    exact ⟨(R1.app R2).snoc c3 (in_0 (by omega)), by show p + 1 ≤ a + 17 * (1 + ndT x + ndT y); omega⟩
  brk := fun j L lc a b M h hp hX hA hl hM => by
    obtain ⟨n, x, r, e, h2⟩ := CS_brk.1 h
    subst e
    clear h
    have hx : x ≤ M := hl (n, x) List.mem_cons_self
    have hL := hX.l
    split at h2
    · obtain ⟨c1, c2, c3, rfl⟩ := h2
      exact ⟨.cons c1 (in_l (by omega) (by omega)) (.one c2 (in_j (by omega) hx)), by show a + 2 ≤ a + 17 * 1; omega⟩
    · obtain ⟨c1, c3, rfl⟩ := h2
      exact ⟨.one c1 (in_j (by omega) hx), by show a + 1 ≤ a + 17 * 1; omega⟩
  snil := fun j L0 L lc a b M h hp hX hl hM => by
    have h := CB_nil.1 h
    have hL := hX.l
    split at h
    · obtain ⟨c1, rfl⟩ := h
      exact ⟨.one c1 (in_l (by omega) (by omega)), by omega⟩
    · subst h
      exact ⟨.nil, by omega⟩
  scons := fun x y hx hy j L0 L lc a b M h hp hX hl hM => by
    obtain ⟨c0, m, c1, c2⟩ := CB_cons.1 h
    have hX : CxT Ps Fs j L (numsT x ++ numsT y) (0 + ndT x + ndT y) := hX
    have hp : PaT pa x j ∧ PaT pa y j := hp
    obtain ⟨R2, k2⟩ := hy j L0 _ lc m b M c2 hp.2 ((hX.rgt (by omega)).lo c0) hl hM
    have e2 := R2.le
    obtain ⟨R1, k1⟩ := hx j L lc a m M c1 hp.1 (hX.lft (by omega)) c0 hl (by omega)
    exact ⟨R1.app R2, by show b ≤ a + 17 * (0 + ndT x + ndT y) + 1; omega⟩
end
end Go.Proofs.Qxb6500568aGreatDoor
