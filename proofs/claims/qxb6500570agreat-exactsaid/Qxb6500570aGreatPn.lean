import Derived.Test.Qxb6500570aGreatPm
/- Plain: the program of a lawful arena leaves what the arena is worth. -/
namespace Go.Proofs.Qxb6500570aGreat
set_option linter.unusedVariables false
set_option linter.unusedSimpArgs false

theorem setC_one (I : In) : setC [I] = I.m := Nat.or_zero _
theorem exC_one (env : Nat → Vl) (I : In) (z : List Vl × List Ty) : exC env [I] z = exI env I z := rfl
theorem tall_lt {f : Nat} (h : tallF f = true) : f < 8 ∧ f ≠ 5 := by unfold tallF at h; simp at h; omega

/-- A node above one lawful part. -/
theorem up_law {n : List Nd} {env : Nat → Vl} {f lo i : Nat} {x : Nd} {I : In} {W W' : Vl} {C : List In} (hx : n[i]? = some x) (h1 : 1 ≤ i) (hlo : lo ≤ i - 1) (hi : i < 24)
    (h8 : x.k ≠ 8) (h9 : x.k ≠ 9) (h3 : x.k ≠ 3) (h4 : x.k ≠ 4) (hc : ∀ o, cI n o x = [I]) (him : I.m = 0) (ha : I.a < 24) (hW : Lw W')
    (he : ∀ g fn, f ≤ g → (evF n env (g + 1) fn (i : Nat)).1 = W')
    (hcm : ∀ own, cmpF n (i - 1 + 1) own = cmpF n lo own ++ C) (hset : setC C = rdF n lo (i - 1 + 1 - lo))
    (hrun : ∀ st fs, st.length + (i + 1 - lo) ≤ 24 → fs.length + (i + 1 - lo) ≤ 24 → safeC env C (st, fs) ∧ okI I (exC env C (st, fs)) ∧ exI env I (exC env C (st, fs)) = (W' :: st, fs)) : NdLaw n env (f + 1) lo i := by
  refine ⟨C ++ [I], W', hW, ?_, ?_, ?_, ?_⟩
  · intro g fn hg
    obtain ⟨g, rfl⟩ : ∃ k, g = k + 1 := ⟨g - 1, by omega⟩
    exact he g fn (by omega)
  · intro own
    rw [cmp_succ hx, hc]
    unfold ownS
    rw [if_neg h8, if_neg h9]
    have := hcm own
    rw [show i - 1 + 1 = i by omega] at this
    rw [this, List.append_assoc]
  · rw [setC_app, setC_one, him, rd_last n hx (by omega), rdN0 h3 h4, hset, show i - 1 + 1 - lo = i - lo by omega]
  · intro st fs g1 g2
    obtain ⟨k1, k2, k3⟩ := hrun st fs g1 g2
    exact ⟨safe_app _ _ _ _ k1 (safe_one k2 ha (by rw [him]; decide)), by rw [exC_app, exC_one, k3]⟩

theorem call_cmp {n : List Nd} {i lo fn : Nat} {x : Nd} {C : List In} (hx : n[i]? = some x) (h1 : 1 ≤ i) (hk : x.k = 8) (ha : x.a = (i : Int) - 1) (ho : x.o = (fn : Int)) (hlo : lo ≤ i - 1)
    (hcm : ∀ own, own (i - 1) = fn → cmpF n (i - 1 + 1) own = cmpF n lo own ++ C) (own : Nat → Nat) : cmpF n (i + 1) own = cmpF n lo own ++ (C ++ cI n 0 x) := by
  have hci : cI n (own i) x = cI n 0 x := by unfold cI; simp [hk]
  rw [cmp_succ hx, hci]
  have how : ownS own x i = (fun j => if j = i - 1 then fn else own j) := by
    unfold ownS
    rw [if_pos hk, ha, ho]
    funext j
    rw [show ((i : Int) - 1).toNat = i - 1 by omega, Int.toNat_natCast]
  have := hcm (ownS own x i) (by rw [how]; simp)
  rw [show i - 1 + 1 = i by omega] at this
  rw [this, List.append_assoc]
  congr 1
  apply cmp_own
  intro j hj
  rw [how]
  simp only
  rw [if_neg (by omega)]

set_option maxHeartbeats 1000000 in
theorem ev_law {n : List Nd} {env : Nat → Vl} (hL : ∀ c, c < 24 → Lw (env c)) (hn : n.length ≤ 24) : ∀ (f : Nat),
    (∀ lo i arg, SgF n f false 0 lo i arg → isRng n i = false → NdLaw n env f lo i)
    ∧ (∀ k lo i rg fn, SgF n f true k lo i rg → (tallF fn = true → 1 ≤ fn → TlLaw n env f lo i fn) ∧ (tallF fn = false → rg = false → ArLaw n env f k lo i fn)) := by
  intro f
  induction f with
  | zero => exact ⟨fun _ _ _ h => h.elim, fun _ _ _ _ _ h => h.elim⟩
  | succ f ih =>
    obtain ⟨ihN, ihL⟩ := ih
    refine ⟨?_, ?_⟩
    · intro lo i arg h hr
      have hle := SgF.le _ _ _ _ _ _ h
      obtain ⟨x, hx, h⟩ := h
      have hxi := ndA_get hx
      have hi24 : i < 24 := by have := (List.getElem?_eq_some_iff.1 hx).1; omega
      rcases h with ⟨h1, h2, h3, rfl⟩ | ⟨h1, h2, rfl⟩ | ⟨h1, rfl⟩ | ⟨h1, rfl⟩ | ⟨h1, h2, rfl⟩ | ⟨h1, h2, h3, h4⟩ | ⟨h1, h2, h3, o, m, h4, h5, h6, h7, h8, h9, h10, h11⟩ | ⟨h1, h2, h3, fn, k, h4, h5, h6, h7⟩
      · exact leaf_law (I := ⟨1, 0, vI x.n, 0⟩) (W := vI x.n) hx (Lw.i (by omega) (by omega)) (by omega) (by omega) (fun o => by unfold cI; rw [if_pos h1]) (fun g fn => by unfold evF; simp only [hxi, h1]; rfl)
          (by rw [rdN0 (by omega) (by omega)]) (by show 0 < 24; omega) (by show 0 < 2 ^ 24; decide) (fun z hz => .inl ⟨rfl, hz, Lw.i (by omega) (by omega)⟩) (fun z => rfl)
      · have hw : Lw ⟨3, x.n, []⟩ := .inr (.inr (.inr (.inl ⟨rfl, h2, rfl⟩)))
        exact leaf_law (I := ⟨1, 0, ⟨3, x.n, []⟩, 0⟩) (W := ⟨3, x.n, []⟩) hx hw (by omega) (by omega) (fun o => by unfold cI; rw [if_neg (by omega), if_pos h1]) (fun g fn => by unfold evF; simp only [hxi, h1]; rfl)
          (by rw [rdN0 (by omega) (by omega)]) (by show 0 < 24; omega) (by show 0 < 2 ^ 24; decide) (fun z hz => .inl ⟨rfl, hz, hw⟩) (fun z => rfl)
      · cases hg : gridR x.p with
        | true =>
          have hcl := cell_lt hg
          exact leaf_law (I := ⟨2, cellR x.p, vZ, 2 ^ cellR x.p⟩) (W := env (cellR x.p)) hx (hL _ hcl) (by omega) (by omega) (fun o => by unfold cI; simp [h1, hg]) (fun g fn => by unfold evF; simp [hxi, h1, hg])
            (by unfold rdN; rw [if_pos ⟨h1, hg⟩, if_neg (by omega)]; exact (Nat.or_zero _).symm) hcl (bit_lt hcl) (fun z hz => .inr (.inl ⟨rfl, hz, hcl⟩)) (fun z => rfl)
        | false =>
          exact leaf_law (I := ⟨1, 0, vE 2, 0⟩) (W := vE 2) hx (Lw.e (by omega) (by omega)) (by omega) (by omega) (fun o => by unfold cI; simp [h1, hg]) (fun g fn => by unfold evF; simp [hxi, h1, hg])
            (by unfold rdN; rw [if_neg (fun h => by rw [hg] at h; exact absurd h.2 (by decide)), if_neg (by omega)]; rfl) (by show 0 < 24; omega) (by show 0 < 2 ^ 24; decide) (fun z hz => .inl ⟨rfl, hz, Lw.e (by omega) (by omega)⟩) (fun z => rfl)
      · exact leaf_law (I := ⟨1, 0, vE 2, 0⟩) (W := vE 2) hx (Lw.e (by omega) (by omega)) (by omega) (by omega) (fun o => by unfold cI; simp [h1]) (fun g fn => by unfold evF; simp [hxi, h1])
          (by rw [rdN0 (by omega) (by omega)]) (by show 0 < 24; omega) (by show 0 < 2 ^ 24; decide) (fun z hz => .inl ⟨rfl, hz, Lw.e (by omega) (by omega)⟩) (fun z => rfl)
      · unfold isRng at hr
        rw [hx] at hr
        simp [h1] at hr
      · have hle4 := SgF.le _ _ _ _ _ _ h4
        obtain ⟨C, W, hW, hev, hcm, hset, hrun⟩ := ihN _ _ _ h4 (sg_nr h4)
        refine up_law (I := ⟨3, 0, vZ, 0⟩) (W' := unV 0 W) (C := C) (W := W) hx h2 hle4.1 hi24 (by omega) (by omega) (by omega) (by omega) (fun o => by unfold cI; simp [h1]) rfl (by show 0 < 24; omega) (Lw.un 0 hW) (fun g fn hg => ?_) hcm hset (fun st fs g1 g2 => ?_)
        · unfold evF
          simp only [hxi, h1]
          have := hev g 0 hg
          rw [show ((i - 1 : Nat) : Int) = x.a by omega] at this
          simp [this]
        · obtain ⟨k1, k2⟩ := hrun st fs (by omega) (by omega)
          rw [k2]
          exact ⟨k1, .inr (.inr (.inl ⟨rfl, W, st, rfl, hW⟩)), rfl⟩
      · have hleA := SgF.le _ _ _ _ _ _ h10
        have hleB := SgF.le _ _ _ _ _ _ h11
        obtain ⟨C2, W2, hW2, hev2, hcm2, hset2, hrun2⟩ := ihN _ _ _ h10 (sg_nr h10)
        obtain ⟨C1, W1, hW1, hev1, hcm1, hset1, hrun1⟩ := ihN _ _ _ h11 (sg_nr h11)
        refine up_law (I := ⟨4, x.o.toNat, vZ, 0⟩) (W' := binV x.o.toNat W1 W2) (C := C1 ++ C2) (W := W1) hx h2 (by omega) hi24 (by omega) (by omega) (by omega) (by omega) (fun o => by unfold cI; simp [h1]) rfl (by show x.o.toNat < 24; omega) (Lw.bin _ hW1 hW2) (fun g fn hg => ?_) (fun own => ?_) ?_ (fun st fs g1 g2 => ?_)
        · unfold evF
          simp only [hxi, h1]
          have e1 := hev1 g 0 hg
          rw [show ((m - 1 : Nat) : Int) = x.a by omega] at e1
          have e2 := hev2 g 0 hg
          rw [show ((i - 1 : Nat) : Int) = x.b by omega] at e2
          simp [e1, e2]
        · have e1 := hcm1 own
          rw [show m - 1 + 1 = m by omega] at e1
          rw [hcm2, e1, List.append_assoc]
        · rw [setC_app, hset1, hset2, show i - 1 + 1 - lo = (m - 1 + 1 - lo) + (i - 1 + 1 - m) by omega, rdF_add, show lo + (m - 1 + 1 - lo) = m by omega]
        · obtain ⟨k1, k2⟩ := hrun1 st fs (by omega) (by omega)
          obtain ⟨k3, k4⟩ := hrun2 (W1 :: st) fs (by simp only [List.length_cons]; omega) (by omega)
          rw [exC_app, k2, k4]
          exact ⟨safe_app _ _ _ _ k1 (by rw [k2]; exact k3), .inr (.inr (.inr (.inl ⟨rfl, by show 1 ≤ x.o.toNat; omega, by show x.o.toNat ≤ 10; omega, W2, W1, st, rfl, hW2, hW1⟩))), rfl⟩
      · have hle7 := SgF.le _ _ _ _ _ _ h7
        have hfn : 1 ≤ fn ∧ fn ≤ 10 := by
          unfold arity at h6
          repeat' split at h6
          all_goals first | omega | (cases h6)
        have hxo : x.o.toNat = fn := by omega
        have hxa : x.a = ((i - 1 : Nat) : Int) := by omega
        have hne : ∀ (g fn' : Nat), (evF n env (g + 1) fn' (i : Nat)).1 = (if x.o = 5 then chV (evF n env g 0 (ndA n (ndA n (ndA n x.a).b).b).a).1 (evF n env g 0 (ndA n (ndA n x.a).b).a).1 (evF n env g 0 (ndA n x.a).a).1 else if tallF x.o.toNat = true then shutT x.o.toNat (evF n env g x.o.toNat x.a).2 else unV x.o.toNat (evF n env g 0 (ndA n x.a).a).1) := by
          intro g fn'
          conv => lhs; unfold evF
          simp [hxi, h1]
        have hcI : cI n 0 x = [⟨if x.o = 5 then 5 else if tallF x.o.toNat = true then 10 else 3, x.o.toNat, vZ, 0⟩] := by unfold cI; simp [h1]
        have hsl : ∀ C : List In, setC C = rdF n lo (i - 1 + 1 - lo) → setC (C ++ cI n 0 x) = rdF n lo (i + 1 - lo) := by
          intro C hC
          rw [setC_app, hcI, setC_one, hC, rd_last n hx (by omega), rdN0 (by omega) (by omega), show i - 1 + 1 - lo = i - lo by omega]
        cases ht : tallF fn with
        | true =>
          have htl := tall_lt ht
          obtain ⟨C, T, hT, hev, hcm, hset, hrun⟩ := (ihL _ _ _ _ fn h7).1 ht hfn.1
          have hT' : TyOK fn 1000 T := hT.up (by omega)
          refine ⟨C ++ cI n 0 x, shutT fn T, hT'.shut (by omega), ?_, call_cmp hx h2 h1 h3 h4 hle7.1 hcm, hsl C hset, ?_⟩
          · intro g fn' hg
            obtain ⟨g, rfl⟩ : ∃ k, g = k + 1 := ⟨g - 1, by omega⟩
            rw [hne, if_neg (by omega), hxo, if_pos ht, hxa, hev g (by omega)]
          · intro st fs g1 g2
            obtain ⟨k1, k2⟩ := hrun st fs (by omega) (by omega)
            rw [hcI, if_neg (by omega), hxo, if_pos ht]
            refine ⟨safe_app _ _ _ _ k1 (by rw [k2]; exact safe_one (.inr (.inr (.inr (.inr (.inr (.inr (.inr (.inr (.inr ⟨rfl, by show st.length < 24; omega, T, fs, rfl, hT'⟩))))))))) (by show fn < 24; omega) (by show 0 < 2 ^ 24; decide)), ?_⟩
            rw [exC_app, k2, exC_one]
            rfl
        | false =>
          have hrk : rangeOK fn = false := by
            unfold tallF at ht
            unfold rangeOK
            simp at ht ⊢
            omega
          obtain ⟨C, WL, hlen, hk, hWs, hargs, hcm, hset, hrun⟩ := (ihL _ _ _ _ fn h7).2 ht hrk
          by_cases h5' : fn = 5
          · have hk3 : k = 3 := by
              unfold arity at h6
              rw [if_pos h5'] at h6
              simpa using h6
            match WL, hlen, hWs, hargs, hrun with
            | [W3, W2, W1], _, hWs, ⟨e3, e2, e1, _⟩, hrun =>
              refine ⟨C ++ cI n 0 x, chV W1 W2 W3, Lw.ch (hWs _ (by simp)) (hWs _ (by simp)) (hWs _ (by simp)), ?_, call_cmp hx h2 h1 h3 h4 hle7.1 hcm, hsl C hset, ?_⟩
              · intro g fn' hg
                obtain ⟨g, rfl⟩ : ∃ k, g = k + 1 := ⟨g - 1, by omega⟩
                rw [hne, if_pos (by omega), hxa, e1 g 0 (by omega), e2 g 0 (by omega), e3 g 0 (by omega)]
              · intro st fs g1 g2
                obtain ⟨k1, k2⟩ := hrun st fs (by omega) (by omega)
                rw [hcI, if_pos (by omega)]
                refine ⟨safe_app _ _ _ _ k1 (by rw [k2]; exact safe_one (.inr (.inr (.inr (.inr (.inl ⟨rfl, W3, W2, W1, st, rfl, hWs _ (by simp)⟩))))) (by show x.o.toNat < 24; omega) (by show 0 < 2 ^ 24; decide)), ?_⟩
                rw [exC_app, k2, exC_one]
                rfl
            | [], hl, _, _, _ => simp at hl; omega
            | [_], hl, _, _, _ => simp at hl; omega
            | [_, _], hl, _, _, _ => simp at hl; omega
            | _ :: _ :: _ :: _ :: _, hl, _, _, _ => simp at hl; omega
          · have hf8 : fn = 8 ∨ fn = 9 ∨ fn = 10 := by
              unfold tallF at ht
              simp at ht
              omega
            have hk1 : k = 1 := by
              unfold arity at h6
              rw [if_neg h5', if_pos hf8] at h6
              simpa using h6
            match WL, hlen, hWs, hargs, hrun with
            | [W1], _, hWs, ⟨e1, _⟩, hrun =>
              have hW1 := hWs W1 (by simp)
              refine ⟨C ++ cI n 0 x, unV fn W1, Lw.un _ hW1, ?_, call_cmp hx h2 h1 h3 h4 hle7.1 hcm, hsl C hset, ?_⟩
              · intro g fn' hg
                obtain ⟨g, rfl⟩ : ∃ k, g = k + 1 := ⟨g - 1, by omega⟩
                rw [hne, if_neg (by omega), hxo, if_neg (by rw [ht]; decide), hxa, e1 g 0 (by omega)]
              · intro st fs g1 g2
                obtain ⟨k1, k2⟩ := hrun st fs (by omega) (by omega)
                rw [hcI, if_neg (by omega), hxo, if_neg (by rw [ht]; decide)]
                refine ⟨safe_app _ _ _ _ k1 (by rw [k2]; exact safe_one (.inr (.inr (.inl ⟨rfl, W1, st, rfl, hW1⟩))) (by show fn < 24; omega) (by show 0 < 2 ^ 24; decide)), ?_⟩
                rw [exC_app, k2, exC_one]
                rfl
            | [], hl, _, _, _ => simp at hl; omega
            | _ :: _ :: _, hl, _, _, _ => simp at hl; omega
    · intro k lo i rg fn h
      have hle := SgF.le _ _ _ _ _ _ h
      obtain ⟨x, hx, h1, h2, h3, m, h4, h5, h6⟩ := h
      have hxi := ndA_get hx
      have hi24 : i < 24 := by have := (List.getElem?_eq_some_iff.1 hx).1; omega
      have hle5 := SgF.le _ _ _ _ _ _ h5
      have hxa : x.a = ((i - 1 : Nat) : Int) := by omega
      obtain ⟨y, hy⟩ : ∃ y, n[i - 1]? = some y := ⟨_, List.getElem?_eq_getElem hle5.2⟩
      have hya : ndA n x.a = y := by rw [hxa]; exact ndA_get hy
      -- the order of owners
      have hown : ∀ (own : Nat → Nat), cmpF n (i + 1) own = cmpF n i (ownS own x i) ++ cI n (own i) x := fun own => cmp_succ hx
      refine ⟨?_, ?_⟩
      · intro ht hf1
        have htl := tall_lt ht
        have hcI : cI n fn x = (if x.b < 0 then [⟨6, fn, vZ, 0⟩] else []) ++ [lkI n fn x] := by unfold cI; simp [h1, ht]
        -- the argument's program and what its link takes
        have hArg : ∃ (C2 : List In), (∀ own, cmpF n i own = cmpF n m own ++ C2) ∧ (setC C2 ||| (lkI n fn x).m = rdF n m (i - m)) ∧ (lkI n fn x).a < 24 ∧ (lkI n fn x).m < 2 ^ 24
            ∧ ∀ (b : Nat) (P : Ty), TyOK fn b P → b ≤ 900 → ∃ T, TyOK fn (b + 24) T ∧ (∀ g, f ≤ g → ((if y.k = 4 then (match blkR y.p y.q with | some m => sweepT fn m env 24 0 P | none => takeT fn (vE 2) true P) else takeT fn (evF n env g 0 x.a).1 false P) = T))
              ∧ ∃ Z : List Vl, (Z.length ≤ 1) ∧ (∀ st fs, st.length + (i - m) ≤ 24 → fs.length + (i - m) ≤ 24 → safeC env C2 (st, fs) ∧ exC env C2 (st, fs) = (Z ++ st, fs)) ∧ ∀ st fs, okI (lkI n fn x) (Z ++ st, P :: fs) ∧ exI env (lkI n fn x) (Z ++ st, P :: fs) = (st, T :: fs) := by
          by_cases hr : isRng n (i - 1) = true
          · have hk4 : y.k = 4 := by
              unfold isRng at hr
              rw [hy] at hr
              simpa using hr
            have hmi : m = i - 1 := by
              cases f with
              | zero => exact h5.elim
              | succ f =>
                obtain ⟨z, hz, h5⟩ := h5
                have hzy : z = y := by rw [hy] at hz; exact (Option.some.inj hz).symm
                subst hzy
                rcases h5 with g | g | g | g | g | g | g | g
                all_goals omega
            subst hmi
            refine ⟨[], fun own => ?_, ?_, ?_, ?_, ?_⟩
            · have := cmp_succ (own := own) hy
              rw [show i - 1 + 1 = i by omega] at this
              rw [this]
              have e1 : cI n (own (i - 1)) y = [] := by unfold cI; simp [hk4]
              have e2 : ownS own y (i - 1) = own := by unfold ownS; rw [if_neg (by omega), if_neg (by omega)]
              rw [e1, e2]
            · have e1 := rd_one n (i - 1) hy
              rw [show i - 1 + 1 - (i - 1) = i - (i - 1) by omega] at e1
              rw [e1]
              show 0 ||| _ = _
              rw [Nat.zero_or]
              unfold lkI rdN
              rw [hya, if_pos hk4, if_neg (by omega), if_pos hk4, Nat.zero_or]
              cases blkR y.p y.q <;> rfl
            · unfold lkI
              rw [hya, if_pos hk4]
              cases blkR y.p y.q <;> (show fn < 24; omega)
            · unfold lkI
              rw [hya, if_pos hk4]
              cases hb : blkR y.p y.q with
              | none => show 0 < 2 ^ 24; decide
              | some mm => exact blk_lt hb
            · intro b P hP hb
              have hP' : TyOK fn 1000 P := hP.up (by omega)
              cases hbk : blkR y.p y.q with
              | none =>
                have hI : lkI n fn x = ⟨9, fn, vZ, 0⟩ := by unfold lkI; rw [hya, if_pos hk4, hbk]
                rw [hI]
                exact ⟨takeT fn (vE 2) true P, (hP.take true (Lw.e (by omega) (by omega))).up (by omega), fun g hg => by rw [if_pos hk4], [], by simp, fun st fs _ _ => ⟨trivial, rfl⟩, fun st fs => ⟨.inr (.inr (.inr (.inr (.inr (.inr (.inr (.inr (.inl ⟨rfl, P, fs, rfl, hP'⟩)))))))), rfl⟩⟩
              | some mm =>
                have hI : lkI n fn x = ⟨8, fn, vZ, mm⟩ := by unfold lkI; rw [hya, if_pos hk4, hbk]
                rw [hI]
                exact ⟨sweepT fn mm env 24 0 P, TyOK.sweep hL 24 0 b P (by omega) hP, fun g hg => by rw [if_pos hk4], [], by simp, fun st fs _ _ => ⟨trivial, rfl⟩, fun st fs => ⟨.inr (.inr (.inr (.inr (.inr (.inr (.inr (.inl ⟨rfl, blk_lt hbk, P, fs, rfl, hP'⟩))))))), rfl⟩⟩
          · have hr' : isRng n (i - 1) = false := by simpa using hr
            have hk4 : y.k ≠ 4 := by
              unfold isRng at hr'
              rw [hy] at hr'
              simpa using hr'
            have hI : lkI n fn x = ⟨7, fn, vZ, 0⟩ := by unfold lkI; rw [hya, if_neg hk4]
            obtain ⟨C2, W2, hW2, hev2, hcm2, hset2, hrun2⟩ := ihN _ _ _ h5 hr'
            rw [show i - 1 + 1 = i by omega] at hcm2 hset2 hrun2
            rw [hI]
            refine ⟨C2, hcm2, by show setC C2 ||| 0 = _; rw [Nat.or_zero]; exact hset2, by show fn < 24; omega, by show 0 < 2 ^ 24; decide, ?_⟩
            intro b P hP hb
            have hP' : TyOK fn 1000 P := hP.up (by omega)
            refine ⟨takeT fn W2 false P, (hP.take false hW2).up (by omega), fun g hg => by rw [if_neg hk4, hxa, hev2 g 0 hg], [W2], by simp, fun st fs a1 a2 => hrun2 st fs a1 a2, fun st fs => ⟨.inr (.inr (.inr (.inr (.inr (.inr (.inl ⟨rfl, W2, st, P, fs, rfl, rfl, hW2, hP'⟩)))))), rfl⟩⟩
        obtain ⟨C2, hcm2, hset2, hla, hlm, hstep⟩ := hArg
        have hevf : ∀ g, f ≤ g → (evF n env (g + 1) fn (i : Nat)).2 = (if y.k = 4 then (match blkR y.p y.q with | some m => sweepT fn m env 24 0 (if x.b < 0 then tyZ else (evF n env g fn x.b).2) | none => takeT fn (vE 2) true (if x.b < 0 then tyZ else (evF n env g fn x.b).2)) else takeT fn (evF n env g 0 x.a).1 false (if x.b < 0 then tyZ else (evF n env g fn x.b).2)) := by
          intro g hg
          conv => lhs; unfold evF
          simp only [hxi, h1, if_true, hya]
          cases blkR y.p y.q <;> rfl
        rcases h6 with ⟨rfl, hb, rfl⟩ | ⟨hk, hm1, hb, hl⟩
        · obtain ⟨T, hT, hTe, Z, hZ, hrunA, hlast⟩ := hstep 0 tyZ (TyOK.z fn 0) (by omega)
          have hb0 : x.b < 0 := by omega
          refine ⟨C2 ++ [⟨6, fn, vZ, 0⟩, lkI n fn x], T, hT.up (by omega), ?_, ?_, ?_, ?_⟩
          · intro g hg
            obtain ⟨g, rfl⟩ : ∃ k, g = k + 1 := ⟨g - 1, by omega⟩
            rw [hevf g (by omega), if_pos hb0]
            exact hTe g (by omega)
          · intro own ho
            rw [hown, ho, hcI, if_pos hb0]
            have : ownS own x i = own := by unfold ownS; rw [if_neg (by omega), if_pos h1, if_neg (by omega)]
            rw [this, hcm2, List.append_assoc]
            rfl
          · rw [setC_app, rd_last n hx (by omega), rdN0 (by omega) (by omega), ← hset2]
            show setC C2 ||| (0 ||| ((lkI n fn x).m ||| 0)) = _
            rw [Nat.zero_or, Nat.or_zero, Nat.or_zero]
          · intro st fs g1 g2
            obtain ⟨k1, k2⟩ := hrunA st fs (by omega) (by omega)
            have k3 := hlast st fs
            refine ⟨safe_app _ _ _ _ k1 ?_, ?_⟩
            · rw [k2]
              exact ⟨⟨.inr (.inr (.inr (.inr (.inr (.inl ⟨rfl, by show fs.length < 24; omega⟩))))), by show fn < 24; omega, by show 0 < 2 ^ 24; decide⟩, ⟨k3.1, hla, hlm⟩, trivial⟩
            · rw [exC_app, k2]
              exact k3.2
        · obtain ⟨C1, P, hP, hev1, hcm1, hset1, hrun1⟩ := (ihL _ _ _ _ fn hl).1 ht hf1
          have hlel := SgF.le _ _ _ _ _ _ hl
          rw [show m - 1 + 1 = m by omega] at hcm1 hset1 hrun1 hP
          obtain ⟨T, hT, hTe, Z, hZ, hrunA, hlast⟩ := hstep _ P hP (by omega)
          have hb0 : ¬ x.b < 0 := by omega
          refine ⟨C1 ++ (C2 ++ [lkI n fn x]), T, hT.up (by omega), ?_, ?_, ?_, ?_⟩
          · intro g hg
            obtain ⟨g, rfl⟩ : ∃ k, g = k + 1 := ⟨g - 1, by omega⟩
            rw [hevf g (by omega), if_neg hb0, show x.b = ((m - 1 : Nat) : Int) by omega, hev1 g (by omega)]
            exact hTe g (by omega)
          · intro own ho
            rw [hown, ho, hcI, if_neg hb0]
            have how : ownS own x i = (fun j => if j = m - 1 then fn else own j) := by
              unfold ownS
              rw [if_neg (by omega), if_pos h1, if_pos (by omega), ho]
              funext j
              rw [show x.b.toNat = m - 1 by omega]
            rw [hcm2, hcm1 _ (by rw [how]; simp), List.append_assoc, List.append_assoc]
            congr 1
            apply cmp_own
            intro j hj
            rw [how]
            simp only
            rw [if_neg (by omega)]
          · rw [setC_app, setC_app, setC_one, hset2, hset1, rd_last n hx (by omega), rdN0 (by omega) (by omega), Nat.or_zero, show i - lo = (m - lo) + (i - m) by omega, rdF_add, show lo + (m - lo) = m by omega]
          · intro st fs g1 g2
            obtain ⟨k1, k2⟩ := hrun1 st fs (by omega) (by omega)
            obtain ⟨k3, k4⟩ := hrunA st (P :: fs) (by omega) (by simp only [List.length_cons]; omega)
            have k5 := hlast st fs
            refine ⟨safe_app _ _ _ _ k1 (by rw [k2]; exact safe_app _ _ _ _ k3 (by rw [k4]; exact safe_one k5.1 hla hlm)), ?_⟩
            rw [exC_app, k2, exC_app, k4, exC_one]
            exact k5.2
      · intro ht hrg
        subst hrg
        have hcI : cI n fn x = [] := by unfold cI; simp [h1, ht]
        obtain ⟨C2, W2, hW2, hev2, hcm2, hset2, hrun2⟩ := ihN _ _ _ h5 (sg_nr h5)
        rw [show i - 1 + 1 = i by omega] at hcm2 hset2 hrun2
        rcases h6 with ⟨rfl, hb, rfl⟩ | ⟨hk, hm1, hb, hl⟩
        · refine ⟨C2, [W2], rfl, by omega, fun v hv => ?_, ⟨fun g fn' hg => ?_, trivial⟩, ?_, ?_, ?_⟩
          · rw [List.mem_singleton] at hv; rw [hv]; exact hW2
          · rw [hxi, hxa]; exact hev2 g fn' (by omega)
          · intro own ho
            rw [hown, ho, hcI, List.append_nil]
            have : ownS own x i = own := by unfold ownS; rw [if_neg (by omega), if_pos h1, if_neg (by omega)]
            rw [this, hcm2]
          · rw [rd_last n hx (by omega), rdN0 (by omega) (by omega), hset2, Nat.or_zero]
          · intro st fs g1 g2
            exact hrun2 st fs (by omega) (by omega)
        · obtain ⟨C1, WL, hlen, hkl, hWs, hargs, hcm1, hset1, hrun1⟩ := (ihL _ _ _ _ fn hl).2 ht rfl
          have hlel := SgF.le _ _ _ _ _ _ hl
          rw [show m - 1 + 1 = m by omega] at hcm1 hset1 hrun1 hkl
          refine ⟨C1 ++ C2, W2 :: WL, by simp only [List.length_cons]; omega, by omega, fun v hv => ?_, ⟨fun g fn' hg => ?_, ?_⟩, ?_, ?_, ?_⟩
          · rcases List.mem_cons.1 hv with rfl | hv
            · exact hW2
            · exact hWs v hv
          · rw [hxi, hxa]; exact hev2 g fn' (by omega)
          · rw [hxi, show x.b = ((m - 1 : Nat) : Int) by omega]; exact argsAt.up (by omega) hargs
          · intro own ho
            rw [hown, ho, hcI, List.append_nil]
            have how : ownS own x i = (fun j => if j = m - 1 then fn else own j) := by
              unfold ownS
              rw [if_neg (by omega), if_pos h1, if_pos (by omega), ho]
              funext j
              rw [show x.b.toNat = m - 1 by omega]
            rw [hcm2, hcm1 _ (by rw [how]; simp), List.append_assoc]
            congr 1
            apply cmp_own
            intro j hj
            rw [how]
            simp only
            rw [if_neg (by omega)]
          · rw [setC_app, hset1, hset2, rd_last n hx (by omega), rdN0 (by omega) (by omega), Nat.or_zero, show i - lo = (m - lo) + (i - m) by omega, rdF_add, show lo + (m - lo) = m by omega]
          · intro st fs g1 g2
            obtain ⟨k1, k2⟩ := hrun1 st fs (by omega) (by omega)
            obtain ⟨k3, k4⟩ := hrun2 (WL ++ st) fs (by rw [List.length_append]; omega) (by omega)
            refine ⟨safe_app _ _ _ _ k1 (by rw [k2]; exact k3), ?_⟩
            rw [exC_app, k2, k4]
            rfl

end Go.Proofs.Qxb6500570aGreat
