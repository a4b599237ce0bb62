import Derived.Test.Qxb6500568aGreatDoorEy
/- The real flattener: chains. -/
namespace Go.Proofs.Qxb6500568aGreatDoor
open Ieee
set_option linter.unusedVariables false
set_option linter.unusedSimpArgs false

theorem lkG_z {G : List (Nd × Nat)} {i n : Nat} (h : ∃ y r, G = (y, 0) :: r) : ∃ y r, lkG G i n = (y, 0) :: r := by
  obtain ⟨y, r, rfl⟩ := h
  cases i with
  | zero => exact ⟨_, r, rfl⟩
  | succ i => exact ⟨y, _, rfl⟩
theorem ar_trans {w u u' : World} {sb : Nat} {U U1 : Value} (hF : Fram (arS sb U) w u) (hN : nob U U1 w) (f : Fram (arS sb U1) u u') : Fram (arS sb U) w u' :=
  hF.trans' f (fun b hb q => by
    rcases q with q | q
    · exact .inl q
    · rcases hN b q with q | q
      · exact .inr q
      · omega)
theorem nob_trans {w u : World} {U U1 U2 : Value} (hN : nob U U1 w) (hs : w.heap.size ≤ u.heap.size) (h : nob U1 U2 u) : nob U U2 w := fun b q => by
  rcases h b q with q | q
  · exact hN b q
  · exact .inr (Nat.le_trans hs q)
theorem ElM.get {w : World} {ow : Nat → Nat} {md : Nat} {x : Tr} : ∀ {ts1 ts2 : List Tr} {vs : List Value}, ElM w ow md (ts1 ++ x :: ts2) vs → ∃ v, vs[ts1.length]? = some v ∧ TrM w ow md x [v]
  | [], _, _, ⟨v, r, h1, h2, _⟩ => ⟨v, by rw [h1]; rfl, h2⟩
  | _ :: ts1, ts2, _, ⟨v, r, h1, h2, h3⟩ => by
    obtain ⟨u, g1, g2⟩ := ElM.get h3
    exact ⟨u, by rw [h1]; exact g1, g2⟩
theorem ElM.lx {w : World} {ow : Nat → Nat} {md : Nat} (hm : md = 0 ∨ md = 2) : ∀ {ts : List Tr} {vs : List Value}, ElM w ow md ts vs → ∀ t ∈ ts, LX t
  | [], _, _, t, ht => by cases ht
  | y :: ts, _, ⟨v, r, h1, h2, h3⟩, t, ht => by
    rcases List.mem_cons.1 ht with rfl | ht
    · rcases hm with rfl | rfl
      · exact h2.lx0
      · exact h2.lx2
    · exact ElM.lx hm h3 t ht
theorem ndC_mem {x : Tr} : ∀ {ts1 ts2 : List Tr}, ndC (ts1 ++ x :: ts2) = ndC ts1 + ndT x + ndC ts2
  | [], _ => by show ndT x + _ = 0 + ndT x + _; omega
  | y :: l, ts2 => by show ndT y + ndC (l ++ x :: ts2) = ndT y + ndC l + ndT x + ndC ts2; rw [ndC_mem]; omega
theorem ndC_pos : ∀ {ts : List Tr}, (∀ t ∈ ts, LX t) → ts ≠ [] → 1 ≤ ndC ts
  | [], _, h => absurd rfl h
  | x :: l, h, _ => by have := (h x (by simp)).pos; show 1 ≤ ndT x + ndC l; omega
theorem layC_len {G : List (Nd × Nat)} {G' : List (Nd × Nat)} {l : List Nd} {m : Nat} (h : G'.map Prod.fst = G.map Prod.fst ++ l) (hl : G'.length = G.length + m) : l.length = m := by
  have := congrArg List.length h
  rw [List.length_map, List.length_append, List.length_map] at this
  omega
set_option maxHeartbeats 8000000 in
theorem chain78 {n : Nat} {w : World} {ow : Nat → Nat} {sb : Nat} {c0 c1 U V : Value} {G : List (Nd × Nat)} {md : Nat} {ts : List Tr} {vs : List Value} (ih : FAll n) (hA : ArV w ow sb c0 c1 U G) (hm : md = 0 ∨ md = 2) (hV : SlM w ow V vs) (hE : ElM w ow md ts vs) (hbs : ∀ x ∈ ts, NmB x) (hn : ndC ts ≤ n) (hG : 1 ≤ G.length) (hl : G.length + ndC ts ≤ 1000000000) :
    Ret Tryz.prog 78 [ptr sb, V] w (ArR w ow sb c0 c1 U G (rtC ts G.length) (layC ts G.length) (ndC ts)) := by
  have hvl := hE.len
  have hlx := hE.lx hm
  obtain ⟨va, vc, rfl⟩ := OwT.form hV
  have hvcap : vs.length ≤ 9223372036854775807 := by rcases hV.o.2 with ⟨_, h⟩ | ⟨g, cap, l, _, _, h1, h2, _⟩ <;> omega
  refine ret_of Tryz.func78 rfl Tryz.ntmps78 rfl ?_
  refine c_seq (fun K1 hK1 => ?_)
  refine c_reg ?_ -- region 0 flat.go:14
  refine wl (ro_assign rfl) ?_
  refine wl_nil (x_then (hK1 _ _ ?_))
  clear hK1 K1
  refine forget [(0, _), (1, _)] ⟨rfl, rfl, trivial⟩ (fun e => ?_)
  refine c_seq (fun K2 hK2 => ?_)
  refine c_reg ?_ -- region 1 flat.go:15
  refine wl (ro_assign rfl) ?_
  refine wl (ro_assign rfl) ?_
  refine wl_nil (x_then (hK2 _ _ ?_))
  clear hK2 K2
  refine c_seq (fun K3 hK3 => ?_)
  refine c_seq (fun K4 hK4 => ?_)
  refine c_reg ?_ -- region 2 flat.go:16
  refine wl (ro_move rfl) ?_
  refine wl (ro_lenL rfl se_188) ?_
  refine wl (ro_move rfl) ?_
  refine wl_nil (x_then (hK4 _ _ ?_))
  clear hK4 K4
  refine c_block ?_
  -- loop@r3: live slots [0, 5, 6, 10, 11, 12]
  refine c_loopG (fun k a' w' => ∃ (ts1 ts2 : List Tr) (U1 : Value) (G1 : List (Nd × Nat)), k = ts2.length ∧ ts = ts1 ++ ts2 ∧ ArV w' ow sb c0 c1 U1 G1 ∧ G1.map Prod.fst = G.map Prod.fst ++ layC ts1 G.length ∧ G1.length = G.length + ndC ts1 ∧ nob U U1 w ∧ Fram (arS sb U) w w' ∧ SlM w' ow (.slice va vs.length vc) vs ∧ ElM w' ow md ts vs ∧ ∃ e, a' = Fr 33 (upds e [(0, ptr sb), (5, i64c (rtC ts1 G.length)), (6, i64c (if ts1 = [] then 0 else G.length + ndC ts1 - 1)), (10, .slice va vs.length vc), (11, i64c vs.length), (12, i64c ts1.length)]) []) ts.length ⟨[], ts, U, G, rfl, rfl, hA, by rw [show layC [] G.length = [] from rfl, List.append_nil], rfl, fun b q => .inl q, Fram.refl _ _, hV, hE, kp _ ⟨rfl, rfl, rfl, rfl, rfl, rfl, trivial⟩⟩ ?_
  clear hA hV hE
  rintro k a' u1 ⟨ts1, ts2, U1, G1, rfl, hts, hA, hg1, hg2, hnb, hF, hV, hE, e, rfl⟩
  refine c_seq (fun K5 hK5 => ?_)
  refine c_reg ?_ -- region 3 flat.go:16
  refine wl (ro_cmp rfl rfl rfl) ?_
  refine wl_nil (x_then (hK5 _ _ ?_))
  clear hK5 K5
  refine forget [(0, _), (5, _), (6, _), (10, _), (11, _), (12, _), (13, _)] ⟨rfl, rfl, rfl, rfl, rfl, rfl, rfl, trivial⟩ (fun e => ?_)
  refine c_seq (fun K6 hK6 => ?_)
  refine wc_cond rfl (fun hc13 => ?_) (fun hc13 => ?_)
  · try simp only [decide_eq_true_eq, decide_eq_false_iff_not, Bool.not_eq_true', Bool.not_eq_false', Bool.not_eq_eq_eq_not, Bool.not_true, Bool.not_false, beq_iff_eq, bne_iff_ne, ne_eq, beq_eq_false_iff_ne, bne_eq_false_iff_eq, gt_iff_lt, ge_iff_le, Int.not_lt, Int.not_le] at hc13
    obtain ⟨x, ts3, rfl⟩ : ∃ x ts3, ts2 = x :: ts3 := by
      cases ts2 with
      | nil => rw [hts, List.append_nil] at hvl; omega
      | cons x l => exact ⟨x, l, rfl⟩
    have hE' := hE
    rw [hts] at hE'
    obtain ⟨v, hv, hT⟩ := hE'.get
    obtain ⟨g0, vc0, l0, e0, hB0, ht0, hat0⟩ := hV.at0 hv
    cases e0
    have hnx : ndC ts = ndC ts1 + ndT x + ndC ts3 := by rw [hts, ndC_mem]
    have hlx1 : ∀ t ∈ ts1, LX t := fun t ht => hlx t (by rw [hts]; simp [ht])
    have hlxx : LX x := hlx x (by rw [hts]; simp)
    have hxp := hlxx.pos
    have hvi := (List.getElem?_eq_some_iff.1 hv).1
    refine c_skip (x_then (hK6 _ _ ?_))
    clear hK6 K6
    refine forget [(0, _), (5, _), (6, _), (10, _), (11, _), (12, _)] ⟨rfl, rfl, rfl, rfl, rfl, rfl, trivial⟩ (fun e => ?_)
    refine c_seq (fun K7 hK7 => ?_)
    refine c_block ?_
    refine c_seq (fun K8 hK8 => ?_)
    refine c_reg ?_ -- region 4 flat.go:16
    refine wl (ro_indexAddr (et := 242) (k := 1) rfl rfl se_188 (rfl) (hvi)) ?_
    refine wl (ro_loadB rfl sc_242 (hB0) ((hat0 _ _ hv))) ?_
    refine wl (ro_assign rfl) ?_
    refine wl_nil (x_then (hK8 _ _ ?_))
    clear hK8 K8
    refine forget [(0, _), (5, _), (6, _), (8, _), (10, _), (11, _), (12, _)] ⟨rfl, rfl, rfl, rfl, rfl, rfl, rfl, trivial⟩ (fun e => ?_)
    refine c_seq (fun K9 hK9 => ?_)
    refine c_reg ?_ -- region 5 flat.go:17
    refine wl (ro_move rfl) ?_
    refine wl (ro_move rfl) ?_
    refine wl_call rfl en_136 (lay136 ih hA hm hT (hbs x (by rw [hts]; simp)) (by omega) (by omega) (by omega)) ?_
    rintro _ u2 ⟨rfl, U2, G2, hA2, hg3, hg4, hnb2, F9⟩
    have hV2 := hV.ar hA F9
    have hE2 := hE.ar hA F9
    have hF2 := ar_trans hF hnb F9
    have hnb3 := nob_trans hnb hF.size hnb2
    have hs1 := ndC_snoc ts1 x
    have hX2 := hA2.st
    obtain ⟨g, cap, lg, hgU, hBg, k1, k2, k3, k4⟩ := hA2.own.pos (by omega)
    subst hgU
    have hgs : g ≠ sb := fun q => hA2.ne (by rw [← q]; rfl)
    refine wl (ro_assign rfl) ?_
    refine wl_nil (x_then (hK9 _ _ ?_))
    clear hK9 K9
    refine c_seq (fun K10 hK10 => ?_)
    refine c_seq (fun K11 hK11 => ?_)
    refine c_reg ?_ -- region 6 flat.go:18
    refine wl (ro_move rfl) ?_
    refine wl (ro_cmp rfl rfl rfl) ?_
    refine wl_nil (x_then (hK11 _ _ ?_))
    clear hK11 K11
    refine wc_cond rfl (fun hc20 => ?_) (fun hc20 => ?_)
    · try simp only [decide_eq_true_eq, decide_eq_false_iff_not, Bool.not_eq_true', Bool.not_eq_false', Bool.not_eq_eq_eq_not, Bool.not_true, Bool.not_false, beq_iff_eq, bne_iff_ne, ne_eq, beq_eq_false_iff_ne, bne_eq_false_iff_eq, gt_iff_lt, ge_iff_le, Int.not_lt, Int.not_le] at hc20
      have hts0 : ts1 = [] := by
        apply Classical.byContradiction
        intro hne
        rw [if_neg hne] at hc20
        have := ndC_pos hlx1 hne
        omega
      subst hts0
      refine c_reg ?_ -- region 7 flat.go:19
      refine wl (ro_move rfl) ?_
      refine wl (ro_assign rfl) ?_
      refine wl_nil (x_then (hK10 _ _ ?_))
      clear hK10 K10
      refine c_reg ?_ -- region 9 flat.go:23
      refine wl (ro_move rfl) ?_
      refine wl (ro_assign rfl) ?_
      refine wl_nil (x_blk (x_then (hK7 _ _ ?_)))
      clear hK7 K7
      refine c_reg ?_ -- region 10 flat.go:16
      refine wl (ro_arith rfl rfl rfl (Go.IntWalk.i64_in _ (by omega))) ?_
      refine wl (ro_move rfl) ?_
      refine wl_nil (x_then ?_)
      have e1 : G1.length = G.length := hg2
      have e5 : G1.length + ndT x - 1 = rtC [x] G.length := by show G1.length + ndT x - 1 = G.length + ndT x - 1; omega
      have e6 : G1.length + ndT x - 1 = if [x] = [] then 0 else G.length + ndC [x] - 1 := by rw [if_neg (by simp)]; show _ = G.length + (ndT x + 0) - 1; omega
      refine ⟨ts3.length, by simp, [x], ts3, _, G2, rfl, hts, hA2, ?_, by rw [hg4, e1]; show _ = G.length + (ndT x + 0); omega, hnb3, hF2, hV2, hE2, kp _ ⟨rfl, congrArg (fun z : Nat => some (i64c z)) e5, congrArg (fun z : Nat => some (i64c z)) e6, rfl, rfl, rfl, trivial⟩⟩
      rw [hg3, hg1, e1]
      have := layC_snoc hlxx (ts := []) (b := G.length) (fun t ht => by cases ht)
      rw [if_pos rfl] at this
      show _ = _ ++ layC ([] ++ [x]) G.length
      rw [this]
      show G.map Prod.fst ++ [] ++ _ = _ ++ ([] ++ lay x (G.length + 0))
      rw [List.append_nil, List.nil_append, Nat.add_zero]
    · try simp only [decide_eq_true_eq, decide_eq_false_iff_not, Bool.not_eq_true', Bool.not_eq_false', Bool.not_eq_eq_eq_not, Bool.not_true, Bool.not_false, beq_iff_eq, bne_iff_ne, ne_eq, beq_eq_false_iff_ne, bne_eq_false_iff_eq, gt_iff_lt, ge_iff_le, Int.not_lt, Int.not_le] at hc20
      have hne : ts1 ≠ [] := fun q => by rw [if_pos q] at hc20; exact hc20 rfl
      rw [if_neg hne]
      have hp1 := ndC_pos hlx1 hne
      have hli : G.length + ndC ts1 - 1 < G2.length := by omega
      obtain ⟨y, hy⟩ : ∃ y, G2[G.length + ndC ts1 - 1]? = some y := ⟨_, List.getElem?_eq_getElem hli⟩
      refine c_reg ?_ -- region 8 flat.go:21
      refine wl (ro_move rfl) ?_
      refine wl (ro_nilCheck rfl) ?_
      refine wl (ro_fieldAddr (k := 2) rfl fo_79_2) ?_
      refine wl (ro_loadB rfl sc_77 (by assumption) rfl) ?_
      refine wl (ro_move rfl) ?_
      refine wl (ro_move rfl) ?_
      refine wl (ro_indexAddr (et := 148) (k := 8) rfl rfl se_77 (rfl) (hli)) ?_
      refine wl (ro_fieldAddr (k := 4) rfl fo_148_4) ?_
      refine wl_put rfl rfl rfl sz_3 hBg ((by omega)) (rfl) (fun w1 hBg F1 => ?_)
      replace hX2 := F1.blkO hX2 (by omega)
      have F8 := (F1)
      refine wl_nil (x_then (hK10 _ _ ?_))
      clear hK10 K10
      refine c_reg ?_ -- region 9 flat.go:23
      refine wl (ro_move rfl) ?_
      refine wl (ro_assign rfl) ?_
      refine wl_nil (x_blk (x_then (hK7 _ _ ?_)))
      clear hK7 K7
      refine c_reg ?_ -- region 10 flat.go:16
      refine wl (ro_arith rfl rfl rfl (Go.IntWalk.i64_in _ (by omega))) ?_
      refine wl (ro_move rfl) ?_
      refine wl_nil (x_then ?_)
      have e6 : G1.length + ndT x - 1 = if ts1 ++ [x] = [] then 0 else G.length + ndC (ts1 ++ [x]) - 1 := by rw [if_neg (by simp)]; omega
      have e5 : rtC ts1 G.length = rtC (ts1 ++ [x]) G.length := by rw [rtC_snoc, if_neg hne]
      have e12 : ts1.length + 1 = (ts1 ++ [x]).length := by simp
      have hll : (layC ts1 G.length).length = ndC ts1 := layC_len hg1 hg2
      have hlne : layC ts1 G.length ≠ [] := fun q => by rw [q] at hll; simp at hll; omega
      have hset := lkG_set (n := G1.length + ndT x - 1) hy
      have hput := (OwT.put (ow := fun _ => 0) (tag := 0) (x' := ({ y.1 with Nx := G1.length + ndT x - 1 }, y.2)) (cs := [i64c (G1.length + ndT x - 1)]) (j := 4) (m := 1) ndc_len hBg k1 k2 k3 k4 rfl (by rw [List.set_eq_take_append_cons_drop, if_pos (by omega), Nat.zero_add, List.append_assoc]; rfl) hy rfl (by omega) rfl).o
      rw [← hset] at hput
      have hno : ∀ b, ow b = 63 → ¬ one g b := fun b hb q => hA2.no hb (.inr (by have q : b = g := q; rw [q]; rfl))
      refine ⟨ts3.length, by simp, ts1 ++ [x], ts3, _, lkG G2 (G.length + ndC ts1 - 1) (G1.length + ndT x - 1), rfl, by rw [hts]; simp, ⟨hX2, by rw [lkG_len]; exact hput, hA2.ne, hA2.s3, hA2.u3, fun b hb => hA2.n3 b (Nat.le_trans F8.size hb), lkG_z hA2.z0⟩, ?_, by rw [lkG_len]; omega, hnb3, hF2.trans' F8 (fun b hb q => ?_), OwT.far hV2 F8 (fun b hb h q => hno b hb q) (Xt.refl _ _), ElM.far2 F8 (fun b hb h q => hno b hb q) (fun _ _ h => h) hE2, kp _ ⟨rfl, congrArg (fun z : Nat => some (i64c z)) e5, congrArg (fun z : Nat => some (i64c z)) e6, rfl, rfl, congrArg (fun z : Nat => some (i64c z)) e12, trivial⟩⟩
      · have h3 : G2.map Prod.fst = G.map Prod.fst ++ layC ts1 G.length ++ lay x G1.length := by rw [hg3, hg1]
        have h4 := lkG_map (n := G1.length + ndT x - 1) h3 hlne
        rw [List.length_map, hll] at h4
        rw [h4, layC_snoc hlxx hlx1, if_neg hne, ← hg2, List.append_assoc]
      · have q : b = g := q
        rcases hnb3 b (by rw [q]; rfl) with q | q
        · exact .inr q
        · omega
  · try simp only [decide_eq_true_eq, decide_eq_false_iff_not, Bool.not_eq_true', Bool.not_eq_false', Bool.not_eq_eq_eq_not, Bool.not_true, Bool.not_false, beq_iff_eq, bne_iff_ne, ne_eq, beq_eq_false_iff_ne, bne_eq_false_iff_eq, gt_iff_lt, ge_iff_le, Int.not_lt, Int.not_le] at hc13
    refine c_exit (x_thenX (x_thenX (x_blkX (x_then (hK3 _ _ ?_)))))
    clear hK6 K6 hK3 K3
    refine forget [(5, _)] ⟨rfl, trivial⟩ (fun e => ?_)
    refine c_seq (fun K12 hK12 => ?_)
    refine c_reg ?_ -- region 11 flat.go:25
    refine wl (ro_move rfl) ?_
    refine wl (ro_assign rfl) ?_
    refine wl_nil (x_then (hK12 _ _ ?_))
    clear hK12 K12
    refine c_ret ?_
    refine bp_ret Tryz.results78 rfl ?_
    obtain rfl : ts2 = [] := by
      cases ts2 with
      | nil => rfl
      | cons x l => rw [hts] at hvl; simp at hvl; omega
    rw [List.append_nil] at hts
    subst hts
    exact ⟨rfl, U1, G1, hA, hg1, hg2, hnb, hF⟩
section
variable {n : Nat} {w : World} {ow : Nat → Nat} {sb : Nat} {c0 c1 U V : Value} {G : List (Nd × Nat)} {t : Tr} {vs : List Value}
theorem nb1 : ∀ (m : Nat) {t : Tr} {vs : List Value}, vs.length ≤ m → TrM w ow 1 t vs → NmB t → ∃ ts, ElM w ow 0 ts vs ∧ ndT t = ndC ts ∧ (∀ b, rt t b = rtC ts b ∧ lay t b = layC ts b) ∧ ∀ x ∈ ts, NmB x := by
  intro m
  induction m with
  | zero =>
    intro t vs hn h _
    rcases h.invEL with rfl | ⟨x, y, rfl⟩
    · exact ⟨[], TrM_enil.1 h, rfl, fun b => ⟨rfl, rfl⟩, fun x hx => by cases hx⟩
    · obtain ⟨v, r, rfl, _⟩ := TrM_econs.1 h
      simp at hn
  | succ m ih =>
    intro t vs hn h hb
    rcases h.invEL with rfl | ⟨x, y, rfl⟩
    · exact ⟨[], TrM_enil.1 h, rfl, fun b => ⟨rfl, rfl⟩, fun x hx => by cases hx⟩
    · obtain ⟨v, r, rfl, h1, h2⟩ := TrM_econs.1 h
      simp only [List.length_cons] at hn
      have hb : ∀ k ∈ numsT x ++ numsT y, k < 4611686018427387904 := hb
      obtain ⟨ts, g1, g2, g3, g4⟩ := ih (by omega) h2 (fun k hk => hb k (List.mem_append.2 (.inr hk)))
      refine ⟨x :: ts, ⟨v, r, rfl, h1, g1⟩, by show 0 + ndT x + ndT y = ndT x + ndC ts; omega, fun b => ⟨rfl, ?_⟩, fun z hz => ?_⟩
      · show nxL (lay x b) (rt y (b + ndT x)) ++ lay y (b + ndT x) = nxL (lay x b) (rtC ts (b + ndT x)) ++ layC ts (b + ndT x)
        rw [(g3 _).1, (g3 _).2]
      · rcases List.mem_cons.1 hz with rfl | hz
        · exact fun k hk => hb k (List.mem_append.2 (.inl hk))
        · exact g4 z hz
theorem nb3 : ∀ (m : Nat) {t : Tr} {vs : List Value}, vs.length ≤ m → TrM w ow 3 t vs → NmB t → ∃ ts, ElM w ow 2 ts vs ∧ ndT t = ndC ts ∧ (∀ b, rt t b = rtC ts b ∧ lay t b = layC ts b) ∧ ∀ x ∈ ts, NmB x := by
  intro m
  induction m with
  | zero =>
    intro t vs hn h _
    rcases h.invSL with rfl | ⟨x, y, rfl⟩
    · exact ⟨[], TrM_snil.1 h, rfl, fun b => ⟨rfl, rfl⟩, fun x hx => by cases hx⟩
    · obtain ⟨v, r, rfl, _⟩ := TrM_scons.1 h
      simp at hn
  | succ m ih =>
    intro t vs hn h hb
    rcases h.invSL with rfl | ⟨x, y, rfl⟩
    · exact ⟨[], TrM_snil.1 h, rfl, fun b => ⟨rfl, rfl⟩, fun x hx => by cases hx⟩
    · obtain ⟨v, r, rfl, h1, h2⟩ := TrM_scons.1 h
      simp only [List.length_cons] at hn
      have hb : ∀ k ∈ numsT x ++ numsT y, k < 4611686018427387904 := hb
      obtain ⟨ts, g1, g2, g3, g4⟩ := ih (by omega) h2 (fun k hk => hb k (List.mem_append.2 (.inr hk)))
      refine ⟨x :: ts, ⟨v, r, rfl, h1, g1⟩, by show 0 + ndT x + ndT y = ndT x + ndC ts; omega, fun b => ⟨rfl, ?_⟩, fun z hz => ?_⟩
      · show nxL (lay x b) (rt y (b + ndT x)) ++ lay y (b + ndT x) = nxL (lay x b) (rtC ts (b + ndT x)) ++ layC ts (b + ndT x)
        rw [(g3 _).1, (g3 _).2]
      · rcases List.mem_cons.1 hz with rfl | hz
        · exact fun k hk => hb k (List.mem_append.2 (.inl hk))
        · exact g4 z hz
/-- A list of expressions is laid. -/
theorem chain1 (ih : FAll n) (hA : ArV w ow sb c0 c1 U G) (hV : SlM w ow V vs) (hT : TrM w ow 1 t vs) (hb : NmB t) (hn : ndT t ≤ n) (hG : 1 ≤ G.length) (hl : G.length + ndT t ≤ 1000000000) : Ret Tryz.prog 78 [ptr sb, V] w (ArR w ow sb c0 c1 U G (rt t G.length) (lay t G.length) (ndT t)) := by
  obtain ⟨ts, g1, g2, g3, g4⟩ := nb1 _ (Nat.le_refl _) hT hb
  rw [(g3 _).1, (g3 _).2, g2]
  exact chain78 ih hA (.inl rfl) hV g1 g4 (by omega) hG (by omega)
/-- A list of statements is laid. -/
theorem chain3 (ih : FAll n) (hA : ArV w ow sb c0 c1 U G) (hV : SlM w ow V vs) (hT : TrM w ow 3 t vs) (hb : NmB t) (hn : ndT t ≤ n) (hG : 1 ≤ G.length) (hl : G.length + ndT t ≤ 1000000000) : Ret Tryz.prog 78 [ptr sb, V] w (ArR w ow sb c0 c1 U G (rt t G.length) (lay t G.length) (ndT t)) := by
  obtain ⟨ts, g1, g2, g3, g4⟩ := nb3 _ (Nat.le_refl _) hT hb
  rw [(g3 _).1, (g3 _).2, g2]
  exact chain78 ih hA (.inr rfl) hV g1 g4 (by omega) hG (by omega)
/-- Names are laid. -/
theorem chainN {l : List Str} (ih : FAll n) (hA : ArV w ow sb c0 c1 U G) (hV : SlM w ow V vs) (hT : nmM w ow l vs) (hn : l.length ≤ n) (hG : 1 ≤ G.length) (hl : G.length + l.length ≤ 1000000000) : Ret Tryz.prog 78 [ptr sb, V] w (ArR w ow sb c0 c1 U G (if l = [] then 0 else G.length) (layN l G.length) l.length) := by
  have := chain78 ih hA (.inl rfl) hV hT.els (fun x hx => by obtain ⟨s, _, rfl⟩ := List.mem_map.1 hx; exact fun k hk => by cases hk) (by rw [ndC_nm]; omega) hG (by rw [ndC_nm]; omega)
  rw [rtC_nm, layC_nm, ndC_nm] at this
  exact this
end
/-- What goes over every frame that leaves the trees alone. -/
def Cy (b5 : Nat) (ow : Nat → Nat) (Q : World → Prop) (w : World) : Prop := Q w ∧ ow b5 ≠ 63 ∧ ∀ (u u' : World) (S : Nat → Prop), Q u → Fram S u u' → (∀ b, ow b = 63 → b < u.heap.size → ¬ S b) → Q u'
def ArF (b5 : Nat) (w : World) (ow : Nat → Nat) (sb : Nat) (c0 c1 U : Value) (G : List (Nd × Nat)) : Prop := ArV w ow sb c0 c1 U G ∧ ¬ arS sb U b5
section
variable {b5 : Nat} {w w' : World} {ow : Nat → Nat} {sb : Nat} {c0 c1 U U' : Value} {G G' : List (Nd × Nat)} {Q : World → Prop}
theorem Cy.thruN (h : Cy b5 ow Q w) (f : Fram none' w w') : Cy b5 ow Q w' := ⟨h.2.2 _ _ _ h.1 f (fun _ _ _ h => h), h.2⟩
theorem Cy.hbput (h : Cy b5 ow Q w) (f : Fram (one b5) w w') : Cy b5 ow Q w' := ⟨h.2.2 _ _ _ h.1 f (fun b hb _ e => h.2.1 (by have e : b = b5 := e; rw [← e]; exact hb)), h.2⟩
theorem Cy.ar (h : Cy b5 ow Q w) (hA : ArF b5 w ow sb c0 c1 U G) (f : Fram (arS sb U) w w') : Cy b5 ow Q w' := ⟨h.2.2 _ _ _ h.1 f (fun b hb _ => hA.1.no hb), h.2⟩
theorem ArF.thruN (h : ArF b5 w ow sb c0 c1 U G) (f : Fram none' w w') : ArF b5 w' ow sb c0 c1 U G := ⟨h.1.farN f, h.2⟩
theorem ArF.hbput (h : ArF b5 w ow sb c0 c1 U G) (f : Fram (one b5) w w') : ArF b5 w' ow sb c0 c1 U G :=
  ⟨h.1.far f (fun e => h.2 (.inl (by have e : sb = b5 := e; exact e.symm))) (fun b hb e => h.2 (.inr (by have e : b = b5 := e; rw [← e]; exact hb))), h.2⟩
theorem ArF.next (h : ArF b5 w ow sb c0 c1 U G) (hA : ArV w' ow sb c0 c1 U' G') (hn : nob U U' w) (hb : b5 < w.heap.size) : ArF b5 w' ow sb c0 c1 U' G' := ⟨hA, fun q => by
  rcases q with q | q
  · exact h.2 (.inl q)
  · rcases hn _ q with q | q
    · exact h.2 (.inr q)
    · omega⟩
end
end Go.Proofs.Qxb6500568aGreatDoor
