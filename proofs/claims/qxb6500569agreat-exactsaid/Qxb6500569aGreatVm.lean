import Derived.Test.Qxb6500569aGreatVl
/- The real program: the index is kept up: a clause without an own key; Add. -/
namespace Go.Proofs.Qxb6500569aGreat
set_option linter.unusedVariables false
set_option linter.unusedSimpArgs false

theorem k2_and (a b : K2) : (decide (a.1 = b.1) && decide (a.2 = b.2)) = decide (a = b) := by
  obtain ⟨a1, a2⟩ := a; obtain ⟨b1, b2⟩ := b
  by_cases h1 : a1 = b1 <;> by_cases h2 : a2 = b2 <;> simp [h1, h2]

set_option maxHeartbeats 1600000 in
theorem enter52o {w : World} {pb : Nat} {VC : Value} {a o k : Nat} {cls : List Cl2} {la lo : List (K2 × Value)} {lk : List (K4 × Value)} (X : IX w.heap pb VC a o k cls la lo lk) {clb : Nat} {s code : List UInt8} {Bs : List Nat} (hCl : ClAt w.heap clb false s code Bs) (hBs : ∀ b ∈ Bs, ¬ (b = a ∨ b = o ∨ b = k) ∧ ¬ vals3 la lo lk b) (h7 : cls.length ≤ 7) (hg : own2 code = none) :
    Ret Tryz.prog 52 [ptr pb, i8c cls.length, ptr clb] w (fun _ w' => EntPost pb VC a o k (cls ++ [(s, code)]) la lo lk w w') := by
  have hlen : cls.length ≤ 7 := h7
  obtain ⟨cls', hcls'⟩ : ∃ cls' : List Cl2, cls' = cls ++ [(s, code)] := ⟨_, rfl⟩
  rw [← hcls']
  obtain ⟨n, hn⟩ : ∃ n, n = cls.length := ⟨_, rfl⟩
  rw [← hn]
  obtain ⟨f, hf⟩ : ∃ f : UInt8 × UInt8, f = prd2 code := ⟨_, rfl⟩
  have hA' : ∀ x, idsA cls' x = idsA cls x ++ (if f = x then [n] else []) := by intro x; rw [hcls', idsA_snoc, hn, hf]
  have hO' : ∀ x, idsO cls' x = idsO cls x ++ (if f = x ∧ own2 code = none then [n] else []) := by intro x; rw [hcls', idsO_snoc, hn, hf]
  have hK' : ∀ x, idsK cls' x = idsK cls x ++ (if f = x.1 ∧ (own2 code = none ∨ own2 code = some x.2) then [n] else []) := by intro x; rw [hcls', idsK_snoc, hn, hf]
  obtain ⟨rest, hb0, hrest, hback⟩ := bks_up (ids := idsA cls) (ids' := idsA cls') (a := f) (n := n) X.bk X.na (X.ka f) (fun q hq => by rw [hA', if_neg (fun h => hq h.symm), List.append_nil]) (by rw [hA', if_pos rfl])
  obtain ⟨va, hva⟩ : ∃ va, va = (lookV la f).getD (.slice none 0 0) := ⟨_, rfl⟩
  rw [← hva] at hb0
  obtain ⟨LO, hLO⟩ : ∃ L, L = lo.map (fun p => (p.2, idsO cls p.1)) := ⟨_, rfl⟩
  obtain ⟨LK, hLK⟩ : ∃ L, L = lk.map (fun p => (p.2, idsK cls p.1)) := ⟨_, rfl⟩
  rw [← hLO, ← hLK] at hb0 hback
  have hsA := (sel_small (cls := cls) (by omega) (fun c => decide (prd2 c = f))).1
  have hlenA : (idsA cls f).length ≤ 100 := hsA
  have hV0 : VNew (vals3 la lo lk) w.heap.size ((va, idsA cls f) :: (rest ++ (LO ++ LK))) := by
    have hbase : VNew (vals3 la lo lk) w.heap.size (la.map (fun p => (p.2, idsA cls p.1)) ++ (LO ++ LK)) := by
      rintro b ⟨p, hp, hb⟩
      refine .inl ⟨p.1, ?_, hb⟩
      rw [hLO, hLK] at hp
      simp only [List.mem_append, List.mem_map] at hp ⊢
      rcases hp with ⟨q, hq, rfl⟩ | ⟨q, hq, rfl⟩ | ⟨q, hq, rfl⟩
      · exact .inl ⟨q, hq, rfl⟩
      · exact .inr (.inl ⟨q, hq, rfl⟩)
      · exact .inr (.inr ⟨q, hq, rfl⟩)
    refine hbase.perm (fun p hp => ?_)
    rcases List.mem_cons.1 hp with rfl | hp
    · simp only
      rw [hva]
      rcases lookV_own (l := la) (a := f) with h | ⟨q, hq, h⟩
      · exact .inl h
      · exact .inr ⟨(q.2, idsA cls q.1), List.mem_append.2 (.inl (List.mem_map.2 ⟨q, hq, rfl⟩)), h⟩
    · rcases List.mem_append.1 hp with hp | hp
      · exact .inr ⟨p, List.mem_append.2 (.inl (hrest p hp)), rfl⟩
      · exact .inr ⟨p, List.mem_append.2 (.inr hp), rfl⟩
  have hGa : ∀ b, va.ownBlock = some b → vals3 la lo lk b := by
    intro b hb
    rcases lookV_own (l := la) (a := f) with h | ⟨q, hq, h⟩
    · rw [hva, h] at hb; cases hb
    · refine ⟨q.2, List.mem_append.2 (.inl (List.mem_map.2 ⟨q, hq, rfl⟩)), ?_⟩
      rw [h, ← hva]; exact hb
  refine ret_of Tryz.func52 rfl Tryz.ntmps52 rfl ?_
  refine c_seq (fun K1 hK1 => ?_)
  refine c_reg ?_ -- region 0 prog.go:65
  refine wl (ro_move rfl) ?_
  refine wl_call rfl en_92 (head92 hCl) ?_
  rintro _ w1 ⟨rfl, hcb, c, VH, hks, Bh, rfl, hCH, hlo, hk3, hm6, hprd, hd4, hBh⟩
  obtain ⟨aH, cH, rfl⟩ := hCH.own.form
  have hf2 : f = (c, UInt8.ofNat (48 + hks.length)) := by rw [hf, hprd]
  have hltH := hCH.lt (fun v i h => h.lt)
  refine wl (ro_assign rfl) ?_
  refine wl_nil (x_then (hK1 _ _ ?_))
  clear hK1 K1
  refine forget [(0, _), (1, _), (6, _)] ⟨rfl, rfl, rfl, trivial⟩ (fun e => ?_)
  refine c_seq (fun K2 hK2 => ?_)
  refine c_reg ?_ -- region 1 prog.go:66
  refine wl (ro_move rfl) ?_
  refine wl_call rfl en_93 (functor93 hCH.blk (by omega)) ?_
  rintro _ w2 ⟨rfl, F2⟩
  rw [← hf2]
  refine wle (eo_alloc ze_157) ?_
  have hN := Blk.new w2 [u8c 0, u8c 0] 157
  have F3 := F2.thenAlloc (o := .cells [u8c 0, u8c 0].toArray 157)
  refine wls (so_storeAggB rfl rfl ((by simp [u8c, Value.oneCell'])) sz_157 rfl (hN) ((by simp))) ?_
  have hP := hN.set [u8c f.1, u8c f.2]
  have F4 : Fram none' w1 (World.setRow (w2.alloc (.cells [u8c 0, u8c 0].toArray 157)) w2.heap.size [u8c f.1, u8c f.2].toArray) := F3.trans' (Fram.set (F := fun b => b = w2.heap.size) _ w2.heap.size _ (.inl rfl)) (fun q hq hx => absurd hx (by have := F2.size; omega))
  refine wl_nil (x_then (hK2 _ _ ?_))
  clear hK2 K2
  refine forget [(0, _), (1, _), (6, _), (7, _)] ⟨rfl, rfl, rfl, rfl, trivial⟩ (fun e => ?_)
  refine c_seq (fun K3 hK3 => ?_)
  obtain ⟨pr, hpr⟩ : ∃ pr, pr = w2.heap.size := ⟨_, rfl⟩
  have hsz2 := F2.size
  refine gen2 (A := fun w4 => Blk w4.heap w2.heap.size [u8c f.1, u8c f.2] 157) (B := fun w4 => Fram none' w1 w4) (C := fun w4 => WC _ _ _ _ w4) hP F4 ?_
  rw [← hpr]
  clear hP F4 F3 hN F2
  intro w4 hP F4
  have hB4 := X.blk.fram F4 (fun h => h)
  have hMa4 := X.ma.fram F4 (fun h => h)
  have hMo4 := X.mo.fram F4 (fun h => h)
  have hMk4 := X.mkk.fram F4 (fun h => h)
  have hb4 := hb0.none F4
  have hsz4 := F4.size
  have hkf : k2c f = .agg #[u8c f.1, u8c f.2] := rfl
  refine c_piL 11 [(0, false), (1, false), (2, false), (3, false), (4, false), (5, false), (6, true), (7, true), (8, false), (10, false), (9, true)] (fun w' => Blk w'.heap pb [VC, .map (some a), .map (some o), .map (some k)] 74 ∧ Blk w'.heap pr [u8c f.1, u8c f.2] 157) mixed (by kernel_rfl) rfl (by kernel_rfl) (po_then (po_bp)) (⟨hB4, hP⟩) ?_ -- region 2 prog.go:67
  refine ql_ro rfl (fun w hS => ro_move rfl) ?_
  refine ql_ro rfl (fun w hS => ro_nilCheck rfl) ?_
  refine ql_ro rfl (fun w hS => ro_fieldAddr (k := 1) rfl fo_74_1) ?_
  refine ql_ro rfl (fun w hS => ro_loadB rfl sc_70 (hS.1) rfl) ?_
  refine ql_ro rfl (fun w hS => ro_loadAggB rfl ag_157 (hS.2) rfl rfl) ?_
  refine ql_ro rfl (fun w hS => ro_move rfl) ?_
  refine ql_eo rfl (eo_bs1 rfl rfl se_159 zx_110 rfl rfl rfl) (⟨hB4.alloc _, hP.alloc _⟩) ?_
  have hNs := Blk.new { w4 with drawn := w4.drawn + 1 } [i8c n] 110
  have FA : Fram none' w4 (World.alloc { w4 with drawn := w4.drawn + 1 } (.cells [i8c n].toArray 110)) := (Fram.drew none' w4 (w4.drawn + 1)).thenAlloc
  have hBA := hB4.fram FA (fun h => h)
  have hPA := hP.fram FA (fun h => h)
  have hMaA := hMa4.fram FA (fun h => h)
  have hMoA := hMo4.fram FA (fun h => h)
  have hMkA := hMk4.fram FA (fun h => h)
  have hbA := hb4.none FA
  refine ql_mapEntry (a := f) (l := la) rfl keyP rfl rfl mp_70 zr_159 hMaA ?_
  rintro w5 st j l1 ⟨bs, ck, hMC, hbj⟩ hlj hsetj F5
  rw [← hva] at hlj ⊢
  have hB5 := hBA.fram F5 (fun h => hMaA.blk_ne hBA h.symm)
  have hP5 := hPA.fram F5 (fun h => hMaA.blk_ne hPA h.symm)
  have hNs5 := hNs.fram F5 (fun h => hMaA.blk_ne hNs h.symm)
  have hMo5 := hMoA.fram F5 (fun h => X.ao h.symm)
  have hMk5 := hMkA.fram F5 (fun h => X.ak h.symm)
  have hb5 := hbA.map hMaA F5
  have hva5 : Own w5.heap va 110 1 (idsA cls f).length ((idsA cls f).map i8c) := hb5.bk (va, idsA cls f) (by simp)
  have hsz5 := F5.size
  have hszA := FA.size
  refine ⟨⟨hB5, hP5⟩, ?_⟩
  refine ql_ro rfl (fun w hS => ro_extract rfl rfl) ?_
  refine ql_ro rfl (fun w hS => ro_extract rfl rfl) ?_
  refine ql_app (news := [i8c n]) rfl rfl rfl se_159 zx_110 by_110 rfl hva5 hNs5 rfl rfl (by simp [i8c, Value.oneCell']) (by omega) (by omega) ?_
  intro V6 w6 hown hgr hloc
  obtain ⟨hb6, F6⟩ := hb5.app hgr hloc hown
  have hV6 := hV0.app (y := idsA cls f ++ [n]) hloc (Nat.le_trans hsz4 (Nat.le_trans FA.size F5.size))
  have hB6 := hB5.fram F6 (fun h => hva5.neblk hB5 (by decide) _ h rfl)
  have hP6 := hP5.fram F6 (fun h => hva5.neblk hP5 (by decide) _ h rfl)
  have hMC6 := hMC.fram F6 (fun h => hva5.nemap hMC.at _ h rfl)
  have hMo6 := hMo5.fram F6 (fun h => hva5.nemap hMo5 _ h rfl)
  have hMk6 := hMk5.fram F6 (fun h => hva5.nemap hMk5 _ h rfl)
  have hsz6 := F6.size
  refine ⟨⟨hB6, hP6⟩, ?_⟩
  refine ql_lastEnt (a := f) rfl rfl rfl rfl hMC6 hbj hlj ?_
  intro w7 hMa7 F7
  rw [hsetj] at hMa7
  have hB7 := hB6.fram F7 (fun h => hMC6.at.blk_ne hB6 h.symm)
  have hP7 := hP6.fram F7 (fun h => hMC6.at.blk_ne hP6 h.symm)
  have hMo7 := hMo6.fram F7 (fun h => X.ao h.symm)
  have hMk7 := hMk6.fram F7 (fun h => X.ak h.symm)
  have hb7 := hback _ _ (hb6.map hMC6.at F7)
  have hV7 : VNew (vals3 la lo lk) w1.heap.size ((ups la f V6).map (fun p => (p.2, idsA cls' p.1)) ++ (LO ++ LK)) := by
    intro b hb
    obtain ⟨p, hp, hpb⟩ := hb
    rcases List.mem_append.1 hp with hp | hp
    · obtain ⟨q, hq, rfl⟩ := List.mem_map.1 hp
      rcases ups_vals q hq with h | h
      · exact hV6 b ⟨_, List.mem_cons_self, by rw [← h]; exact hpb⟩
      · exact .inl ⟨q.2, List.mem_append.2 (.inl (List.mem_map.2 ⟨q, h, rfl⟩)), hpb⟩
    · exact hV6 b ⟨p, List.mem_cons_of_mem _ (List.mem_append.2 (.inr hp)), hpb⟩
  have F07 : Fram (fun b => b = a ∨ b = o ∨ b = k ∨ vals3 la lo lk b) w1 w7 := ((((F4.mono (fun _ _ h => h.elim)).trans (FA.mono (fun _ _ h => h.elim))).trans (F5.mono (fun _ _ h => .inl h))).trans (F6.mono (fun b _ h => .inr (.inr (.inr (hGa b h)))))).trans (F7.mono (fun _ _ h => .inl h))
  obtain ⟨la', hla'⟩ : ∃ la', la' = ups la f V6 := ⟨_, rfl⟩
  have hna' : (la'.map (·.1)).Nodup := by rw [hla']; exact nodup_ups X.na
  have hka' : ∀ x, x ∉ la'.map (·.1) → idsA cls' x = [] := by
    intro x hx
    rw [hla', mem_keys_ups] at hx
    rw [hA', X.ka x (fun h => hx (.inl h)), if_neg (fun h => hx (.inr h.symm))]; rfl
  rw [← hla'] at hMa7 hb7 hV7
  obtain ⟨LA, hLA⟩ : ∃ L, L = la'.map (fun p => (p.2, idsA cls' p.1)) := ⟨_, rfl⟩
  rw [← hLA] at hb7 hV7
  refine x_then (hK3 _ _ ?_)
  clear hK3 K3
  refine forget [(0, _), (1, _), (6, _), (7, _)] ⟨rfl, rfl, rfl, rfl, trivial⟩ (fun e => ?_)
  refine c_seq (fun K4 hK4 => ?_)
  clear hMC6 hMo6 hMk6 hb6 hB6 hP6 F7 F6 hown hgr hloc hV6 hva5 hb5 hMo5 hMk5 hB5 hP5 hNs5 F5 hMC hlj hsetj hbj hbA hMkA hMoA hMaA hPA hBA FA hNs hb4 hMk4 hMo4 hMa4 hB4 hP hV0 hb0 hback
  have hC7 := hCH.fram F07 (fun b hb hx => by
    have hbf := hBs b (hBh b hb)
    rcases hx with rfl | rfl | rfl | ⟨v, hv, hvb⟩
    · exact hbf.1 (.inl rfl)
    · exact hbf.1 (.inr (.inl rfl))
    · exact hbf.1 (.inr (.inr rfl))
    · exact hbf.2 ⟨v, hv, hvb⟩) (fun k hk hb h => h.fram F07 hb)
  refine c_reg ?_ -- region 3 prog.go:68
  refine wl (ro_move rfl) ?_
  refine wl_call rfl en_94 (ownKey94 hC7 hk3 hm6 (by have := congrArg Prod.snd hprd; exact this) hd4) ?_
  rintro ov w8 ⟨hov, F8⟩
  rw [hg] at hov
  simp only at hov
  subst hov
  refine wl (ro_move rfl) ?_
  refine wl (ro_extract rfl rfl) ?_
  refine wl (ro_extract rfl rfl) ?_
  refine wle (eo_alloc ze_157) ?_
  have hN9 := Blk.new w8 [u8c 0, u8c 0] 157
  have F9 := Fram.alloc none' w8 (.cells [u8c 0, u8c 0].toArray 157)
  refine wls (so_storeAggB rfl rfl ((by simp [u8c, Value.oneCell'])) sz_157 rfl (hN9) ((by simp))) ?_
  have F10 : Fram none' w7 (World.setRow (w8.alloc (.cells [u8c 0, u8c 0].toArray 157)) w8.heap.size [u8c 0, u8c 0].toArray) := (F8.trans F9).trans' (Fram.set (F := fun b => b = w8.heap.size) _ w8.heap.size _ (.inl rfl)) (fun q hq hx => absurd hx (by have := F8.size; omega))
  refine gen2 (A := fun w4 => Fram none' w7 w4) (B := fun _ => True) (C := fun w4 => WL _ _ _ _ _ w4) F10 trivial ?_
  clear F10 F9 hN9 F8
  intro w10 F10 _
  refine wl (ro_assign rfl) ?_
  refine wl_nil (x_then (hK4 _ _ ?_))
  clear hK4 K4
  refine c_seq (fun K5 hK5 => ?_)
  refine c_seq (fun K6 hK6 => ?_)
  refine c_reg ?_ -- region 4 prog.go:69
  refine wl (ro_move rfl) ?_
  refine wl_nil (x_then (hK6 _ _ ?_))
  clear hK6 K6
  refine wc_condF rfl ?_
  refine c_skip (x_then (hK5 _ _ ?_))
  clear hK5 K5
  refine forget [(0, _), (1, _), (7, _)] ⟨rfl, rfl, rfl, trivial⟩ (fun e => ?_)
  refine c_seq (fun K7 hK7 => ?_)
  have hB4 := hB7.fram F10 (fun h => h)
  have hP4 := hP7.fram F10 (fun h => h)
  have hMa4 := hMa7.fram F10 (fun h => h)
  have hMo4 := hMo7.fram F10 (fun h => h)
  have hMk4 := hMk7.fram F10 (fun h => h)
  have hb4 := hb7.none F10
  have F04 : Fram (fun b => b = a ∨ b = o ∨ b = k ∨ vals3 la lo lk b) w1 w10 := F07.trans' F10 (fun _ _ h => h.elim)
  have hszX := F04.size
  have hO2 : ∀ x, idsO cls' x = idsO cls x ++ (if f = x then [n] else []) := by intro x; rw [hO', hg]; simp
  have hK2 : ∀ x, idsK cls' x = idsK cls x ++ (if f = x.1 then [n] else []) := by intro x; rw [hK', hg]; simp
  have hbp : BKS w10.heap (lo.map (fun p => (p.2, idsO cls p.1)) ++ (LA ++ LK)) := by rw [← hLO]; exact hb4.perm (List.perm_append_comm_assoc _ _ _)
  obtain ⟨rest3, hb5, hrest3, hback3⟩ := bks_up (ids := idsO cls) (ids' := idsO cls') (a := f) (n := n) hbp X.no (X.ko f) (fun q hq => by rw [hO2, if_neg (fun h => hq h.symm), List.append_nil]) (by rw [hO2, if_pos rfl])
  obtain ⟨vo, hvo⟩ : ∃ vo, vo = (lookV lo f).getD (.slice none 0 0) := ⟨_, rfl⟩
  rw [← hvo] at hb5
  have hlenO : (idsO cls f).length ≤ 100 := (sel_small (cls := cls) (by omega) _).1
  have hVo : VNew (vals3 la lo lk) w1.heap.size ((vo, idsO cls f) :: (rest3 ++ (LA ++ LK))) := by
    rintro b ⟨p, hp, hpb⟩
    rcases List.mem_cons.1 hp with rfl | hp
    · simp only at hpb
      rcases lookV_own (l := lo) (a := f) with h | ⟨q, hq, h⟩
      · rw [hvo, h] at hpb; cases hpb
      · exact .inl ⟨q.2, List.mem_append.2 (.inr (List.mem_append.2 (.inl (List.mem_map.2 ⟨q, hq, rfl⟩)))), by rw [h, ← hvo]; exact hpb⟩
    · rcases List.mem_append.1 hp with hp | hp
      · exact hV7 b ⟨p, List.mem_append.2 (.inr (List.mem_append.2 (.inl (by rw [hLO]; exact hrest3 p hp)))), hpb⟩
      · rcases List.mem_append.1 hp with hp | hp
        · exact hV7 b ⟨p, List.mem_append.2 (.inl hp), hpb⟩
        · exact hV7 b ⟨p, List.mem_append.2 (.inr (List.mem_append.2 (.inr hp))), hpb⟩
  clear hB7 hP7 hMa7 hMo7 hMk7 hb7 F07 F10 hb4 hbp
  refine c_piL 11 [(0, false), (1, false), (2, false), (3, false), (4, false), (5, false), (6, true), (7, true), (8, false), (10, false), (9, true)] (fun w' => Blk w'.heap pb [VC, .map (some a), .map (some o), .map (some k)] 74 ∧ Blk w'.heap pr [u8c f.1, u8c f.2] 157) mixed (by kernel_rfl) rfl (by kernel_rfl) (po_then (po_bp)) (⟨hB4, hP4⟩) ?_ -- region 10 prog.go:78
  refine ql_ro rfl (fun w hS => ro_move rfl) ?_
  refine ql_ro rfl (fun w hS => ro_nilCheck rfl) ?_
  refine ql_ro rfl (fun w hS => ro_fieldAddr (k := 2) rfl fo_74_2) ?_
  refine ql_ro rfl (fun w hS => ro_loadB rfl sc_70 (hS.1) rfl) ?_
  refine ql_ro rfl (fun w hS => ro_loadAggB rfl ag_157 (hS.2) rfl rfl) ?_
  refine ql_ro rfl (fun w hS => ro_move rfl) ?_
  refine ql_eo rfl (eo_bs1 rfl rfl se_159 zx_110 rfl rfl rfl) (⟨hB4.alloc _, hP4.alloc _⟩) ?_
  have hNs := Blk.new { w10 with drawn := w10.drawn + 1 } [i8c n] 110
  have FA : Fram none' w10 (World.alloc { w10 with drawn := w10.drawn + 1 } (.cells [i8c n].toArray 110)) := (Fram.drew none' w10 (w10.drawn + 1)).thenAlloc
  have hBA := hB4.fram FA (fun h => h)
  have hPA := hP4.fram FA (fun h => h)
  have hMaA := hMa4.fram FA (fun h => h)
  have hMoA := hMo4.fram FA (fun h => h)
  have hMkA := hMk4.fram FA (fun h => h)
  have hbA := hb5.none FA
  refine ql_mapEntry (a := f) (l := lo) rfl keyP rfl rfl mp_70 zr_159 hMoA ?_
  rintro w5 st j l1 ⟨bs1, ck1, hMC, hbj⟩ hlj hsetj F5
  rw [← hvo] at hlj ⊢
  have hB5 := hBA.fram F5 (fun h => hMoA.blk_ne hBA h.symm)
  have hP5 := hPA.fram F5 (fun h => hMoA.blk_ne hPA h.symm)
  have hNs5 := hNs.fram F5 (fun h => hMoA.blk_ne hNs h.symm)
  have hMa5 := hMaA.fram F5 (fun h => X.ao h)
  have hMk5 := hMkA.fram F5 (fun h => X.ok h.symm)
  have hb6 := hbA.map hMoA F5
  have hvo5 : Own w5.heap vo 110 1 (idsO cls f).length ((idsO cls f).map i8c) := hb6.bk (vo, idsO cls f) (by simp)
  refine ⟨⟨hB5, hP5⟩, ?_⟩
  refine ql_ro rfl (fun w hS => ro_extract rfl rfl) ?_
  refine ql_ro rfl (fun w hS => ro_extract rfl rfl) ?_
  refine ql_app (news := [i8c n]) rfl rfl rfl se_159 zx_110 by_110 rfl hvo5 hNs5 rfl rfl (by simp [i8c, Value.oneCell']) (by omega) (by omega) ?_
  intro V7 w6 hown hgr hloc
  obtain ⟨hb7, F6⟩ := hb6.app hgr hloc hown
  have hV6 := hVo.app (y := idsO cls f ++ [n]) hloc (Nat.le_trans hszX (Nat.le_trans FA.size F5.size))
  have hB6 := hB5.fram F6 (fun h => hvo5.neblk hB5 (by decide) _ h rfl)
  have hP6 := hP5.fram F6 (fun h => hvo5.neblk hP5 (by decide) _ h rfl)
  have hMC6 := hMC.fram F6 (fun h => hvo5.nemap hMC.at _ h rfl)
  have hMa6 := hMa5.fram F6 (fun h => hvo5.nemap hMa5 _ h rfl)
  have hMk6 := hMk5.fram F6 (fun h => hvo5.nemap hMk5 _ h rfl)
  have F06 : Fram (fun b => b = a ∨ b = o ∨ b = k ∨ vals3 la lo lk b) w1 w6 := ((F04.trans' FA (fun _ _ h => h.elim)).trans' F5 (fun _ _ h => .inr (.inl h))).trans' F6 (fun b hb h => by
    rcases hVo b ⟨(vo, idsO cls f), by simp, h⟩ with h' | h'
    · exact .inr (.inr (.inr h'))
    · omega)
  refine ⟨⟨hB6, hP6⟩, ?_⟩
  refine ql_lastEnt (a := f) rfl rfl rfl rfl hMC6 hbj hlj ?_
  intro w7 hMo7 F7
  rw [hsetj] at hMo7
  have hB7 := hB6.fram F7 (fun h => hMC6.at.blk_ne hB6 h.symm)
  have hP7 := hP6.fram F7 (fun h => hMC6.at.blk_ne hP6 h.symm)
  have hMa7 := hMa6.fram F7 (fun h => X.ao h)
  have hMk7 := hMk6.fram F7 (fun h => X.ok h.symm)
  have hb8 := hback3 _ _ (hb7.map hMC6.at F7)
  obtain ⟨lo', hlo'⟩ : ∃ lo', lo' = ups lo f V7 := ⟨_, rfl⟩
  have hno' : (lo'.map (·.1)).Nodup := by rw [hlo']; exact nodup_ups X.no
  have hko' : ∀ x, x ∉ lo'.map (·.1) → idsO cls' x = [] := by
    intro x hx
    rw [hlo', mem_keys_ups] at hx
    rw [hO2, X.ko x (fun h => hx (.inl h)), if_neg (fun h => hx (.inr h.symm))]; rfl
  rw [← hlo'] at hMo7 hb8
  obtain ⟨LO', hLO'⟩ : ∃ L, L = lo'.map (fun p => (p.2, idsO cls' p.1)) := ⟨_, rfl⟩
  rw [← hLO'] at hb8
  have hVL : VNew (vals3 la lo lk) w1.heap.size (LO' ++ LA) := by
    rintro b ⟨p, hp, hpb⟩
    rcases List.mem_append.1 hp with hp | hp
    · rw [hLO'] at hp
      obtain ⟨q, hq, rfl⟩ := List.mem_map.1 hp
      rw [hlo'] at hq
      rcases ups_vals q hq with h | h
      · exact hV6 b ⟨_, List.mem_cons_self, by rw [← h]; exact hpb⟩
      · exact .inl ⟨q.2, List.mem_append.2 (.inr (List.mem_append.2 (.inl (List.mem_map.2 ⟨q, h, rfl⟩)))), hpb⟩
    · exact hV6 b ⟨p, List.mem_cons_of_mem _ (List.mem_append.2 (.inr (List.mem_append.2 (.inl hp)))), hpb⟩
  have F07 : Fram (fun b => b = a ∨ b = o ∨ b = k ∨ vals3 la lo lk b) w1 w7 := F06.trans (F7.mono (fun _ _ h => .inr (.inl h)))
  obtain ⟨bs, ck, hMC7⟩ := hMk7.toC
  have hbl := hMC7.len
  have hb9 : BKS w7.heap (zipL cls f n #[] lk bs ++ (LO' ++ LA)) := by
    rw [zipL_nil hbl, ← hLK]
    exact hb8.perm (by rw [← List.append_assoc]; exact List.perm_append_comm)
  refine x_then (hK7 _ _ ?_)
  clear hK7 K7
  refine forget [(0, _), (1, _), (7, _)] ⟨rfl, rfl, rfl, trivial⟩ (fun e => ?_)
  refine c_seq (fun K8 hK8 => ?_)
  clear hb8 hMC6 hMa6 hMk6 hb7 hB6 hP6 F7 F6 hown hgr hloc hV6 hvo5 hb6 hMa5 hMk5 hB5 hP5 hNs5 F5 hMC hlj hsetj hbj hbA hMkA hMoA hMaA hPA hBA FA hNs hMk4 hMo4 hMa4 hB4 hP4 hback3 F06 F04 hb5
  refine c_reg ?_ -- region 11 prog.go:79
  refine wl (ro_move rfl) ?_
  refine wl (ro_nilCheck rfl) ?_
  refine wl (ro_fieldAddr (k := 3) rfl fo_74_3) ?_
  refine wl (ro_loadB rfl sc_71 (hB7) rfl) ?_
  refine wle (eo_range (kv := k4c) rfl mp_71 hMC7) ?_
  have hIt : ItAt (w7.alloc (.mapIter (some k) ck #[] ck)).heap w7.heap.size k ck #[] ck := heap_alloc_new w7 _
  have FI := Fram.alloc none' w7 (.mapIter (some k) ck #[] ck)
  obtain ⟨ri, hri⟩ : ∃ ri, ri = w7.heap.size := ⟨_, rfl⟩
  have hszr := F07.size
  refine gen3 (A := fun w8 => ItAt w8.heap w7.heap.size k ck #[] ck) (B := fun w8 => Blk w8.heap pb [VC, .map (some a), .map (some o), .map (some k)] 74 ∧ Blk w8.heap pr [u8c f.1, u8c f.2] 157 ∧ MapAt k2c w8.heap a la' ∧ MapAt k2c w8.heap o lo' ∧ MapC k4c w8.heap k lk bs ck ∧ BKS w8.heap (zipL cls f n #[] lk bs ++ (LO' ++ LA))) (D := fun w8 => Fram (fun b => b = a ∨ b = o ∨ b = k ∨ vals3 la lo lk b) w1 w8) (C := fun w8 => WL _ _ _ _ _ w8) hIt ⟨hB7.fram FI (fun h => h), hP7.fram FI (fun h => h), hMa7.fram FI (fun h => h), hMo7.fram FI (fun h => h), hMC7.fram FI (fun h => h), hb9.none FI⟩ (F07.trans' FI (fun _ _ h => h.elim)) ?_
  rw [← hri]
  have hrw : w1.heap.size ≤ ri := by omega
  clear hIt FI hB7 hP7 hMa7 hMo7 hMC7 hb9 F07 hMk7
  rintro w8 hIt ⟨hB8, hP8, hMa8, hMo8, hMC8, hb8⟩ F08
  have hVN : VNew (vals3 la lo lk) w1.heap.size (zipL cls f n #[] lk bs ++ (LO' ++ LA)) := by
    rintro b ⟨p, hp, hpb⟩
    rcases List.mem_append.1 hp with hp | hp
    · rw [zipL_nil hbl] at hp
      obtain ⟨q, hq, rfl⟩ := List.mem_map.1 hp
      exact .inl ⟨q.2, List.mem_append.2 (.inr (List.mem_append.2 (.inr (List.mem_map.2 ⟨q, hq, rfl⟩)))), hpb⟩
    · exact hVL b ⟨p, hp, hpb⟩
  refine wl_nil (x_then (hK8 _ _ ?_))
  clear hK8 K8
  refine c_block ?_
  -- loop@r12: live slots [0, 1, 7, 81]
  refine c_loopG (fun m a' w' => ∃ (lkc : List (((UInt8 × UInt8) × (UInt8 × UInt8)) × Value)) (seen : Array Nat), m = leftN bs seen ∧ lkc.map (·.1) = lk.map (·.1) ∧ ItAt w'.heap ri k ck seen ck ∧ (Blk w'.heap pb [VC, .map (some a), .map (some o), .map (some k)] 74 ∧ Blk w'.heap pr [u8c f.1, u8c f.2] 157 ∧ MapAt k2c w'.heap a la' ∧ MapAt k2c w'.heap o lo' ∧ MapC k4c w'.heap k lkc bs ck ∧ BKS w'.heap (zipL cls f n seen lkc bs ++ (LO' ++ LA))) ∧ VNew (vals3 la lo lk) w1.heap.size (zipL cls f n seen lkc bs ++ (LO' ++ LA)) ∧ Fram (fun b => b = a ∨ b = o ∨ b = k ∨ vals3 la lo lk b) w1 w' ∧ ∃ e, a' = Fr 100 (upds e [(0, ptr pb), (1, i8c n), (7, ptr pr), (81, ptr ri)]) []) (leftN bs #[]) ⟨lk, #[], rfl, rfl, hIt, ⟨hB8, hP8, hMa8, hMo8, hMC8, hb8⟩, hVN, F08, kp _ ⟨rfl, rfl, rfl, rfl, trivial⟩⟩ ?_
  clear hIt hB8 hP8 hMa8 hMo8 hMC8 hb8 hVN F08
  rintro m a' w8 ⟨lkc, seen, rfl, hkeys, hIt, ⟨hB8, hP8, hMa8, hMo8, hMC8, hb8⟩, hVN, F08, e, rfl⟩
  have hblc := hMC8.len
  refine c_seq (fun K9 hK9 => ?_)
  rcases next_cases (P := Tryz.prog) hMC8 hIt 0 with ⟨hall, hrun⟩ | ⟨i, q, v, b, w9, hli, hbi, hns, hrun, hI9, F9⟩
  · skip
    refine c_reg ?_ -- region 12 prog.go:79
    refine wle (eo_next rfl hrun) ?_
    skip
    refine wl (ro_extract rfl rfl) ?_
    refine wl_nil (x_then (hK9 _ _ ?_))
    clear hK9 K9
    refine forget [(0, _), (1, _), (7, _), (81, _), (83, _)] ⟨rfl, rfl, rfl, rfl, rfl, trivial⟩ (fun e => ?_)
    refine c_seq (fun K10 hK10 => ?_)
    refine wc_condF rfl ?_
    refine c_exit (x_thenX (x_thenX (x_blkX ?_)))
    refine bp_end Tryz.results52 rfl ?_
    have hza := zipL_all hblc hall hK2
    rw [hza] at hb8 hVN
    refine ⟨la', lo', lkc, ⟨X.ao, X.ak, X.ok, hB8, hMa8, hMo8, hMC8.at, hna', hno', by rw [hkeys]; exact X.nk, ?_, hka', hko', ?_⟩, ?_, F08⟩
    · rw [← hLA, ← hLO']
      refine hb8.perm (List.perm_append_comm.trans ?_)
      rw [List.append_assoc]
      exact List.perm_append_comm_assoc _ _ _
    · intro x hx c' hc'
      rw [hkeys] at hx
      rw [hcls'] at hc'
      rcases List.mem_append.1 hc' with hc' | hc'
      · exact X.kk x hx c' hc'
      · simp at hc'
        rintro ⟨_, h2⟩
        rw [hc'] at h2
        simp only at h2
        rw [hg] at h2
        cases h2
    · rintro b ⟨v, hv, hvb'⟩
      simp only [List.mem_append, List.mem_map] at hv
      rcases hv with ⟨q, hq, rfl⟩ | ⟨q, hq, rfl⟩ | ⟨q, hq, rfl⟩
      · exact hVN b ⟨(q.2, idsA cls' q.1), List.mem_append.2 (.inr (List.mem_append.2 (.inr (by rw [hLA]; exact List.mem_map.2 ⟨q, hq, rfl⟩)))), hvb'⟩
      · exact hVN b ⟨(q.2, idsO cls' q.1), List.mem_append.2 (.inr (List.mem_append.2 (.inl (by rw [hLO']; exact List.mem_map.2 ⟨q, hq, rfl⟩)))), hvb'⟩
      · exact hVN b ⟨(q.2, idsK cls' q.1), List.mem_append.2 (.inl (List.mem_map.2 ⟨q, hq, rfl⟩)), hvb'⟩
  · skip
    refine c_reg ?_ -- region 12 prog.go:79
    refine wle (eo_next rfl hrun) ?_
    have hB9 := hB8.fram F9 (fun h => hIt.blk_ne hB8 h.symm)
    have hP9 := hP8.fram F9 (fun h => hIt.blk_ne hP8 h.symm)
    have hMa9 := hMa8.fram F9 (fun h => hIt.map_ne hMa8 h.symm)
    have hMo9 := hMo8.fram F9 (fun h => hIt.map_ne hMo8 h.symm)
    have hMC9 := hMC8.fram F9 (fun h => hIt.map_ne hMC8.at h.symm)
    have hb9 := hb8.it hIt F9
    have F09 : Fram (fun b => b = a ∨ b = o ∨ b = k ∨ vals3 la lo lk b) w1 w9 := F08.trans' F9 (fun x hx h => absurd h (by omega))
    clear hB8 hP8 hMa8 hMo8 hMC8 hb8 F08 F9 hIt hrun
    refine wl (ro_extract rfl rfl) ?_
    refine wl_nil (x_then (hK9 _ _ ?_))
    clear hK9 K9
    refine forget [(0, _), (1, _), (7, _), (81, _), (83, _)] ⟨rfl, rfl, rfl, rfl, rfl, trivial⟩ (fun e => ?_)
    refine c_seq (fun K11 hK11 => ?_)
    refine wc_condT rfl ?_
    refine c_skip (x_then (hK11 _ _ ?_))
    clear hK11 K11
    refine c_block ?_
    refine forget [(0, _), (1, _), (7, _), (81, _)] ⟨rfl, rfl, rfl, rfl, trivial⟩ (fun e => ?_)
    refine c_seq (fun K12 hK12 => ?_)
    refine c_reg ?_ -- region 13 prog.go:79
    refine wl (ro_entry rfl hMC9 hI9 hli hbi) ?_
    refine wl (ro_extract rfl rfl) ?_
    refine wl (ro_extract rfl rfl) ?_
    refine wle (eo_alloc ze_163) ?_
    have hN := Blk.new w9 [u8c 0, u8c 0, u8c 0, u8c 0] 163
    have F10 := Fram.alloc none' w9 (.cells [u8c 0, u8c 0, u8c 0, u8c 0].toArray 163)
    refine wls (so_storeAggB rfl rfl ((by simp [u8c, Value.oneCell'])) sz_163 rfl (hN) ((by simp))) ?_
    have hKB := hN.set [u8c q.1.1, u8c q.1.2, u8c q.2.1, u8c q.2.2]
    have F11 : Fram none' w9 (World.setRow (w9.alloc (.cells [u8c 0, u8c 0, u8c 0, u8c 0].toArray 163)) w9.heap.size [u8c q.1.1, u8c q.1.2, u8c q.2.1, u8c q.2.2].toArray) := F10.trans' (Fram.set (F := fun x => x = w9.heap.size) _ w9.heap.size _ (.inl rfl)) (fun x hx h => absurd h (by omega))
    obtain ⟨kb, hkb⟩ : ∃ kb, kb = w9.heap.size := ⟨_, rfl⟩
    refine gen2 (A := fun w4 => Blk w4.heap w9.heap.size [u8c q.1.1, u8c q.1.2, u8c q.2.1, u8c q.2.2] 163) (B := fun w4 => Fram none' w9 w4) (C := fun w4 => WL _ _ _ _ _ w4) hKB F11 ?_
    rw [← hkb]
    clear hKB F11 F10 hN
    intro w10 hKB F11
    have hB10 := hB9.fram F11 (fun h => h)
    have hP10 := hP9.fram F11 (fun h => h)
    have hMa10 := hMa9.fram F11 (fun h => h)
    have hMo10 := hMo9.fram F11 (fun h => h)
    have hMC10 := hMC9.fram F11 (fun h => h)
    have hI10 := hI9.fram F11 (fun h => h)
    have hb10 := hb9.none F11
    have F010 : Fram (fun b => b = a ∨ b = o ∨ b = k ∨ vals3 la lo lk b) w1 w10 := F09.trans' F11 (fun _ _ h => h.elim)
    clear hB9 hP9 hMa9 hMo9 hMC9 hb9 F09 F11 hI9
    have hsz10 := F010.size
    have hlt := leftN_lt (List.mem_of_getElem? hbi) hns
    refine wl (ro_assign rfl) ?_
    refine wl_nil (x_then (hK12 _ _ ?_))
    clear hK12 K12
    refine forget [(0, _), (1, _), (7, _), (13, _), (14, _), (81, _)] ⟨rfl, rfl, rfl, rfl, rfl, rfl, trivial⟩ (fun e => ?_)
    refine c_seq (fun K13 hK13 => ?_)
    refine c_reg ?_ -- region 14 prog.go:80
    refine wl (ro_fieldAddr (k := 0) rfl fo_163_0) ?_
    refine wl (ro_loadAggB rfl ag_157 (hKB) rfl rfl) ?_
    refine wl (ro_loadAggB rfl ag_157 (hP10) rfl rfl) ?_
    refine wl (ro_eqArr2 (r := decide (q.1 = f)) rfl rfl ar_157 in_5 (by kernel_rfl) (congrArg some (by rw [u8_eq, u8_eq]; exact k2_and q.1 f))) ?_
    refine wl_nil (x_then (hK13 _ _ ?_))
    clear hK13 K13
    refine wc_cond rfl (fun hc90 => ?_) (fun hc90 => ?_)
    · try simp only [decide_eq_true_eq, decide_eq_false_iff_not, Bool.not_eq_true', Bool.not_eq_false', Bool.not_eq_eq_eq_not, Bool.not_true, Bool.not_false, beq_iff_eq, bne_iff_ne, ne_eq, beq_eq_false_iff_ne, bne_eq_false_iff_eq, gt_iff_lt, ge_iff_le, Int.not_lt, Int.not_le] at hc90
      have hqf : q.1 = f := by simpa using hc90
      have hlook := look_of_get (by rw [hkeys]; exact X.nk) hli
      have hz := zipL_get (cls := cls) (f := f) (n := n) (seen := seen) hli hbi
      have hids : idsS cls f n seen q b = idsK cls q := by unfold idsS; rw [if_neg (fun h => hns h.1)]
      rw [hids] at hz
      obtain ⟨Z, hZ⟩ : ∃ Z, Z = zipL cls f n seen lkc bs := ⟨_, rfl⟩
      have hstep := fun V' => zipL_step (cls := cls) (f := f) (n := n) (seen := seen) (v' := V') hMC10.nd hli hbi hqf.symm
      rw [← hZ] at hz hb10 hVN hstep
      have hzl := (List.getElem?_eq_some_iff.1 hz).1
      have hze := (List.getElem?_eq_some_iff.1 hz).2
      have hpg := perm_get Z i hzl
      rw [hze] at hpg
      have hb11 : BKS w10.heap ((v, idsK cls q) :: (Z.eraseIdx i ++ (LO' ++ LA))) := hb10.perm (hpg.append_right _).symm
      have hVv : VNew (vals3 la lo lk) w1.heap.size ((v, idsK cls q) :: (Z.eraseIdx i ++ (LO' ++ LA))) := by
        rintro x ⟨p, hp, hpb⟩
        exact hVN x ⟨p, (hpg.append_right (LO' ++ LA)).subset hp, hpb⟩
      have hlenK : (idsK cls q).length ≤ 100 := (sel_small (cls := cls) (by omega) _).1
      have hqv : k4c q = .agg #[u8c q.1.1, u8c q.1.2, u8c q.2.1, u8c q.2.2] := rfl
      refine c_piL 9 [(0, false), (1, false), (2, false), (3, false), (4, false), (5, false), (6, false), (7, true), (8, true)] (fun w' => Blk w'.heap pb [VC, .map (some a), .map (some o), .map (some k)] 74 ∧ Blk w'.heap kb [u8c q.1.1, u8c q.1.2, u8c q.2.1, u8c q.2.2] 163) mixed (by kernel_rfl) rfl (by kernel_rfl) (po_blk (po_then (po_blk (po_bp)))) (⟨hB10, hKB⟩) ?_ -- region 15 prog.go:81
      refine ql_ro rfl (fun w hS => ro_move rfl) ?_
      refine ql_ro rfl (fun w hS => ro_nilCheck rfl) ?_
      refine ql_ro rfl (fun w hS => ro_fieldAddr (k := 3) rfl fo_74_3) ?_
      refine ql_ro rfl (fun w hS => ro_loadB rfl sc_71 (hS.1) rfl) ?_
      refine ql_ro rfl (fun w hS => ro_loadAggB rfl ag_163 (hS.2) rfl rfl) ?_
      refine ql_ro rfl (fun w hS => ro_move rfl) ?_
      refine ql_ro rfl (fun w hS => ro_move rfl) ?_
      refine ql_eo rfl (eo_bs1 rfl rfl se_159 zx_110 rfl rfl rfl) (⟨hB10.alloc _, hKB.alloc _⟩) ?_
      have hNs := Blk.new { w10 with drawn := w10.drawn + 1 } [i8c n] 110
      have FA : Fram none' w10 (World.alloc { w10 with drawn := w10.drawn + 1 } (.cells [i8c n].toArray 110)) := (Fram.drew none' w10 (w10.drawn + 1)).thenAlloc
      have hBA := hB10.fram FA (fun h => h)
      have hKA := hKB.fram FA (fun h => h)
      have hPA := hP10.fram FA (fun h => h)
      have hMaA := hMa10.fram FA (fun h => h)
      have hMoA := hMo10.fram FA (fun h => h)
      have hMCA := hMC10.fram FA (fun h => h)
      have hIA := hI10.fram FA (fun h => h)
      have hbA := hb11.none FA
      have hvA : Own (World.alloc { w10 with drawn := w10.drawn + 1 } (.cells [i8c n].toArray 110)).heap v 110 1 (idsK cls q).length ((idsK cls q).map i8c) := hbA.bk (v, idsK cls q) (by simp)
      refine ql_app (news := [i8c n]) rfl rfl rfl se_159 zx_110 by_110 rfl hvA hNs rfl rfl (by simp [i8c, Value.oneCell']) (by omega) (by omega) ?_
      intro V15 w15 hown hgr hloc
      obtain ⟨hb15, F15⟩ := hbA.app hgr hloc hown
      have hV15 := hVv.app (y := idsK cls q ++ [n]) hloc (Nat.le_trans hsz10 FA.size)
      have hB15 := hBA.fram F15 (fun h => hvA.neblk hBA (by decide) _ h rfl)
      have hK15 := hKA.fram F15 (fun h => hvA.neblk hKA (by decide) _ h rfl)
      have hP15 := hPA.fram F15 (fun h => hvA.neblk hPA (by decide) _ h rfl)
      have hMa15 := hMaA.fram F15 (fun h => hvA.nemap hMaA _ h rfl)
      have hMo15 := hMoA.fram F15 (fun h => hvA.nemap hMoA _ h rfl)
      have hMC15 := hMCA.fram F15 (fun h => hvA.nemap hMCA.at _ h rfl)
      have hI15 := hIA.fram F15 (fun h => by
        rcases hvA.2 with ⟨h1, _⟩ | ⟨g', cap', l', h1, h2, _⟩
        · rw [h1] at h; cases h
        · rw [h1] at h; cases h; exact hIA.blk_ne h2 rfl)
      have F015 : Fram (fun b => b = a ∨ b = o ∨ b = k ∨ vals3 la lo lk b) w1 w15 := (F010.trans' FA (fun _ _ h => h.elim)).trans' F15 (fun x hx h => by
        rcases hVv x ⟨(v, idsK cls q), by simp, h⟩ with h' | h'
        · exact .inr (.inr (.inr h'))
        · omega)
      refine ⟨⟨hB15, hK15⟩, ?_⟩
      refine ql_lastMapUpC (a := q) rfl keyF rfl rfl rfl mp_71 hMC15 hlook ?_
      intro w16 hMC16 F16
      have hB16 := hB15.fram F16 (fun h => hMC15.at.blk_ne hB15 h.symm)
      have hP16 := hP15.fram F16 (fun h => hMC15.at.blk_ne hP15 h.symm)
      have hMa16 := hMa15.fram F16 (fun h => X.ak h)
      have hMo16 := hMo15.fram F16 (fun h => X.ok h)
      have hI16 := hI15.fram F16 (fun h => hI15.map_ne hMC15.at h)
      have hps := perm_set Z i (V15, idsK cls q ++ [n]) hzl
      refine x_blk (x_then ?_)
      refine ⟨leftN bs (seen.push b), hlt, lkc.set i (q, V15), seen.push b, rfl, ?_, hI16, ⟨hB16, hP16, hMa16, hMo16, hMC16, ?_⟩, ?_, F015.trans (F16.mono (fun _ _ h => .inr (.inr (.inl h)))), kp _ ⟨rfl, rfl, rfl, rfl, trivial⟩⟩
      · rw [← hkeys]
        apply List.ext_getElem?
        intro x
        simp only [List.getElem?_map, List.getElem?_set]
        by_cases hx : i = x
        · subst hx; rw [hli]; simp [(List.getElem?_eq_some_iff.1 hli).1]
        · rw [if_neg hx]
      · rw [hstep]
        exact (hb15.map hMC15.at F16).perm (hps.append_right _).symm
      · rw [hstep]
        rintro x ⟨p, hp, hpb⟩
        exact hV15 x ⟨p, (hps.append_right (LO' ++ LA)).subset hp, hpb⟩
    · try simp only [decide_eq_true_eq, decide_eq_false_iff_not, Bool.not_eq_true', Bool.not_eq_false', Bool.not_eq_eq_eq_not, Bool.not_true, Bool.not_false, beq_iff_eq, bne_iff_ne, ne_eq, beq_eq_false_iff_ne, bne_eq_false_iff_eq, gt_iff_lt, ge_iff_le, Int.not_lt, Int.not_le] at hc90
      have hqf : ¬ q.1 = f := by simpa using hc90
      have hskip := zipL_skip (cls := cls) (f := f) (n := n) (seen := seen) hMC10.nd hli hbi (fun h => hqf h.symm)
      refine c_skip (x_blk (x_then ?_))
      exact ⟨leftN bs (seen.push b), hlt, lkc, seen.push b, rfl, hkeys, hI10, ⟨hB10, hP10, hMa10, hMo10, hMC10, by rw [hskip]; exact hb10⟩, by rw [hskip]; exact hVN, F010, kp _ ⟨rfl, rfl, rfl, rfl, trivial⟩⟩

end Go.Proofs.Qxb6500569aGreat
