import Derived.Test.Qxb6500569aGreatVj
/- The real program: the index is kept up: a clause with an own key. -/
namespace Go.Proofs.Qxb6500569aGreat
set_option linter.unusedVariables false
set_option linter.unusedSimpArgs false

def vals3 (la lo : List (K2 × Value)) (lk : List (K4 × Value)) (b : Nat) : Prop := ∃ v ∈ la.map (·.2) ++ (lo.map (·.2) ++ lk.map (·.2)), v.ownBlock = some b

def EntPost (pb : Nat) (VC : Value) (a o k : Nat) (cls : List Cl2) (la lo : List (K2 × Value)) (lk : List (K4 × Value)) (w w' : World) : Prop :=
  ∃ la' lo' lk', IX w'.heap pb VC a o k cls la' lo' lk' ∧ (∀ b, vals3 la' lo' lk' b → vals3 la lo lk b ∨ w.heap.size ≤ b) ∧ Fram (fun b => b = a ∨ b = o ∨ b = k ∨ vals3 la lo lk b) w w'

theorem enter52k {w : World} {pb : Nat} {VC : Value} {a o k : Nat} {cls : List Cl2} {la lo : List (K2 × Value)} {lk : List (K4 × Value)} (X : IX w.heap pb VC a o k cls la lo lk) {clb : Nat} {s code : List UInt8} {Bs : List Nat} (hCl : ClAt w.heap clb false s code Bs) (hBs : ∀ b ∈ Bs, ¬ (b = a ∨ b = o ∨ b = k) ∧ ¬ vals3 la lo lk b) (h7 : cls.length ≤ 7) {g : K2} (hg : own2 code = some g) :
    Ret Tryz.prog 52 [ptr pb, i8c cls.length, ptr clb] w (fun _ w' => EntPost pb VC a o k (cls ++ [(s, code)]) la lo lk w w') := by
  have hlen : cls.length ≤ 7 := h7
  obtain ⟨cls', hcls'⟩ : ∃ cls' : List Cl2, cls' = cls ++ [(s, code)] := ⟨_, rfl⟩
  rw [← hcls']
  obtain ⟨n, hn⟩ : ∃ n, n = cls.length := ⟨_, rfl⟩
  rw [← hn]
  obtain ⟨f, hf⟩ : ∃ f : UInt8 × UInt8, f = prd2 code := ⟨_, rfl⟩
  have hA' : ∀ x, idsA cls' x = idsA cls x ++ (if f = x then [n] else []) := by intro x; rw [hcls', idsA_snoc, hn, hf]
  have hO' : ∀ x, idsO cls' x = idsO cls x ++ (if f = x ∧ own2 code = none then [n] else []) := by intro x; rw [hcls', idsO_snoc, hn, hf]
  have hK' : ∀ x, idsK cls' x = idsK cls x ++ (if f = x.1 ∧ (own2 code = none ∨ own2 code = some x.2) then [n] else []) := by intro x; rw [hcls', idsK_snoc, hn, hf]
  obtain ⟨rest, hb0, hrest, hback⟩ := bks_up (ids := idsA cls) (ids' := idsA cls') (a := f) (n := n) X.bk X.na (X.ka f) (fun q hq => by rw [hA', if_neg (fun h => hq h.symm), List.append_nil]) (by rw [hA', if_pos rfl])
  obtain ⟨va, hva⟩ : ∃ va, va = (lookV la f).getD (.slice none 0 0) := ⟨_, rfl⟩
  rw [← hva] at hb0
  obtain ⟨LO, hLO⟩ : ∃ L, L = lo.map (fun p => (p.2, idsO cls p.1)) := ⟨_, rfl⟩
  obtain ⟨LK, hLK⟩ : ∃ L, L = lk.map (fun p => (p.2, idsK cls p.1)) := ⟨_, rfl⟩
  rw [← hLO, ← hLK] at hb0 hback
  have hsA := (sel_small (cls := cls) (by omega) (fun c => decide (prd2 c = f))).1
  have hlenA : (idsA cls f).length ≤ 100 := hsA
  have hV0 : VNew (vals3 la lo lk) w.heap.size ((va, idsA cls f) :: (rest ++ (LO ++ LK))) := by
    have hbase : VNew (vals3 la lo lk) w.heap.size (la.map (fun p => (p.2, idsA cls p.1)) ++ (LO ++ LK)) := by
      rintro b ⟨p, hp, hb⟩
      refine .inl ⟨p.1, ?_, hb⟩
      rw [hLO, hLK] at hp
      simp only [List.mem_append, List.mem_map] at hp ⊢
      rcases hp with ⟨q, hq, rfl⟩ | ⟨q, hq, rfl⟩ | ⟨q, hq, rfl⟩
      · exact .inl ⟨q, hq, rfl⟩
      · exact .inr (.inl ⟨q, hq, rfl⟩)
      · exact .inr (.inr ⟨q, hq, rfl⟩)
    refine hbase.perm (fun p hp => ?_)
    rcases List.mem_cons.1 hp with rfl | hp
    · simp only
      rw [hva]
      rcases lookV_own (l := la) (a := f) with h | ⟨q, hq, h⟩
      · exact .inl h
      · exact .inr ⟨(q.2, idsA cls q.1), List.mem_append.2 (.inl (List.mem_map.2 ⟨q, hq, rfl⟩)), h⟩
    · rcases List.mem_append.1 hp with hp | hp
      · exact .inr ⟨p, List.mem_append.2 (.inl (hrest p hp)), rfl⟩
      · exact .inr ⟨p, List.mem_append.2 (.inr hp), rfl⟩
  have hGa : ∀ b, va.ownBlock = some b → vals3 la lo lk b := by
    intro b hb
    rcases lookV_own (l := la) (a := f) with h | ⟨q, hq, h⟩
    · rw [hva, h] at hb; cases hb
    · refine ⟨q.2, List.mem_append.2 (.inl (List.mem_map.2 ⟨q, hq, rfl⟩)), ?_⟩
      rw [h, ← hva]; exact hb
  refine ret_of Tryz.func52 rfl Tryz.ntmps52 rfl ?_
  refine c_seq (fun K1 hK1 => ?_)
  refine c_reg ?_ -- region 0 prog.go:65
  refine wl (ro_move rfl) ?_
  refine wl_call rfl en_92 (head92 hCl) ?_
  rintro _ w1 ⟨rfl, hcb, c, VH, hks, Bh, rfl, hCH, hlo, hk3, hm6, hprd, hd4, hBh⟩
  obtain ⟨aH, cH, rfl⟩ := hCH.own.form
  have hf2 : f = (c, UInt8.ofNat (48 + hks.length)) := by rw [hf, hprd]
  have hltH := hCH.lt (fun v i h => h.lt)
  refine wl (ro_assign rfl) ?_
  refine wl_nil (x_then (hK1 _ _ ?_))
  clear hK1 K1
  refine forget [(0, _), (1, _), (6, _)] ⟨rfl, rfl, rfl, trivial⟩ (fun e => ?_)
  refine c_seq (fun K2 hK2 => ?_)
  refine c_reg ?_ -- region 1 prog.go:66
  refine wl (ro_move rfl) ?_
  refine wl_call rfl en_93 (functor93 hCH.blk (by omega)) ?_
  rintro _ w2 ⟨rfl, F2⟩
  rw [← hf2]
  refine wle (eo_alloc ze_157) ?_
  have hN := Blk.new w2 [u8c 0, u8c 0] 157
  have F3 := F2.thenAlloc (o := .cells [u8c 0, u8c 0].toArray 157)
  refine wls (so_storeAggB rfl rfl ((by simp [u8c, Value.oneCell'])) sz_157 rfl (hN) ((by simp))) ?_
  have hP := hN.set [u8c f.1, u8c f.2]
  have F4 : Fram none' w1 (World.setRow (w2.alloc (.cells [u8c 0, u8c 0].toArray 157)) w2.heap.size [u8c f.1, u8c f.2].toArray) := F3.trans' (Fram.set (F := fun b => b = w2.heap.size) _ w2.heap.size _ (.inl rfl)) (fun q hq hx => absurd hx (by have := F2.size; omega))
  refine wl_nil (x_then (hK2 _ _ ?_))
  clear hK2 K2
  refine forget [(0, _), (1, _), (6, _), (7, _)] ⟨rfl, rfl, rfl, rfl, trivial⟩ (fun e => ?_)
  refine c_seq (fun K3 hK3 => ?_)
  obtain ⟨pr, hpr⟩ : ∃ pr, pr = w2.heap.size := ⟨_, rfl⟩
  have hsz2 := F2.size
  refine gen2 (A := fun w4 => Blk w4.heap w2.heap.size [u8c f.1, u8c f.2] 157) (B := fun w4 => Fram none' w1 w4) (C := fun w4 => WC _ _ _ _ w4) hP F4 ?_
  rw [← hpr]
  clear hP F4 F3 hN F2
  intro w4 hP F4
  have hB4 := X.blk.fram F4 (fun h => h)
  have hMa4 := X.ma.fram F4 (fun h => h)
  have hMo4 := X.mo.fram F4 (fun h => h)
  have hMk4 := X.mkk.fram F4 (fun h => h)
  have hb4 := hb0.none F4
  have hsz4 := F4.size
  have hkf : k2c f = .agg #[u8c f.1, u8c f.2] := rfl
  refine c_piL 11 [(0, false), (1, false), (2, false), (3, false), (4, false), (5, false), (6, true), (7, true), (8, false), (10, false), (9, true)] (fun w' => Blk w'.heap pb [VC, .map (some a), .map (some o), .map (some k)] 74 ∧ Blk w'.heap pr [u8c f.1, u8c f.2] 157) mixed (by kernel_rfl) rfl (by kernel_rfl) (po_then (po_bp)) (⟨hB4, hP⟩) ?_ -- region 2 prog.go:67
  refine ql_ro rfl (fun w hS => ro_move rfl) ?_
  refine ql_ro rfl (fun w hS => ro_nilCheck rfl) ?_
  refine ql_ro rfl (fun w hS => ro_fieldAddr (k := 1) rfl fo_74_1) ?_
  refine ql_ro rfl (fun w hS => ro_loadB rfl sc_70 (hS.1) rfl) ?_
  refine ql_ro rfl (fun w hS => ro_loadAggB rfl ag_157 (hS.2) rfl rfl) ?_
  refine ql_ro rfl (fun w hS => ro_move rfl) ?_
  refine ql_eo rfl (eo_bs1 rfl rfl se_159 zx_110 rfl rfl rfl) (⟨hB4.alloc _, hP.alloc _⟩) ?_
  have hNs := Blk.new { w4 with drawn := w4.drawn + 1 } [i8c n] 110
  have FA : Fram none' w4 (World.alloc { w4 with drawn := w4.drawn + 1 } (.cells [i8c n].toArray 110)) := (Fram.drew none' w4 (w4.drawn + 1)).thenAlloc
  have hBA := hB4.fram FA (fun h => h)
  have hPA := hP.fram FA (fun h => h)
  have hMaA := hMa4.fram FA (fun h => h)
  have hMoA := hMo4.fram FA (fun h => h)
  have hMkA := hMk4.fram FA (fun h => h)
  have hbA := hb4.none FA
  refine ql_mapEntry (a := f) (l := la) rfl keyP rfl rfl mp_70 zr_159 hMaA ?_
  rintro w5 st j l1 ⟨bs, ck, hMC, hbj⟩ hlj hsetj F5
  rw [← hva] at hlj ⊢
  have hB5 := hBA.fram F5 (fun h => hMaA.blk_ne hBA h.symm)
  have hP5 := hPA.fram F5 (fun h => hMaA.blk_ne hPA h.symm)
  have hNs5 := hNs.fram F5 (fun h => hMaA.blk_ne hNs h.symm)
  have hMo5 := hMoA.fram F5 (fun h => X.ao h.symm)
  have hMk5 := hMkA.fram F5 (fun h => X.ak h.symm)
  have hb5 := hbA.map hMaA F5
  have hva5 : Own w5.heap va 110 1 (idsA cls f).length ((idsA cls f).map i8c) := hb5.bk (va, idsA cls f) (by simp)
  have hsz5 := F5.size
  have hszA := FA.size
  refine ⟨⟨hB5, hP5⟩, ?_⟩
  refine ql_ro rfl (fun w hS => ro_extract rfl rfl) ?_
  refine ql_ro rfl (fun w hS => ro_extract rfl rfl) ?_
  refine ql_app (news := [i8c n]) rfl rfl rfl se_159 zx_110 by_110 rfl hva5 hNs5 rfl rfl (by simp [i8c, Value.oneCell']) (by omega) (by omega) ?_
  intro V6 w6 hown hgr hloc
  obtain ⟨hb6, F6⟩ := hb5.app hgr hloc hown
  have hV6 := hV0.app (y := idsA cls f ++ [n]) hloc (Nat.le_trans hsz4 (Nat.le_trans FA.size F5.size))
  have hB6 := hB5.fram F6 (fun h => hva5.neblk hB5 (by decide) _ h rfl)
  have hP6 := hP5.fram F6 (fun h => hva5.neblk hP5 (by decide) _ h rfl)
  have hMC6 := hMC.fram F6 (fun h => hva5.nemap hMC.at _ h rfl)
  have hMo6 := hMo5.fram F6 (fun h => hva5.nemap hMo5 _ h rfl)
  have hMk6 := hMk5.fram F6 (fun h => hva5.nemap hMk5 _ h rfl)
  have hsz6 := F6.size
  refine ⟨⟨hB6, hP6⟩, ?_⟩
  refine ql_lastEnt (a := f) rfl rfl rfl rfl hMC6 hbj hlj ?_
  intro w7 hMa7 F7
  rw [hsetj] at hMa7
  have hB7 := hB6.fram F7 (fun h => hMC6.at.blk_ne hB6 h.symm)
  have hP7 := hP6.fram F7 (fun h => hMC6.at.blk_ne hP6 h.symm)
  have hMo7 := hMo6.fram F7 (fun h => X.ao h.symm)
  have hMk7 := hMk6.fram F7 (fun h => X.ak h.symm)
  have hb7 := hback _ _ (hb6.map hMC6.at F7)
  have hV7 : VNew (vals3 la lo lk) w1.heap.size ((ups la f V6).map (fun p => (p.2, idsA cls' p.1)) ++ (LO ++ LK)) := by
    intro b hb
    obtain ⟨p, hp, hpb⟩ := hb
    rcases List.mem_append.1 hp with hp | hp
    · obtain ⟨q, hq, rfl⟩ := List.mem_map.1 hp
      rcases ups_vals q hq with h | h
      · exact hV6 b ⟨_, List.mem_cons_self, by rw [← h]; exact hpb⟩
      · exact .inl ⟨q.2, List.mem_append.2 (.inl (List.mem_map.2 ⟨q, h, rfl⟩)), hpb⟩
    · exact hV6 b ⟨p, List.mem_cons_of_mem _ (List.mem_append.2 (.inr hp)), hpb⟩
  have F07 : Fram (fun b => b = a ∨ b = o ∨ b = k ∨ vals3 la lo lk b) w1 w7 := ((((F4.mono (fun _ _ h => h.elim)).trans (FA.mono (fun _ _ h => h.elim))).trans (F5.mono (fun _ _ h => .inl h))).trans (F6.mono (fun b _ h => .inr (.inr (.inr (hGa b h)))))).trans (F7.mono (fun _ _ h => .inl h))
  obtain ⟨la', hla'⟩ : ∃ la', la' = ups la f V6 := ⟨_, rfl⟩
  have hna' : (la'.map (·.1)).Nodup := by rw [hla']; exact nodup_ups X.na
  have hka' : ∀ x, x ∉ la'.map (·.1) → idsA cls' x = [] := by
    intro x hx
    rw [hla', mem_keys_ups] at hx
    rw [hA', X.ka x (fun h => hx (.inl h)), if_neg (fun h => hx (.inr h.symm))]; rfl
  rw [← hla'] at hMa7 hb7 hV7
  obtain ⟨LA, hLA⟩ : ∃ L, L = la'.map (fun p => (p.2, idsA cls' p.1)) := ⟨_, rfl⟩
  rw [← hLA] at hb7 hV7
  refine x_then (hK3 _ _ ?_)
  clear hK3 K3
  refine forget [(0, _), (1, _), (6, _), (7, _)] ⟨rfl, rfl, rfl, rfl, trivial⟩ (fun e => ?_)
  refine c_seq (fun K4 hK4 => ?_)
  clear hMC6 hMo6 hMk6 hb6 hB6 hP6 F7 F6 hown hgr hloc hV6 hva5 hb5 hMo5 hMk5 hB5 hP5 hNs5 F5 hMC hlj hsetj hbj hbA hMkA hMoA hMaA hPA hBA FA hNs hb4 hMk4 hMo4 hMa4 hB4 hP hV0 hb0 hback
  have hC7 := hCH.fram F07 (fun b hb hx => by
    have hbf := hBs b (hBh b hb)
    rcases hx with rfl | rfl | rfl | ⟨v, hv, hvb⟩
    · exact hbf.1 (.inl rfl)
    · exact hbf.1 (.inr (.inl rfl))
    · exact hbf.1 (.inr (.inr rfl))
    · exact hbf.2 ⟨v, hv, hvb⟩) (fun k hk hb h => h.fram F07 hb)
  refine c_reg ?_ -- region 3 prog.go:68
  refine wl (ro_move rfl) ?_
  refine wl_call rfl en_94 (ownKey94 hC7 hk3 hm6 (by have := congrArg Prod.snd hprd; exact this) hd4) ?_
  rintro ov w8 ⟨hov, F8⟩
  rw [hg] at hov
  simp only at hov
  subst hov
  have hB8 := hB7.fram F8 (fun h => h)
  have hP8 := hP7.fram F8 (fun h => h)
  have hMa8 := hMa7.fram F8 (fun h => h)
  have hMo8 := hMo7.fram F8 (fun h => h)
  have hMk8 := hMk7.fram F8 (fun h => h)
  have hb8 := hb7.none F8
  have F08 : Fram (fun b => b = a ∨ b = o ∨ b = k ∨ vals3 la lo lk b) w1 w8 := F07.trans' F8 (fun _ _ h => h.elim)
  refine wl (ro_move rfl) ?_
  refine wl (ro_extract rfl rfl) ?_
  refine wl (ro_extract rfl rfl) ?_
  refine wle (eo_alloc ze_157) ?_
  have hN9 := Blk.new w8 [u8c 0, u8c 0] 157
  have F9 := Fram.alloc none' w8 (.cells [u8c 0, u8c 0].toArray 157)
  refine wls (so_storeAggB rfl rfl ((by simp [u8c, Value.oneCell'])) sz_157 rfl (hN9) ((by simp))) ?_
  have hG := hN9.set [u8c g.1, u8c g.2]
  have F10 : Fram none' w8 (World.setRow (w8.alloc (.cells [u8c 0, u8c 0].toArray 157)) w8.heap.size [u8c g.1, u8c g.2].toArray) := F9.trans' (Fram.set (F := fun b => b = w8.heap.size) _ w8.heap.size _ (.inl rfl)) (fun q hq hx => absurd hx (by omega))
  obtain ⟨gr, hgr⟩ : ∃ gr, gr = w8.heap.size := ⟨_, rfl⟩
  refine gen2 (A := fun w4 => Blk w4.heap w8.heap.size [u8c g.1, u8c g.2] 157) (B := fun w4 => Fram none' w8 w4) (C := fun w4 => WL _ _ _ _ _ w4) hG F10 ?_
  rw [← hgr]
  clear hG F10 F9 hN9
  intro w10 hG F10
  have hP10 := hP8.fram F10 (fun h => h)
  refine wl (ro_assign rfl) ?_
  refine wl_nil (x_then (hK4 _ _ ?_))
  clear hK4 K4
  refine c_seq (fun K5 hK5 => ?_)
  refine c_seq (fun K6 hK6 => ?_)
  refine c_reg ?_ -- region 4 prog.go:69
  refine wl (ro_move rfl) ?_
  refine wl_nil (x_then (hK6 _ _ ?_))
  clear hK6 K6
  refine wc_condT rfl ?_
  refine c_seq (fun K7 hK7 => ?_)
  refine c_reg ?_ -- region 5 prog.go:70
  refine wl (ro_loadAggB rfl ag_157 (hP10) rfl rfl) ?_
  refine wl (ro_loadAggB rfl ag_157 (hG) rfl rfl) ?_
  refine wl (ro_build rfl bld_163_0_1) ?_
  refine wle (eo_alloc ze_163) ?_
  have hN11 := Blk.new w10 [u8c 0, u8c 0, u8c 0, u8c 0] 163
  have F11 := F10.thenAlloc (o := .cells [u8c 0, u8c 0, u8c 0, u8c 0].toArray 163)
  refine wls (so_storeAggB rfl rfl (by simp [Value.oneCell', i32c, u8c, i64c, i8c]) sz_163 rfl (hN11) (by simp)) ?_
  have hQ := hN11.set [u8c f.1, u8c f.2, u8c g.1, u8c g.2]
  have F12 : Fram none' w8 (World.setRow (w10.alloc (.cells [u8c 0, u8c 0, u8c 0, u8c 0].toArray 163)) w10.heap.size [u8c f.1, u8c f.2, u8c g.1, u8c g.2].toArray) := F11.trans' (Fram.set (F := fun b => b = w10.heap.size) _ w10.heap.size _ (.inl rfl)) (fun q hq hx => absurd hx (by have := F10.size; omega))
  refine wl_nil (x_then (hK7 _ _ ?_))
  clear hK7 K7
  refine forget [(0, _), (1, _), (7, _), (10, _)] ⟨rfl, rfl, rfl, rfl, trivial⟩ (fun e => ?_)
  refine c_seq (fun K8 hK8 => ?_)
  obtain ⟨qr, hqr⟩ : ∃ qr, qr = w10.heap.size := ⟨_, rfl⟩
  refine gen2 (A := fun w4 => Blk w4.heap w10.heap.size [u8c f.1, u8c f.2, u8c g.1, u8c g.2] 163) (B := fun w4 => Fram none' w8 w4) (C := fun w4 => WC _ _ _ _ w4) hQ F12 ?_
  rw [← hqr]
  clear hQ F12 F11 hN11
  intro w12 hQ F12
  have hB12 := hB8.fram F12 (fun h => h)
  have hP12 := hP8.fram F12 (fun h => h)
  have hMa12 := hMa8.fram F12 (fun h => h)
  have hMo12 := hMo8.fram F12 (fun h => h)
  have hMk12 := hMk8.fram F12 (fun h => h)
  have hb12 := hb8.none F12
  have F012 : Fram (fun b => b = a ∨ b = o ∨ b = k ∨ vals3 la lo lk b) w1 w12 := F08.trans' F12 (fun _ _ h => h.elim)
  clear hB8 hP8 hMa8 hMo8 hMk8 hb8 F08 F12 F10 hG hP10 F8
  obtain ⟨q4, hq4⟩ : ∃ q4 : (UInt8 × UInt8) × (UInt8 × UInt8), q4 = (f, g) := ⟨_, rfl⟩
  have hq4v : k4c q4 = .agg #[u8c f.1, u8c f.2, u8c g.1, u8c g.2] := by rw [hq4]; rfl
  obtain ⟨oq, hoq⟩ : ∃ oq, oq = lookV lk q4 := ⟨_, rfl⟩
  have hKs : ∀ x, x ≠ q4 → idsK cls' x = idsK cls x := by
    intro x hx
    rw [hK', if_neg, List.append_nil]
    rintro ⟨h1, h2⟩
    rw [hg] at h2
    rcases h2 with h2 | h2
    · cases h2
    · injection h2 with h2
      exact hx (by rw [hq4, h1, h2])
  have hKa : idsK cls' q4 = idsK cls q4 ++ [n] := by
    rw [hK', if_pos]
    rw [hq4, hg]
    exact ⟨rfl, .inr rfl⟩
  have hOs : ∀ x, idsO cls' x = idsO cls x := by
    intro x
    rw [hO', if_neg, List.append_nil]
    rintro ⟨_, h2⟩
    rw [hg] at h2; cases h2
  have hLO' : lo.map (fun p => (p.2, idsO cls' p.1)) = LO := by rw [hLO]; exact List.map_congr_left (fun p _ => by rw [hOs])
  have hko' : ∀ x, x ∉ lo.map (·.1) → idsO cls' x = [] := fun x hx => by rw [hOs]; exact X.ko x hx
  have hsK : (idsK cls q4).length ≤ 100 := (sel_small (cls := cls) (by omega) _).1
  refine c_pi [(0, false), (1, false), (2, false), (3, false), (4, false), (5, false), (6, false), (7, false), (8, false), (9, false), (10, false)] (SameH w12.heap) mixed (by kernel_rfl) rfl (by kernel_rfl) (po_then (po_then (po_bp))) (rfl) ?_ -- region 6 prog.go:71
  refine pi_ro rfl (fun w hS => ro_move rfl) ?_
  refine pi_ro rfl (fun w hS => ro_nilCheck rfl) ?_
  refine pi_ro rfl (fun w hS => ro_fieldAddr (k := 3) rfl fo_74_3) ?_
  refine pi_ro rfl (fun w hS => ro_loadB rfl sc_71 (Blk.of_heap hB12 hS) rfl) ?_
  refine pi_ro rfl (fun w hS => ro_loadAggB rfl ag_163 (Blk.of_heap hQ hS) rfl rfl) ?_
  refine pi_ro rfl (fun w hS => (show RO _ _ _ _ _ (.tuple #[oq.getD (.slice none 0 0), .bool oq.isSome]) from hoq ▸ ro_lookup2 (kv := k4c) (a := q4) (l := lk) keyF rfl (by rw [hq4v]; rfl) mp_71 zr_159 (hMk12.of_heap hS))) ?_
  refine pi_ro rfl (fun w hS => ro_move rfl) ?_
  refine pi_ro rfl (fun w hS => ro_extract rfl rfl) ?_
  refine pi_ro rfl (fun w hS => ro_extract rfl rfl) ?_
  refine pi_ro rfl (fun w hS => ro_assign rfl) ?_
  refine pi_ro rfl (fun w hS => ro_assign rfl) ?_
  refine gen3 (A := fun w2 => Blk w2.heap pb [VC, .map (some a), .map (some o), .map (some k)] 74 ∧ Blk w2.heap pr [u8c f.1, u8c f.2] 157 ∧ Blk w2.heap qr [u8c f.1, u8c f.2, u8c g.1, u8c g.2] 163) (B := fun w2 => MapAt k2c w2.heap a la' ∧ MapAt k2c w2.heap o lo ∧ MapAt k4c w2.heap k lk ∧ BKS w2.heap (LA ++ (LO ++ LK))) (D := fun w2 => Fram (fun b => b = a ∨ b = o ∨ b = k ∨ vals3 la lo lk b) w1 w2) (C := fun w2 => WP _ _ _ _ _ _ w2) ⟨hB12, hP12, hQ⟩ ⟨hMa12, hMo12, hMk12, hb12⟩ (F012.trans (Fram.drew _ w12 (w12.drawn + 1))) ?_
  clear hB12 hP12 hQ hMa12 hMo12 hMk12 hb12 F012
  rintro w12 ⟨hB12, hP12, hQ⟩ ⟨hMa12, hMo12, hMk12, hb12⟩ F012
  have hsz12 := F012.size
  refine pi_nil (x_then (hK8 _ _ ?_))
  clear hK8 K8
  refine c_seq (fun K9 hK9 => ?_)
  refine c_seq (fun K10 hK10 => ?_)
  have hbK : BKS w12.heap (LK ++ (LA ++ LO)) := hb12.perm (by rw [← List.append_assoc]; exact List.perm_append_comm)
  have hVK : VNew (vals3 la lo lk) w1.heap.size (LK ++ (LA ++ LO)) := hV7.perm (fun p hp => .inr ⟨p, by simp only [List.mem_append] at hp ⊢; rcases hp with hp | hp | hp; exact .inr (.inr hp); exact .inl hp; exact .inr (.inl hp), rfl⟩)
  by_cases hoqn : oq = none
  · skip
    have hq4k : q4 ∉ lk.map (·.1) := lookV_none (by rw [← hoq]; exact hoqn)
    have hlk0 : look lk q4 = none := look_none.2 hq4k
    have hKo : idsK cls q4 = idsO cls f := by
      have := idsK_open (fun q hq => X.kk q4 hq4k q hq)
      rw [this, hq4]
    have hkk' : ∀ V (x : (UInt8 × UInt8) × (UInt8 × UInt8)), x ∉ (ups lk q4 V).map (·.1) → ∀ q ∈ cls', ¬ (prd2 q.2 = x.1 ∧ own2 q.2 = some x.2) := by
      intro V x hx q hq
      rw [mem_keys_ups] at hx
      rw [hcls'] at hq
      rcases List.mem_append.1 hq with hq | hq
      · exact X.kk x (fun h => hx (.inl h)) q hq
      · simp at hq
        rintro ⟨h1, h2⟩
        rw [hq] at h1 h2
        simp only at h1 h2
        rw [hg] at h2
        injection h2 with h2
        exact hx (.inr (by rw [hq4, hf, h1, h2]))
    obtain ⟨vo, hvo⟩ : ∃ vo, vo = (lookV lo f).getD (.slice none 0 0) := ⟨_, rfl⟩
    have hOv : Bk w12.heap vo (idsO cls f) := by
      rw [hvo]
      cases hl : lookV lo f with
      | none => rw [X.ko f (lookV_none hl)]; exact Bk.nil _
      | some v => exact hb12.bk (v, idsO cls f) (by rw [hLO]; exact List.mem_append.2 (.inr (List.mem_append.2 (.inl (List.mem_map.2 ⟨(f, v), look_mem hl, rfl⟩)))))
    have hOv' : Own w12.heap vo 110 1 (idsO cls f).length ((idsO cls f).map i8c) := hOv
    have hsO : (idsO cls f).length ≤ 100 := (sel_small (cls := cls) (by omega) _).1
    rw [hoqn]
    have hbackX : ∀ H' v', BKS H' ((v', idsK cls q4 ++ [n]) :: (LK ++ (LA ++ LO))) → BKS H' ((ups lk q4 v').map (fun p => (p.2, idsK cls' p.1)) ++ (LA ++ LO)) := fun H' v' h => bks_ins (ids := idsK cls) (ids' := idsK cls') hlk0 hKs (by rw [hKa, ← hLK]; exact h)
    refine c_reg ?_ -- region 7 prog.go:72
    refine wl (ro_move rfl) ?_
    refine wl (ro_not rfl) ?_
    refine wl_nil (x_then (hK10 _ _ ?_))
    clear hK10 K10
    refine wc_condT rfl ?_
    by_cases hO0 : idsO cls f = []
    · skip
      rw [hO0] at hOv'
      obtain ⟨ao, co, hvof⟩ := hOv'.form
      refine c_pi [(0, false), (1, false), (2, false), (3, false), (4, false), (5, false), (6, true), (7, false)] (fun w' => Blk w'.heap pb [VC, .map (some a), .map (some o), .map (some k)] 74 ∧ Blk w'.heap pr [u8c f.1, u8c f.2] 157 ∧ MapAt k2c w'.heap o lo) mixed (by kernel_rfl) rfl (by kernel_rfl) (po_then (po_then (po_bp))) (⟨hB12, hP12, hMo12⟩) ?_ -- region 8 prog.go:73
      refine pi_ro rfl (fun w hS => ro_move rfl) ?_
      refine pi_ro rfl (fun w hS => ro_nilCheck rfl) ?_
      refine pi_ro rfl (fun w hS => ro_fieldAddr (k := 2) rfl fo_74_2) ?_
      refine pi_ro rfl (fun w hS => ro_loadB rfl sc_70 (hS.1) rfl) ?_
      refine pi_ro rfl (fun w hS => ro_loadAggB rfl ag_157 (hS.2.1) rfl rfl) ?_
      refine pi_ro rfl (fun w hS => (show RO _ _ _ _ _ vo from hvo ▸ ro_lookup1 (kv := k2c) (a := f) (l := lo) keyP rfl rfl mp_70 zr_159 hS.2.2)) ?_
      refine pi_eo rfl (eo_app0 (a2 := ao) (c2 := co) rfl (by rw [hvof]; rfl) se_159 (by omega)) ⟨hB12, hP12, hMo12⟩ ?_
      skip
      refine pi_ro rfl (fun w hS => ro_assign rfl) ?_
      refine gen3 (A := fun w2 => Blk w2.heap pb [VC, .map (some a), .map (some o), .map (some k)] 74 ∧ Blk w2.heap qr [u8c f.1, u8c f.2, u8c g.1, u8c g.2] 163) (B := fun w2 => MapAt k2c w2.heap a la' ∧ MapAt k2c w2.heap o lo ∧ MapAt k4c w2.heap k lk ∧ BKS w2.heap ((.slice none 0 0, idsK cls q4) :: (LK ++ (LA ++ LO)))) (D := fun w2 => Fram (fun b => b = a ∨ b = o ∨ b = k ∨ vals3 la lo lk b) w1 w2) (C := fun w2 => WP _ _ _ _ _ _ w2) ⟨hB12, hQ⟩ ⟨hMa12, hMo12, hMk12, by rw [hKo, hO0]; exact ⟨fun p hp => by (rcases List.mem_cons.1 hp with rfl | hp); exact Bk.nil _; exact hbK.bk p hp, List.pairwise_cons.2 ⟨(fun p _ b hb => by cases hb), hbK.dj⟩⟩⟩ (F012.trans (Fram.drew _ w12 (w12.drawn + 1))) ?_
      clear hB12 hP12 hQ hMa12 hMo12 hMk12 hb12 F012 hbK hOv hOv'
      rintro w12 ⟨hB12, hQ⟩ ⟨hMa12, hMo12, hMk12, hb13⟩ F012
      have hsz12 := F012.size
      obtain ⟨vb, hvb⟩ : ∃ vb, vb = Value.slice none 0 0 := ⟨_, rfl⟩
      rw [← hvb] at hb13 ⊢
      have hVX : VNew (vals3 la lo lk) w1.heap.size ((vb, idsK cls q4) :: (LK ++ (LA ++ LO))) := by
        rintro b ⟨p, hp, hpb⟩
        rcases List.mem_cons.1 hp with rfl | hp
        · rw [hvb] at hpb; cases hpb
        · exact hVK b ⟨p, hp, hpb⟩
      obtain ⟨RX, hRX⟩ : ∃ RX, RX = LK ++ (LA ++ LO) := ⟨_, rfl⟩
      rw [← hRX] at hb13 hVX hbackX
      refine pi_nil (x_then (hK9 _ _ ?_))
      clear hK9 K9
      refine forget [(0, _), (1, _), (10, _), (11, _)] ⟨rfl, rfl, rfl, rfl, trivial⟩ (fun e => ?_)
      refine c_seq (fun K11 hK11 => ?_)
      refine c_piL 9 [(0, false), (1, false), (2, false), (3, false), (4, false), (5, false), (6, false), (7, true), (8, true)] (fun w' => Blk w'.heap pb [VC, .map (some a), .map (some o), .map (some k)] 74 ∧ Blk w'.heap qr [u8c f.1, u8c f.2, u8c g.1, u8c g.2] 163) mixed (by kernel_rfl) rfl (by kernel_rfl) (po_then (po_then (po_bp))) (⟨hB12, hQ⟩) ?_ -- region 9 prog.go:75
      refine ql_ro rfl (fun w hS => ro_move rfl) ?_
      refine ql_ro rfl (fun w hS => ro_nilCheck rfl) ?_
      refine ql_ro rfl (fun w hS => ro_fieldAddr (k := 3) rfl fo_74_3) ?_
      refine ql_ro rfl (fun w hS => ro_loadB rfl sc_71 (hS.1) rfl) ?_
      refine ql_ro rfl (fun w hS => ro_loadAggB rfl ag_163 (hS.2) rfl rfl) ?_
      refine ql_ro rfl (fun w hS => ro_move rfl) ?_
      refine ql_ro rfl (fun w hS => ro_move rfl) ?_
      refine ql_eo rfl (eo_bs1 rfl rfl se_159 zx_110 rfl rfl rfl) (⟨hB12.alloc _, hQ.alloc _⟩) ?_
      have hNs := Blk.new { w12 with drawn := w12.drawn + 1 } [i8c n] 110
      have FA : Fram none' w12 (World.alloc { w12 with drawn := w12.drawn + 1 } (.cells [i8c n].toArray 110)) := (Fram.drew none' w12 (w12.drawn + 1)).thenAlloc
      have hBA := hB12.fram FA (fun h => h)
      have hQA := hQ.fram FA (fun h => h)
      have hMaA := hMa12.fram FA (fun h => h)
      have hMoA := hMo12.fram FA (fun h => h)
      have hMkA := hMk12.fram FA (fun h => h)
      have hbA := hb13.none FA
      have hvA : Own (World.alloc { w12 with drawn := w12.drawn + 1 } (.cells [i8c n].toArray 110)).heap vb 110 1 (idsK cls q4).length ((idsK cls q4).map i8c) := hbA.bk (vb, idsK cls q4) (by simp)
      refine ql_app (news := [i8c n]) rfl rfl rfl se_159 zx_110 by_110 rfl hvA hNs rfl rfl (by simp [i8c, Value.oneCell']) (by omega) (by omega) ?_
      intro V15 w15 hown hgr hloc
      obtain ⟨hb15, F15⟩ := hbA.app hgr hloc hown
      have hV15 := hVX.app (y := idsK cls q4 ++ [n]) hloc (Nat.le_trans hsz12 FA.size)
      have hB15 := hBA.fram F15 (fun h => hvA.neblk hBA (by decide) _ h rfl)
      have hQ15 := hQA.fram F15 (fun h => hvA.neblk hQA (by decide) _ h rfl)
      have hMa15 := hMaA.fram F15 (fun h => hvA.nemap hMaA _ h rfl)
      have hMo15 := hMoA.fram F15 (fun h => hvA.nemap hMoA _ h rfl)
      have hMk15 := hMkA.fram F15 (fun h => hvA.nemap hMkA _ h rfl)
      have F015 : Fram (fun b => b = a ∨ b = o ∨ b = k ∨ vals3 la lo lk b) w1 w15 := (F012.trans' FA (fun _ _ h => h.elim)).trans' F15 (fun b hb h => by
        rcases hVX b ⟨(vb, idsK cls q4), by simp, h⟩ with h' | h'
        · exact .inr (.inr (.inr h'))
        · omega)
      refine ⟨⟨hB15, hQ15⟩, ?_⟩
      refine ql_lastMapUp (a := q4) (l := lk) rfl keyF rfl (by rw [hq4v]; rfl) rfl mp_71 hMk15 ?_
      intro w16 hMk16 F16
      have hB16 := hB15.fram F16 (fun h => hMk15.blk_ne hB15 h.symm)
      have hMa16 := hMa15.fram F16 (fun h => X.ak h)
      have hMo16 := hMo15.fram F16 (fun h => X.ok h)
      have hb16 := hbackX _ _ (hb15.map hMk15 F16)
      refine x_then (hK11 _ _ ?_)
      clear hK11 K11
      refine c_ret (x_thenR ?_)
      refine bp_ret Tryz.results52 rfl ?_
      refine ⟨la', lo, ups lk q4 V15, ⟨X.ao, X.ak, X.ok, hB16, hMa16, hMo16, hMk16, hna', X.no, nodup_ups X.nk, ?_, hka', hko', hkk' V15⟩, ?_, F015.trans (F16.mono (fun _ _ h => .inr (.inr (.inl h))))⟩
      · rw [← hLA, hLO']
        exact hb16.perm (by rw [← List.append_assoc LA]; exact List.perm_append_comm)
      · rintro b ⟨v, hv, hvb'⟩
        simp only [List.mem_append, List.mem_map] at hv
        rcases hv with ⟨q, hq, rfl⟩ | ⟨q, hq, rfl⟩ | ⟨q, hq, rfl⟩
        · exact hV7 b ⟨(q.2, idsA cls' q.1), List.mem_append.2 (.inl (by rw [hLA]; exact List.mem_map.2 ⟨q, hq, rfl⟩)), hvb'⟩
        · exact .inl ⟨q.2, List.mem_append.2 (.inr (List.mem_append.2 (.inl (List.mem_map.2 ⟨q, hq, rfl⟩)))), hvb'⟩
        · rcases ups_vals q hq with h | h
          · exact hV15 b ⟨_, List.mem_cons_self, by rw [← h]; exact hvb'⟩
          · exact .inl ⟨q.2, List.mem_append.2 (.inr (List.mem_append.2 (.inr (List.mem_map.2 ⟨q, h, rfl⟩)))), hvb'⟩
    · skip
      obtain ⟨go, co, lo1, hvof, hBo, hco1, hco2, hlo1, hlo2⟩ := hOv'.pos (List.length_pos_iff.2 hO0)
      refine c_pi [(0, false), (1, false), (2, false), (3, false), (4, false), (5, false), (6, true), (7, false)] (fun w' => Blk w'.heap pb [VC, .map (some a), .map (some o), .map (some k)] 74 ∧ Blk w'.heap pr [u8c f.1, u8c f.2] 157 ∧ MapAt k2c w'.heap o lo) mixed (by kernel_rfl) rfl (by kernel_rfl) (po_then (po_then (po_bp))) (⟨hB12, hP12, hMo12⟩) ?_ -- region 8 prog.go:73
      refine pi_ro rfl (fun w hS => ro_move rfl) ?_
      refine pi_ro rfl (fun w hS => ro_nilCheck rfl) ?_
      refine pi_ro rfl (fun w hS => ro_fieldAddr (k := 2) rfl fo_74_2) ?_
      refine pi_ro rfl (fun w hS => ro_loadB rfl sc_70 (hS.1) rfl) ?_
      refine pi_ro rfl (fun w hS => ro_loadAggB rfl ag_157 (hS.2.1) rfl rfl) ?_
      refine pi_ro rfl (fun w hS => (show RO _ _ _ _ _ vo from hvo ▸ ro_lookup1 (kv := k2c) (a := f) (l := lo) keyP rfl rfl mp_70 zr_159 hS.2.2)) ?_
      refine pi_app (v := .slice none 0 0) (news := (idsO cls f).map i8c) rfl rfl (by rw [hvof]; rfl) se_159 zx_110 by_110 rfl (Own.nil _ _ _) (w := { w12 with drawn := w12.drawn + 1 }) hBo (by rw [List.drop_zero]; exact hlo2) (by simp) (by simp [i8c, Value.oneCell']) (by omega) (by omega) ?_
      intro Vc w13 hown hgr hloc
      have FC : Fram none' { w12 with drawn := w12.drawn + 1 } w13 := (Fram.grown hgr (fun k hk => .inl hk) : Fram (fun b => (Value.slice none 0 0).ownBlock = some b) _ w13).mono (fun k _ hx => by cases hx)
      have FC12 : Fram none' w12 w13 := (Fram.drew none' w12 (w12.drawn + 1)).trans FC
      have hcf : ∀ b, Vc.ownBlock = some b → b = w12.heap.size := by
        intro b hb
        rcases hloc with h | h
        · rw [h] at hb; cases hb
        · rw [h] at hb; cases hb; rfl
      have hb13 : BKS w13.heap ((Vc, idsK cls q4) :: (LK ++ (LA ++ LO))) := by
        have hbK13 := hbK.none FC12
        refine ⟨fun p hp => ?_, List.pairwise_cons.2 ⟨?_, hbK13.dj⟩⟩
        · rcases List.mem_cons.1 hp with rfl | hp
          · unfold Bk
            rw [hKo]
            simpa using hown
          · exact hbK13.bk p hp
        · intro p hp b hb hx
          have h1 := hcf b hb
          have h2 := Own.lt (hbK.bk p hp) hx
          omega
      have hB13 := hB12.fram FC12 (fun h => h)
      have hP13 := hP12.fram FC12 (fun h => h)
      have hMo13 := hMo12.fram FC12 (fun h => h)
      have hA13 := hMa12.fram FC12 (fun h => h)
      have hK13 := hMk12.fram FC12 (fun h => h)
      have hQ13 := hQ.fram FC12 (fun h => h)
      have hVX : VNew (vals3 la lo lk) w1.heap.size ((Vc, idsK cls q4) :: (LK ++ (LA ++ LO))) := by
        rintro b ⟨p, hp, hpb⟩
        rcases List.mem_cons.1 hp with rfl | hp
        · exact .inr (by have := hcf b hpb; omega)
        · exact hVK b ⟨p, hp, hpb⟩
      have F013 := F012.trans' FC12 (fun _ _ h => h.elim)
      refine ⟨⟨hB13, hP13, hMo13⟩, ?_⟩
      clear hB12 hP12 hQ hMa12 hMo12 hMk12 hb12 F012 hbK hOv hOv' hgr hown hloc FC FC12
      obtain ⟨RX, hRX⟩ : ∃ RX, RX = LK ++ (LA ++ LO) := ⟨_, rfl⟩
      rw [← hRX] at hb13 hVX hbackX
      refine gen3 (A := fun w2 => Blk w2.heap pb [VC, .map (some a), .map (some o), .map (some k)] 74 ∧ Blk w2.heap qr [u8c f.1, u8c f.2, u8c g.1, u8c g.2] 163) (B := fun w2 => MapAt k2c w2.heap a la' ∧ MapAt k2c w2.heap o lo ∧ MapAt k4c w2.heap k lk ∧ BKS w2.heap ((Vc, idsK cls q4) :: RX)) (D := fun w2 => Fram (fun b => b = a ∨ b = o ∨ b = k ∨ vals3 la lo lk b) w1 w2) (C := fun w2 => WP _ _ _ _ _ _ w2) ⟨hB13, hQ13⟩ ⟨hA13, hMo13, hK13, hb13⟩ F013 ?_
      clear hB13 hP13 hMo13 hA13 hK13 hQ13 hb13 F013
      rintro w12 ⟨hB12, hQ⟩ ⟨hMa12, hMo12, hMk12, hb13⟩ F012
      have hsz12 := F012.size
      obtain ⟨vb, hvb⟩ : ∃ vb, vb = Vc := ⟨_, rfl⟩
      rw [← hvb] at hb13 hVX ⊢
      refine pi_ro rfl (fun w hS => ro_assign rfl) ?_
      refine pi_nil (x_then (hK9 _ _ ?_))
      clear hK9 K9
      refine forget [(0, _), (1, _), (10, _), (11, _)] ⟨rfl, rfl, rfl, rfl, trivial⟩ (fun e => ?_)
      refine c_seq (fun K12 hK12 => ?_)
      refine c_piL 9 [(0, false), (1, false), (2, false), (3, false), (4, false), (5, false), (6, false), (7, true), (8, true)] (fun w' => Blk w'.heap pb [VC, .map (some a), .map (some o), .map (some k)] 74 ∧ Blk w'.heap qr [u8c f.1, u8c f.2, u8c g.1, u8c g.2] 163) mixed (by kernel_rfl) rfl (by kernel_rfl) (po_then (po_then (po_bp))) (⟨hB12, hQ⟩) ?_ -- region 9 prog.go:75
      refine ql_ro rfl (fun w hS => ro_move rfl) ?_
      refine ql_ro rfl (fun w hS => ro_nilCheck rfl) ?_
      refine ql_ro rfl (fun w hS => ro_fieldAddr (k := 3) rfl fo_74_3) ?_
      refine ql_ro rfl (fun w hS => ro_loadB rfl sc_71 (hS.1) rfl) ?_
      refine ql_ro rfl (fun w hS => ro_loadAggB rfl ag_163 (hS.2) rfl rfl) ?_
      refine ql_ro rfl (fun w hS => ro_move rfl) ?_
      refine ql_ro rfl (fun w hS => ro_move rfl) ?_
      refine ql_eo rfl (eo_bs1 rfl rfl se_159 zx_110 rfl rfl rfl) (⟨hB12.alloc _, hQ.alloc _⟩) ?_
      have hNs := Blk.new { w12 with drawn := w12.drawn + 1 } [i8c n] 110
      have FA : Fram none' w12 (World.alloc { w12 with drawn := w12.drawn + 1 } (.cells [i8c n].toArray 110)) := (Fram.drew none' w12 (w12.drawn + 1)).thenAlloc
      have hBA := hB12.fram FA (fun h => h)
      have hQA := hQ.fram FA (fun h => h)
      have hMaA := hMa12.fram FA (fun h => h)
      have hMoA := hMo12.fram FA (fun h => h)
      have hMkA := hMk12.fram FA (fun h => h)
      have hbA := hb13.none FA
      have hvA : Own (World.alloc { w12 with drawn := w12.drawn + 1 } (.cells [i8c n].toArray 110)).heap vb 110 1 (idsK cls q4).length ((idsK cls q4).map i8c) := hbA.bk (vb, idsK cls q4) (by simp)
      refine ql_app (news := [i8c n]) rfl rfl rfl se_159 zx_110 by_110 rfl hvA hNs rfl rfl (by simp [i8c, Value.oneCell']) (by omega) (by omega) ?_
      intro V15 w15 hown hgr hloc
      obtain ⟨hb15, F15⟩ := hbA.app hgr hloc hown
      have hV15 := hVX.app (y := idsK cls q4 ++ [n]) hloc (Nat.le_trans hsz12 FA.size)
      have hB15 := hBA.fram F15 (fun h => hvA.neblk hBA (by decide) _ h rfl)
      have hQ15 := hQA.fram F15 (fun h => hvA.neblk hQA (by decide) _ h rfl)
      have hMa15 := hMaA.fram F15 (fun h => hvA.nemap hMaA _ h rfl)
      have hMo15 := hMoA.fram F15 (fun h => hvA.nemap hMoA _ h rfl)
      have hMk15 := hMkA.fram F15 (fun h => hvA.nemap hMkA _ h rfl)
      have F015 : Fram (fun b => b = a ∨ b = o ∨ b = k ∨ vals3 la lo lk b) w1 w15 := (F012.trans' FA (fun _ _ h => h.elim)).trans' F15 (fun b hb h => by
        rcases hVX b ⟨(vb, idsK cls q4), by simp, h⟩ with h' | h'
        · exact .inr (.inr (.inr h'))
        · omega)
      refine ⟨⟨hB15, hQ15⟩, ?_⟩
      refine ql_lastMapUp (a := q4) (l := lk) rfl keyF rfl (by rw [hq4v]; rfl) rfl mp_71 hMk15 ?_
      intro w16 hMk16 F16
      have hB16 := hB15.fram F16 (fun h => hMk15.blk_ne hB15 h.symm)
      have hMa16 := hMa15.fram F16 (fun h => X.ak h)
      have hMo16 := hMo15.fram F16 (fun h => X.ok h)
      have hb16 := hbackX _ _ (hb15.map hMk15 F16)
      refine x_then (hK12 _ _ ?_)
      clear hK12 K12
      refine c_ret (x_thenR ?_)
      refine bp_ret Tryz.results52 rfl ?_
      refine ⟨la', lo, ups lk q4 V15, ⟨X.ao, X.ak, X.ok, hB16, hMa16, hMo16, hMk16, hna', X.no, nodup_ups X.nk, ?_, hka', hko', hkk' V15⟩, ?_, F015.trans (F16.mono (fun _ _ h => .inr (.inr (.inl h))))⟩
      · rw [← hLA, hLO']
        exact hb16.perm (by rw [← List.append_assoc LA]; exact List.perm_append_comm)
      · rintro b ⟨v, hv, hvb'⟩
        simp only [List.mem_append, List.mem_map] at hv
        rcases hv with ⟨q, hq, rfl⟩ | ⟨q, hq, rfl⟩ | ⟨q, hq, rfl⟩
        · exact hV7 b ⟨(q.2, idsA cls' q.1), List.mem_append.2 (.inl (by rw [hLA]; exact List.mem_map.2 ⟨q, hq, rfl⟩)), hvb'⟩
        · exact .inl ⟨q.2, List.mem_append.2 (.inr (List.mem_append.2 (.inl (List.mem_map.2 ⟨q, hq, rfl⟩)))), hvb'⟩
        · rcases ups_vals q hq with h | h
          · exact hV15 b ⟨_, List.mem_cons_self, by rw [← h]; exact hvb'⟩
          · exact .inl ⟨q.2, List.mem_append.2 (.inr (List.mem_append.2 (.inr (List.mem_map.2 ⟨q, h, rfl⟩)))), hvb'⟩
  · skip
    obtain ⟨vq, hvq⟩ : ∃ vq, oq = some vq := by
      cases hx : oq with
      | none => exact absurd hx hoqn
      | some v => exact ⟨v, rfl⟩
    have hlkq : lookV lk q4 = some vq := by rw [← hoq]; exact hvq
    have hq4k : q4 ∈ lk.map (·.1) := List.mem_map.2 ⟨(q4, vq), look_mem hlkq, rfl⟩
    have hkk' : ∀ V (x : (UInt8 × UInt8) × (UInt8 × UInt8)), x ∉ (ups lk q4 V).map (·.1) → ∀ q ∈ cls', ¬ (prd2 q.2 = x.1 ∧ own2 q.2 = some x.2) := by
      intro V x hx q hq
      rw [mem_keys_ups] at hx
      rw [hcls'] at hq
      rcases List.mem_append.1 hq with hq | hq
      · exact X.kk x (fun h => hx (.inl h)) q hq
      · simp at hq
        rintro ⟨h1, h2⟩
        rw [hq] at h1 h2
        simp only at h1 h2
        rw [hg] at h2
        injection h2 with h2
        exact hx (.inr (by rw [hq4, hf, h1, h2]))
    have hbK2 := hbK
    rw [hLK] at hbK2
    obtain ⟨rest2, hb13, hrest2, hback2⟩ := bks_up (ids := idsK cls) (ids' := idsK cls') (a := q4) (n := n) hbK2 X.nk (fun h => absurd hq4k h) hKs hKa
    rw [hlkq, Option.getD_some] at hb13
    rw [hvq, Option.getD_some]
    have hVX : VNew (vals3 la lo lk) w1.heap.size ((vq, idsK cls q4) :: (rest2 ++ (LA ++ LO))) := by
      rintro b ⟨p, hp, hpb⟩
      rcases List.mem_cons.1 hp with rfl | hp
      · exact .inl ⟨vq, List.mem_append.2 (.inr (List.mem_append.2 (.inr (List.mem_map.2 ⟨(q4, vq), look_mem hlkq, rfl⟩)))), hpb⟩
      · rcases List.mem_append.1 hp with hp | hp
        · exact hVK b ⟨p, List.mem_append.2 (.inl (by rw [hLK]; exact hrest2 p hp)), hpb⟩
        · exact hVK b ⟨p, List.mem_append.2 (.inr hp), hpb⟩
    obtain ⟨RX, hRX⟩ : ∃ RX, RX = rest2 ++ (LA ++ LO) := ⟨_, rfl⟩
    have hbackX := hback2
    rw [← hRX] at hb13 hVX hbackX
    obtain ⟨vb, hvb⟩ : ∃ vb, vb = vq := ⟨_, rfl⟩
    rw [← hvb] at hb13 hVX ⊢
    refine c_reg ?_ -- region 7 prog.go:72
    refine wl (ro_move rfl) ?_
    refine wl (ro_not rfl) ?_
    refine wl_nil (x_then (hK10 _ _ ?_))
    clear hK10 K10
    refine wc_condF rfl ?_
    refine c_skip (x_then (hK9 _ _ ?_))
    clear hK9 K9
    refine forget [(0, _), (1, _), (10, _), (11, _)] ⟨rfl, rfl, rfl, rfl, trivial⟩ (fun e => ?_)
    refine c_seq (fun K13 hK13 => ?_)
    refine c_piL 9 [(0, false), (1, false), (2, false), (3, false), (4, false), (5, false), (6, false), (7, true), (8, true)] (fun w' => Blk w'.heap pb [VC, .map (some a), .map (some o), .map (some k)] 74 ∧ Blk w'.heap qr [u8c f.1, u8c f.2, u8c g.1, u8c g.2] 163) mixed (by kernel_rfl) rfl (by kernel_rfl) (po_then (po_then (po_bp))) (⟨hB12, hQ⟩) ?_ -- region 9 prog.go:75
    refine ql_ro rfl (fun w hS => ro_move rfl) ?_
    refine ql_ro rfl (fun w hS => ro_nilCheck rfl) ?_
    refine ql_ro rfl (fun w hS => ro_fieldAddr (k := 3) rfl fo_74_3) ?_
    refine ql_ro rfl (fun w hS => ro_loadB rfl sc_71 (hS.1) rfl) ?_
    refine ql_ro rfl (fun w hS => ro_loadAggB rfl ag_163 (hS.2) rfl rfl) ?_
    refine ql_ro rfl (fun w hS => ro_move rfl) ?_
    refine ql_ro rfl (fun w hS => ro_move rfl) ?_
    refine ql_eo rfl (eo_bs1 rfl rfl se_159 zx_110 rfl rfl rfl) (⟨hB12.alloc _, hQ.alloc _⟩) ?_
    have hNs := Blk.new { w12 with drawn := w12.drawn + 1 } [i8c n] 110
    have FA : Fram none' w12 (World.alloc { w12 with drawn := w12.drawn + 1 } (.cells [i8c n].toArray 110)) := (Fram.drew none' w12 (w12.drawn + 1)).thenAlloc
    have hBA := hB12.fram FA (fun h => h)
    have hQA := hQ.fram FA (fun h => h)
    have hMaA := hMa12.fram FA (fun h => h)
    have hMoA := hMo12.fram FA (fun h => h)
    have hMkA := hMk12.fram FA (fun h => h)
    have hbA := hb13.none FA
    have hvA : Own (World.alloc { w12 with drawn := w12.drawn + 1 } (.cells [i8c n].toArray 110)).heap vb 110 1 (idsK cls q4).length ((idsK cls q4).map i8c) := hbA.bk (vb, idsK cls q4) (by simp)
    refine ql_app (news := [i8c n]) rfl rfl rfl se_159 zx_110 by_110 rfl hvA hNs rfl rfl (by simp [i8c, Value.oneCell']) (by omega) (by omega) ?_
    intro V15 w15 hown hgr hloc
    obtain ⟨hb15, F15⟩ := hbA.app hgr hloc hown
    have hV15 := hVX.app (y := idsK cls q4 ++ [n]) hloc (Nat.le_trans hsz12 FA.size)
    have hB15 := hBA.fram F15 (fun h => hvA.neblk hBA (by decide) _ h rfl)
    have hQ15 := hQA.fram F15 (fun h => hvA.neblk hQA (by decide) _ h rfl)
    have hMa15 := hMaA.fram F15 (fun h => hvA.nemap hMaA _ h rfl)
    have hMo15 := hMoA.fram F15 (fun h => hvA.nemap hMoA _ h rfl)
    have hMk15 := hMkA.fram F15 (fun h => hvA.nemap hMkA _ h rfl)
    have F015 : Fram (fun b => b = a ∨ b = o ∨ b = k ∨ vals3 la lo lk b) w1 w15 := (F012.trans' FA (fun _ _ h => h.elim)).trans' F15 (fun b hb h => by
      rcases hVX b ⟨(vb, idsK cls q4), by simp, h⟩ with h' | h'
      · exact .inr (.inr (.inr h'))
      · omega)
    refine ⟨⟨hB15, hQ15⟩, ?_⟩
    refine ql_lastMapUp (a := q4) (l := lk) rfl keyF rfl (by rw [hq4v]; rfl) rfl mp_71 hMk15 ?_
    intro w16 hMk16 F16
    have hB16 := hB15.fram F16 (fun h => hMk15.blk_ne hB15 h.symm)
    have hMa16 := hMa15.fram F16 (fun h => X.ak h)
    have hMo16 := hMo15.fram F16 (fun h => X.ok h)
    have hb16 := hbackX _ _ (hb15.map hMk15 F16)
    refine x_then (hK13 _ _ ?_)
    clear hK13 K13
    refine c_ret (x_thenR ?_)
    refine bp_ret Tryz.results52 rfl ?_
    refine ⟨la', lo, ups lk q4 V15, ⟨X.ao, X.ak, X.ok, hB16, hMa16, hMo16, hMk16, hna', X.no, nodup_ups X.nk, ?_, hka', hko', hkk' V15⟩, ?_, F015.trans (F16.mono (fun _ _ h => .inr (.inr (.inl h))))⟩
    · rw [← hLA, hLO']
      exact hb16.perm (by rw [← List.append_assoc LA]; exact List.perm_append_comm)
    · rintro b ⟨v, hv, hvb'⟩
      simp only [List.mem_append, List.mem_map] at hv
      rcases hv with ⟨q, hq, rfl⟩ | ⟨q, hq, rfl⟩ | ⟨q, hq, rfl⟩
      · exact hV7 b ⟨(q.2, idsA cls' q.1), List.mem_append.2 (.inl (by rw [hLA]; exact List.mem_map.2 ⟨q, hq, rfl⟩)), hvb'⟩
      · exact .inl ⟨q.2, List.mem_append.2 (.inr (List.mem_append.2 (.inl (List.mem_map.2 ⟨q, hq, rfl⟩)))), hvb'⟩
      · rcases ups_vals q hq with h | h
        · exact hV15 b ⟨_, List.mem_cons_self, by rw [← h]; exact hvb'⟩
        · exact .inl ⟨q.2, List.mem_append.2 (.inr (List.mem_append.2 (.inr (List.mem_map.2 ⟨q, h, rfl⟩)))), hvb'⟩

end Go.Proofs.Qxb6500569aGreat
