import Derived.Test.Qxb6500569aGreatVm
/- The real program: Add. -/
namespace Go.Proofs.Qxb6500569aGreat
set_option linter.unusedVariables false
set_option linter.unusedSimpArgs false

def TreeT (H : Array Obj) (b : Nat) : Prop := ∃ l t, Blk H b l t ∧ (t = 174 ∨ t = 193 ∨ t = 195)

theorem CallB.tys {T : Value → TI → Prop} {H : Array Obj} {cb : Nat} {c : UInt8} {VA : Value} {ks : List (Value × TI)} {B : List Nat} (h : CallB T H cb c VA ks B) (hT : ∀ v i, T v i → ∀ b ∈ i.B, TreeT H b) : ∀ b ∈ B, TreeT H b := by
  intro b hb
  rw [h.bs] at hb
  simp only [List.mem_cons, List.mem_append, List.mem_flatMap] at hb
  rcases hb with rfl | hb | ⟨k, hk, hb⟩
  · exact ⟨_, _, h.blk, .inr (.inl rfl)⟩
  · unfold blkB at hb
    split at hb
    · rename_i b' hb'
      simp at hb; subst hb
      rcases h.own.2 with ⟨h1, _⟩ | ⟨g, cap, l, h1, h2, _⟩
      · rw [h1] at hb'; cases hb'
      · rw [h1] at hb'; cases hb'
        exact ⟨_, _, h2, .inr (.inr rfl)⟩
    · cases hb
  · exact hT _ _ (h.kids k hk) b hb

theorem TAt.tys : ∀ {d : Nat} {H : Array Obj} {v : Value} {i : TI}, TAt d H v i → ∀ b ∈ i.B, TreeT H b
  | 0, _, _, _, h => h.elim
  | d + 1, H, v, i, h => by
    rcases h with ⟨c, n, _, _, rfl⟩ | ⟨_, rfl⟩ | ⟨cb, c, VA, ks, h1, h2, h3⟩
    · intro b hb; cases hb
    · intro b hb; cases hb
    · exact h2.tys (fun v i h => TAt.tys h)

theorem ClAt.tys {H : Array Obj} {clb : Nat} {q : Bool} {s code : List UInt8} {Bs : List Nat} (h : ClAt H clb q s code Bs) : ∀ b ∈ Bs, TreeT H b := by
  obtain ⟨rtb, VA, ks, B, h1, h2, h3, h4, h5, h6, h8, h7⟩ := h
  intro b hb
  rw [h7] at hb
  rcases List.mem_cons.1 hb with rfl | hb
  · exact ⟨_, _, h1, .inl rfl⟩
  · exact h2.tys (fun v i h => h.tys) b hb

theorem TreeT.blk {H : Array Obj} {b t : Nat} {l : List Value} (h : TreeT H b) (hb : Blk H b l t) : t = 174 ∨ t = 193 ∨ t = 195 := by
  obtain ⟨l', t', h1, h2⟩ := h
  have := h1.symm.trans hb
  injection this with this
  injection this with _ this
  rw [← this]; exact h2

theorem TreeT.map {α : Type} [DecidableEq α] {kv : α → Value} {H : Array Obj} {b : Nat} {l : List (α × Value)} (h : TreeT H b) (hm : MapAt kv H b l) : False := by
  obtain ⟨l', t', h1, h2⟩ := h
  exact hm.blk_ne h1 rfl

theorem TreeT.own {H : Array Obj} {v : Value} {e k n b : Nat} {xs : List Value} (h : TreeT H b) (ho : Own H v e k n xs) (hv : v.ownBlock = some b) (he : e ≠ 174 ∧ e ≠ 193 ∧ e ≠ 195) : False := by
  rcases ho.2 with ⟨h1, _⟩ | ⟨g, cap, l, h1, h2, _⟩
  · rw [h1] at hv; cases hv
  · rw [h1] at hv; cases hv
    rcases h.blk h2 with h | h | h
    · exact he.1 h
    · exact he.2.1 h
    · exact he.2.2 h

theorem enter52 {w : World} {pb : Nat} {VC : Value} {a o k : Nat} {cls : List Cl2} {la lo : List (K2 × Value)} {lk : List (K4 × Value)} (X : IX w.heap pb VC a o k cls la lo lk) {clb : Nat} {s code : List UInt8} {Bs : List Nat} (hCl : ClAt w.heap clb false s code Bs) (hBs : ∀ b ∈ Bs, ¬ (b = a ∨ b = o ∨ b = k) ∧ ¬ vals3 la lo lk b) (h7 : cls.length ≤ 7) :
    Ret Tryz.prog 52 [ptr pb, i8c cls.length, ptr clb] w (fun _ w' => EntPost pb VC a o k (cls ++ [(s, code)]) la lo lk w w') := by
  cases hg : own2 code with
  | none => exact enter52o X hCl hBs h7 hg
  | some g => exact enter52k X hCl hBs h7 hg

def ext (F : Nat → Prop) (w w' : World) : Nat → Prop := fun b => F b ∨ (w.heap.size ≤ b ∧ b < w'.heap.size)

theorem vals3_mem {H : Array Obj} {cls : List Cl2} {la lo : List (K2 × Value)} {lk : List (K4 × Value)} (h : BKS H (la.map (fun p => (p.2, idsA cls p.1)) ++ (lo.map (fun p => (p.2, idsO cls p.1)) ++ lk.map (fun p => (p.2, idsK cls p.1))))) {b : Nat} (hb : vals3 la lo lk b) : ∃ v ids, Bk H v ids ∧ v.ownBlock = some b := by
  obtain ⟨v, hv, hvb⟩ := hb
  simp only [List.mem_append, List.mem_map] at hv
  rcases hv with ⟨q, hq, rfl⟩ | ⟨q, hq, rfl⟩ | ⟨q, hq, rfl⟩
  · exact ⟨_, _, h.bk (q.2, idsA cls q.1) (List.mem_append.2 (.inl (List.mem_map.2 ⟨q, hq, rfl⟩))), hvb⟩
  · exact ⟨_, _, h.bk (q.2, idsO cls q.1) (List.mem_append.2 (.inr (List.mem_append.2 (.inl (List.mem_map.2 ⟨q, hq, rfl⟩))))), hvb⟩
  · exact ⟨_, _, h.bk (q.2, idsK cls q.1) (List.mem_append.2 (.inr (List.mem_append.2 (.inr (List.mem_map.2 ⟨q, hq, rfl⟩))))), hvb⟩

theorem Add27 {w : World} {pb : Nat} {cls : List Cl2} {F : Nat → Prop} (M : PrX w.heap pb cls F) (ok : POK cls) (text : List UInt8) (hbig : text.length ≤ 4000000000) :
    Ret Tryz.prog 27 [ptr pb, S text] w (fun r w' => r = addV cls text ∧ PrX w'.heap pb (addC cls text) (ext F w w') ∧ Fram F w w') := by
  have h8 := ok.n8
  have hup : ∀ {w' : World}, Fram none' w w' → PrX w'.heap pb cls (ext F w w') := by
    intro w' hF
    obtain ⟨VC, clbs, ra, la, lo, lk, M⟩ := M
    exact ⟨VC, clbs, ra, la, lo, lk, (M.fram hF (fun _ _ h => h)).up (fun b h => .inl h)⟩
  by_cases hl : 40 < text.length
  · have e1 : addV cls text = .tuple #[.int .i64 (-1), i64c 1] := by unfold addV; rw [if_pos hl]
    have e2 : addC cls text = cls := by unfold addC; rw [if_pos hl]
    rw [e1, e2]
    refine ret_of Tryz.func27 rfl Tryz.ntmps27 rfl ?_
    refine c_seq (fun K1 hK1 => ?_)
    refine c_reg ?_ -- region 0 prog.go:44
    refine wl (ro_assign rfl) ?_
    refine wl (ro_assign rfl) ?_
    refine wl_nil (x_then (hK1 _ _ ?_))
    clear hK1 K1
    refine c_seq (fun K2 hK2 => ?_)
    refine c_seq (fun K3 hK3 => ?_)
    refine c_reg ?_ -- region 1 prog.go:45
    refine wl (ro_move rfl) ?_
    refine wl (ro_lenS rfl st_9) ?_
    refine wl (ro_cmp (r := true) rfl rfl (by simp; omega)) ?_
    refine wl_nil (x_then (hK3 _ _ ?_))
    clear hK3 K3
    refine wc_condT rfl ?_
    refine c_seq (fun K4 hK4 => ?_)
    refine c_reg ?_ -- region 2 prog.go:46
    refine wl (ro_assign rfl) ?_
    refine wl (ro_assign rfl) ?_
    refine wl_nil (x_then (hK4 _ _ ?_))
    clear hK4 K4
    refine c_ret (x_thenR ?_)
    refine bp_ret Tryz.results27 rfl ?_
    exact ⟨rfl, hup (Fram.refl _ _), Fram.refl _ _⟩
  · have hp := parse51 (w := w) (s := text) (by omega) false
    cases hc : compS text false with
    | none =>
      have hp' : Ret Tryz.prog 51 [S text, .bool false] w (fun v w' => (∃ b, v = .tuple #[.pointer none, .iface 147 (ptr b)]) ∧ Fram none' w w') := hp.mono (by
        rintro v w' ⟨hF, ⟨code, clb, Bs, h1, _⟩ | ⟨_, h2⟩⟩
        · rw [hc] at h1; cases h1
        · exact ⟨h2, hF⟩)
      have e1 : addV cls text = .tuple #[.int .i64 (-1), i64c 5] := by unfold addV; rw [if_neg hl, hc]
      have e2 : addC cls text = cls := by unfold addC; rw [if_neg hl, hc]
      rw [e1, e2]
      refine ret_of Tryz.func27 rfl Tryz.ntmps27 rfl ?_
      refine c_seq (fun K1 hK1 => ?_)
      refine c_reg ?_ -- region 0 prog.go:44
      refine wl (ro_assign rfl) ?_
      refine wl (ro_assign rfl) ?_
      refine wl_nil (x_then (hK1 _ _ ?_))
      clear hK1 K1
      refine c_seq (fun K2 hK2 => ?_)
      refine c_seq (fun K3 hK3 => ?_)
      refine c_reg ?_ -- region 1 prog.go:45
      refine wl (ro_move rfl) ?_
      refine wl (ro_lenS rfl st_9) ?_
      refine wl (ro_cmp (r := false) rfl rfl (by simp; omega)) ?_
      refine wl_nil (x_then (hK3 _ _ ?_))
      clear hK3 K3
      refine wc_condF rfl ?_
      refine c_skip (x_then (hK2 _ _ ?_))
      clear hK2 K2
      refine forget [(0, _), (1, _)] ⟨rfl, rfl, trivial⟩ (fun e => ?_)
      refine c_seq (fun K4 hK4 => ?_)
      refine c_reg ?_ -- region 3 prog.go:48
      refine wl (ro_move rfl) ?_
      refine wl_call rfl en_51 (hp') ?_
      rintro _ w1 ⟨⟨b, rfl⟩, F1⟩
      refine wl (ro_move rfl) ?_
      refine wl (ro_extract rfl rfl) ?_
      refine wl (ro_extract rfl rfl) ?_
      refine wl (ro_assign rfl) ?_
      refine wl (ro_assign rfl) ?_
      refine wl_nil (x_then (hK4 _ _ ?_))
      clear hK4 K4
      refine c_seq (fun K5 hK5 => ?_)
      refine c_seq (fun K6 hK6 => ?_)
      refine c_reg ?_ -- region 4 prog.go:49
      refine wl (ro_move rfl) ?_
      refine wl (ro_neqNilI rfl if_106) ?_
      refine wl_nil (x_then (hK6 _ _ ?_))
      clear hK6 K6
      refine wc_condT rfl ?_
      refine c_seq (fun K7 hK7 => ?_)
      refine c_reg ?_ -- region 5 prog.go:50
      refine wl (ro_assign rfl) ?_
      refine wl (ro_assign rfl) ?_
      refine wl_nil (x_then (hK7 _ _ ?_))
      clear hK7 K7
      refine c_ret (x_thenR ?_)
      refine bp_ret Tryz.results27 rfl ?_
      exact ⟨rfl, hup F1, F1.mono (fun _ _ h => h.elim)⟩
    | some code =>
      have hp' : Ret Tryz.prog 51 [S text, .bool false] w (fun v w' => ∃ clb Bs, v = .tuple #[ptr clb, .nilIface] ∧ ClAt w'.heap clb false text code Bs ∧ (∀ b ∈ Bs, w.heap.size ≤ b) ∧ Fram none' w w') := hp.mono (by
        rintro v w' ⟨hF, ⟨code', clb, Bs, h1, h2, h3, h4⟩ | ⟨h1, _⟩⟩
        · rw [hc] at h1; cases h1
          exact ⟨clb, Bs, h2, h3, h4, hF⟩
        · rw [hc] at h1; cases h1)
      obtain ⟨VC, clbs, ra, la, lo, lk, Mm⟩ := M
      obtain ⟨a0, cap0, rfl⟩ := Mm.own.form
      by_cases h8' : 8 ≤ cls.length
      · have e1 : addV cls text = .tuple #[.int .i64 (-1), i64c 6] := by unfold addV; rw [if_neg hl, hc]; simp only [h8', if_true]
        have e2 : addC cls text = cls := by unfold addC; rw [if_neg hl, hc]; simp only [h8', if_true]
        rw [e1, e2]
        refine ret_of Tryz.func27 rfl Tryz.ntmps27 rfl ?_
        refine c_seq (fun K1 hK1 => ?_)
        refine c_reg ?_ -- region 0 prog.go:44
        refine wl (ro_assign rfl) ?_
        refine wl (ro_assign rfl) ?_
        refine wl_nil (x_then (hK1 _ _ ?_))
        clear hK1 K1
        refine c_seq (fun K2 hK2 => ?_)
        refine c_seq (fun K3 hK3 => ?_)
        refine c_reg ?_ -- region 1 prog.go:45
        refine wl (ro_move rfl) ?_
        refine wl (ro_lenS rfl st_9) ?_
        refine wl (ro_cmp (r := false) rfl rfl (by simp; omega)) ?_
        refine wl_nil (x_then (hK3 _ _ ?_))
        clear hK3 K3
        refine wc_condF rfl ?_
        refine c_skip (x_then (hK2 _ _ ?_))
        clear hK2 K2
        refine forget [(0, _), (1, _)] ⟨rfl, rfl, trivial⟩ (fun e => ?_)
        refine c_seq (fun K4 hK4 => ?_)
        refine c_reg ?_ -- region 3 prog.go:48
        refine wl (ro_move rfl) ?_
        refine wl_call rfl en_51 (hp') ?_
        rintro _ w1 ⟨clb, Bs, rfl, hCl, hBf, F1⟩
        have hB1 := Mm.blk.fram F1 (fun h => h)
        refine wl (ro_move rfl) ?_
        refine wl (ro_extract rfl rfl) ?_
        refine wl (ro_extract rfl rfl) ?_
        refine wl (ro_assign rfl) ?_
        refine wl (ro_assign rfl) ?_
        refine wl_nil (x_then (hK4 _ _ ?_))
        clear hK4 K4
        refine c_seq (fun K5 hK5 => ?_)
        refine c_seq (fun K6 hK6 => ?_)
        refine c_reg ?_ -- region 4 prog.go:49
        refine wl (ro_move rfl) ?_
        refine wl (ro_neqNilN rfl if_106) ?_
        refine wl_nil (x_then (hK6 _ _ ?_))
        clear hK6 K6
        refine wc_condF rfl ?_
        refine c_skip (x_then (hK5 _ _ ?_))
        clear hK5 K5
        refine c_seq (fun K7 hK7 => ?_)
        refine c_seq (fun K8 hK8 => ?_)
        refine c_reg ?_ -- region 6 prog.go:52
        refine wl (ro_move rfl) ?_
        refine wl (ro_nilCheck rfl) ?_
        refine wl (ro_fieldAddr (k := 0) rfl fo_74_0) ?_
        refine wl (ro_loadB rfl sc_72 (hB1) rfl) ?_
        refine wl (ro_lenL rfl se_72) ?_
        refine wl (ro_cmp (r := true) rfl rfl (by simp; omega)) ?_
        refine wl_nil (x_then (hK8 _ _ ?_))
        clear hK8 K8
        refine wc_condT rfl ?_
        refine c_seq (fun K9 hK9 => ?_)
        refine c_reg ?_ -- region 7 prog.go:53
        refine wl (ro_assign rfl) ?_
        refine wl (ro_assign rfl) ?_
        refine wl_nil (x_then (hK9 _ _ ?_))
        clear hK9 K9
        refine c_ret (x_thenR ?_)
        refine bp_ret Tryz.results27 rfl ?_
        exact ⟨rfl, hup F1, F1.mono (fun _ _ h => h.elim)⟩
      · have e1 : addV cls text = .tuple #[i64c cls.length, i64c 0] := by unfold addV; rw [if_neg hl, hc]; simp only [h8', if_false]
        have e2 : addC cls text = cls ++ [(text, code)] := by unfold addC; rw [if_neg hl, hc]; simp only [h8', if_false]
        rw [e1, e2]
        obtain ⟨a, o, k, rfl, hao, hak, hok⟩ := Mm.r3
        have hln := Mm.ln
        refine ret_of Tryz.func27 rfl Tryz.ntmps27 rfl ?_
        refine c_seq (fun K1 hK1 => ?_)
        refine c_reg ?_ -- region 0 prog.go:44
        refine wl (ro_assign rfl) ?_
        refine wl (ro_assign rfl) ?_
        refine wl_nil (x_then (hK1 _ _ ?_))
        clear hK1 K1
        refine c_seq (fun K2 hK2 => ?_)
        refine c_seq (fun K3 hK3 => ?_)
        refine c_reg ?_ -- region 1 prog.go:45
        refine wl (ro_move rfl) ?_
        refine wl (ro_lenS rfl st_9) ?_
        refine wl (ro_cmp (r := false) rfl rfl (by simp; omega)) ?_
        refine wl_nil (x_then (hK3 _ _ ?_))
        clear hK3 K3
        refine wc_condF rfl ?_
        refine c_skip (x_then (hK2 _ _ ?_))
        clear hK2 K2
        refine forget [(0, _), (1, _)] ⟨rfl, rfl, trivial⟩ (fun e => ?_)
        refine c_seq (fun K4 hK4 => ?_)
        refine c_reg ?_ -- region 3 prog.go:48
        refine wl (ro_move rfl) ?_
        refine wl_call rfl en_51 (hp') ?_
        rintro _ w1 ⟨clb, Bs, rfl, hCl, hBf, F1⟩
        have M1 := Mm.fram F1 (fun _ _ h => h)
        have hB1 := M1.blk
        have hsz1 := F1.size
        refine wl (ro_move rfl) ?_
        refine wl (ro_extract rfl rfl) ?_
        refine wl (ro_extract rfl rfl) ?_
        refine wl (ro_assign rfl) ?_
        refine wl (ro_assign rfl) ?_
        refine wl_nil (x_then (hK4 _ _ ?_))
        clear hK4 K4
        refine c_seq (fun K5 hK5 => ?_)
        refine c_seq (fun K6 hK6 => ?_)
        refine c_reg ?_ -- region 4 prog.go:49
        refine wl (ro_move rfl) ?_
        refine wl (ro_neqNilN rfl if_106) ?_
        refine wl_nil (x_then (hK6 _ _ ?_))
        clear hK6 K6
        refine wc_condF rfl ?_
        refine c_skip (x_then (hK5 _ _ ?_))
        clear hK5 K5
        refine c_seq (fun K7 hK7 => ?_)
        refine c_seq (fun K8 hK8 => ?_)
        refine c_reg ?_ -- region 6 prog.go:52
        refine wl (ro_move rfl) ?_
        refine wl (ro_nilCheck rfl) ?_
        refine wl (ro_fieldAddr (k := 0) rfl fo_74_0) ?_
        refine wl (ro_loadB rfl sc_72 (hB1) rfl) ?_
        refine wl (ro_lenL rfl se_72) ?_
        refine wl (ro_cmp (r := false) rfl rfl (by simp; omega)) ?_
        refine wl_nil (x_then (hK8 _ _ ?_))
        clear hK8 K8
        refine wc_condF rfl ?_
        refine c_skip (x_then (hK7 _ _ ?_))
        clear hK7 K7
        refine forget [(0, _), (6, _)] ⟨rfl, rfl, trivial⟩ (fun e => ?_)
        refine c_seq (fun K9 hK9 => ?_)
        refine c_reg ?_ -- region 8 prog.go:55
        refine wl (ro_move rfl) ?_
        refine wl (ro_nilCheck rfl) ?_
        refine wl (ro_fieldAddr (k := 0) rfl fo_74_0) ?_
        refine wl (ro_loadB rfl sc_72 (hB1) rfl) ?_
        refine wl (ro_lenL rfl se_72) ?_
        refine wl (ro_assign rfl) ?_
        refine wl_nil (x_then (hK9 _ _ ?_))
        clear hK9 K9
        refine forget [(0, _), (6, _), (8, _)] ⟨rfl, rfl, rfl, trivial⟩ (fun e => ?_)
        refine c_seq (fun K10 hK10 => ?_)
        refine c_reg ?_ -- region 9 prog.go:56
        refine wl (ro_move rfl) ?_
        refine wl (ro_move rfl) ?_
        refine wl (ro_nilCheck rfl) ?_
        refine wl (ro_fieldAddr (k := 0) rfl fo_74_0) ?_
        refine wl (ro_loadB rfl sc_72 (hB1) rfl) ?_
        refine wl (ro_move rfl) ?_
        refine wle (eo_bs1 rfl rfl se_72 zx_104 rfl rfl rfl) ?_
        have hN := Blk.new w1 [ptr clb] 104
        have F2 := Fram.alloc none' w1 (.cells [ptr clb].toArray 104)
        have M2 := M1.fram F2 (fun _ _ h => h)
        have hCl2 := hCl.fram F2 (fun _ _ h => h)
        refine wl_app (news := [ptr clb]) rfl rfl se_72 zx_104 by_104 rfl M2.own hN rfl rfl (by simp [ptr, Value.oneCell']) (by omega) (by omega) ?_
        intro V3 w3 hown hgr hloc
        obtain ⟨a3, cap3, rfl⟩ := hown.form
        have FA : Fram (fun b => (Value.slice a0 cls.length cap0).ownBlock = some b) (w1.alloc (.cells [ptr clb].toArray 104)) w3 := Fram.grown hgr (fun k hk => .inl hk)
        have hB3 := M2.blk.fram FA (fun h => M2.own.neblk M2.blk (by decide) _ h rfl)
        refine wl (ro_nilCheck rfl) ?_
        refine wl (ro_fieldAddr (k := 0) rfl fo_74_0) ?_
        refine wls (so_storeB rfl rfl rfl sz_72 (hB3) (by simp)) ?_
        have FS : Fram (fun b => b = pb) w3 (w3.setRow pb [.slice a3 (cls.length + 1) cap3, .map (some a), .map (some o), .map (some k)].toArray) := Fram.set w3 pb _ (.inl rfl)
        have hG : Fram (fun b => (Value.slice a0 cls.length cap0).ownBlock = some b ∨ b = pb) (w1.alloc (.cells [ptr clb].toArray 104)) (w3.setRow pb [.slice a3 (cls.length + 1) cap3, .map (some a), .map (some o), .map (some k)].toArray) := (FA.mono (fun _ _ h => .inl h)).trans (FS.mono (fun _ _ h => .inr h))
        have hB4 := hB3.set [.slice a3 (cls.length + 1) cap3, .map (some a), .map (some o), .map (some k)]
        have hO4 := hown.fram FS (fun b hb' he => hown.neblk hB3 (by decide) b hb' he)
        have hnm : ∀ {α : Type} [DecidableEq α] {kv : α → Value} {r : Nat} {l : List (α × Value)}, MapAt kv (w1.alloc (.cells [ptr clb].toArray 104)).heap r l → ¬ ((Value.slice a0 cls.length cap0).ownBlock = some r ∨ r = pb) := by
          intro α _ kv r l hm hx
          rcases hx with hx | hx
          · exact M2.own.nemap hm _ hx rfl
          · exact hm.blk_ne M2.blk hx
        have hMa4 := M2.ma.fram hG (hnm M2.ma)
        have hMo4 := M2.mo.fram hG (hnm M2.mo)
        have hMk4 := M2.mkk.fram hG (hnm M2.mkk)
        have hnt : ∀ b, TreeT (w1.alloc (.cells [ptr clb].toArray 104)).heap b → ¬ ((Value.slice a0 cls.length cap0).ownBlock = some b ∨ b = pb) := by
          intro b hb hx
          rcases hx with hx | hx
          · exact hb.own M2.own hx (by decide)
          · subst hx
            rcases hb.blk M2.blk with h | h | h <;> exact absurd h (by decide)
        have hb4 := M2.bk.fram hG (fun p hp b hb hx => by
          rcases hx with hx | hx
          · have h1 := Own.typ (M2.bk.bk p hp) b hb
            rcases M2.own.2 with ⟨h2, _⟩ | ⟨g', cap', l', h2, h3, _⟩
            · rw [h2] at hx; cases hx
            · rw [h2] at hx; cases hx
              have := h1 _ _ h3
              simp at this
          · exact Own.neblk (M2.bk.bk p hp) M2.blk (by decide) b hb hx)
        have hCl4 := hCl2.fram hG (fun b hb => hnt b (hCl2.tys b hb))
        have hcl4 : ∀ (i : Nat) (c : Cl2) (b : Nat), cls[i]? = some c → clbs[i]? = some b → ∃ Bs, ClAt (w3.setRow pb [.slice a3 (cls.length + 1) cap3, .map (some a), .map (some o), .map (some k)].toArray).heap b false c.1 c.2 Bs ∧ ∀ x ∈ Bs, F x := by
          intro i c b h1 h2
          obtain ⟨Bs', h3, h4⟩ := M2.cl i c b h1 h2
          exact ⟨Bs', h3.fram hG (fun b hb => hnt b (h3.tys b hb)), h4⟩
        have F04 : Fram F w (w3.setRow pb [.slice a3 (cls.length + 1) cap3, .map (some a), .map (some o), .map (some k)].toArray) := ((F1.trans F2).mono (fun _ _ h => h.elim)).trans' hG (fun b hb hx => by
          rcases hx with hx | hx
          · exact Mm.fv b hx
          · rw [hx]; exact Mm.fp)
        have hsz4 := hG.size
        have hX : IX (w3.setRow pb [.slice a3 (cls.length + 1) cap3, .map (some a), .map (some o), .map (some k)].toArray).heap pb (.slice a3 (cls.length + 1) cap3) a o k cls la lo lk := ⟨hao, hak, hok, hB4, hMa4, hMo4, hMk4, M2.na, M2.no, M2.nk, hb4, M2.ka, M2.ko, M2.kk⟩
        have hnew3 : ∀ b, (Value.slice a3 (cls.length + 1) cap3).ownBlock = some b → F b ∨ w.heap.size ≤ b := by
          intro b hb'
          rcases hloc with h | h
          · rw [h] at hb'; exact .inl (Mm.fv b hb')
          · rw [h] at hb'; cases hb'; exact .inr (by simp; omega)
        refine gen3 (A := fun w4 => IX w4.heap pb (.slice a3 (cls.length + 1) cap3) a o k cls la lo lk ∧ Own w4.heap (.slice a3 (cls.length + 1) cap3) 104 1 (cls.length + 1) (clbs.map ptr ++ [ptr clb])) (B := fun w4 => ClAt w4.heap clb false text code Bs ∧ ∀ (i : Nat) (c : Cl2) (b : Nat), cls[i]? = some c → clbs[i]? = some b → ∃ Bs, ClAt w4.heap b false c.1 c.2 Bs ∧ ∀ x ∈ Bs, F x) (D := fun w4 => Fram F w w4) (C := fun w4 => WL _ _ _ _ _ w4) ⟨hX, hO4⟩ ⟨hCl4, hcl4⟩ F04 ?_
        clear hX hO4 hCl4 hcl4 F04 hsz4 hb4 hMk4 hMo4 hMa4 hB4 hG FS hB3 FA hown hgr hloc hN M2 hCl2 F2 hnm hnt
        rintro w4 ⟨X4, O4⟩ ⟨hCl4, hcl4⟩ F04
        have hBs4 : ∀ b ∈ Bs, ¬ (b = a ∨ b = o ∨ b = k) ∧ ¬ vals3 la lo lk b := by
          intro b hb
          have ht := hCl4.tys b hb
          refine ⟨?_, ?_⟩
          · rintro (rfl | rfl | rfl)
            · exact ht.map X4.ma
            · exact ht.map X4.mo
            · exact ht.map X4.mkk
          · intro hv
            obtain ⟨v, ids, hbk, hvb⟩ := vals3_mem X4.bk hv
            exact ht.own hbk hvb (by decide)
        refine wl_nil (x_then (hK10 _ _ ?_))
        clear hK10 K10
        refine forget [(0, _), (6, _), (8, _)] ⟨rfl, rfl, rfl, trivial⟩ (fun e => ?_)
        refine c_seq (fun K11 hK11 => ?_)
        refine c_reg ?_ -- region 10 prog.go:57
        refine wl (ro_move rfl) ?_
        refine wl (ro_move rfl) ?_
        refine wl (ro_conv rfl sc_3 in_110 (Go.IntWalk.i8_in _ (by omega))) ?_
        refine wl (ro_move rfl) ?_
        refine wl_call rfl en_52 (enter52 X4 hCl4 hBs4 (by omega)) ?_
        rintro _ w5 ⟨la', lo', lk', X5, hv5, F5⟩
        have hsz4 := F04.size
        have hsz5 := F5.size
        have hGF : ∀ b, b < w.heap.size → (b = a ∨ b = o ∨ b = k ∨ vals3 la lo lk b) → F b := by
          intro b hb hx
          rcases hx with rfl | rfl | rfl | ⟨v, hv, hvb⟩
          · exact Mm.fr _ (by simp)
          · exact Mm.fr _ (by simp)
          · exact Mm.fr _ (by simp)
          · exact Mm.fb v hv b hvb
        have F05 : Fram F w w5 := F04.trans' F5 hGF
        have hnt : ∀ b, TreeT w4.heap b → ¬ (b = a ∨ b = o ∨ b = k ∨ vals3 la lo lk b) := by
          intro b ht hx
          rcases hx with rfl | rfl | rfl | hv
          · exact ht.map X4.ma
          · exact ht.map X4.mo
          · exact ht.map X4.mkk
          · obtain ⟨v, ids, hbk, hvb⟩ := vals3_mem X4.bk hv
            exact ht.own hbk hvb (by decide)
        have O5 : Own w5.heap (.slice a3 (cls.length + 1) cap3) 104 1 (cls.length + 1) (clbs.map ptr ++ [ptr clb]) := O4.fram F5 (fun b hb hx => by
          rcases hx with rfl | rfl | rfl | hv
          · exact O4.nemap X4.ma _ hb rfl
          · exact O4.nemap X4.mo _ hb rfl
          · exact O4.nemap X4.mkk _ hb rfl
          · obtain ⟨v, ids, hbk, hvb⟩ := vals3_mem X4.bk hv
            have h1 := Own.typ hbk b hvb
            rcases O4.2 with ⟨h2, _⟩ | ⟨g', cap', l', h2, h3, _⟩
            · rw [h2] at hb; cases hb
            · rw [h2] at hb; cases hb
              have := h1 _ _ h3
              simp at this)
        refine wl_nil (x_then (hK11 _ _ ?_))
        clear hK11 K11
        refine forget [(8, _)] ⟨rfl, trivial⟩ (fun e => ?_)
        refine c_seq (fun K12 hK12 => ?_)
        refine c_reg ?_ -- region 11 prog.go:58
        refine wl (ro_move rfl) ?_
        refine wl (ro_assign rfl) ?_
        refine wl (ro_assign rfl) ?_
        refine wl_nil (x_then (hK12 _ _ ?_))
        clear hK12 K12
        refine c_ret ?_
        refine bp_ret Tryz.results27 rfl ?_
        refine ⟨rfl, ⟨.slice a3 (cls.length + 1) cap3, clbs ++ [clb], [a, o, k], la', lo', lk', ⟨⟨a, o, k, rfl, hao, hak, hok⟩, X5.blk, by simpa using O5, by simp [hln], ?_, X5.ma, X5.mo, X5.mkk, X5.na, X5.no, X5.nk, X5.bk, X5.ka, X5.ko, X5.kk, .inl Mm.fp, ?_, ?_, ?_⟩⟩, F05⟩
        · intro i c b h1 h2
          by_cases hi : i < cls.length
          · rw [List.getElem?_append_left hi] at h1
            rw [List.getElem?_append_left (by omega)] at h2
            obtain ⟨Bs', h3, h4⟩ := hcl4 i c b h1 h2
            exact ⟨Bs', h3.fram F5 (fun b hb => hnt b (h3.tys b hb)), fun x hx => .inl (h4 x hx)⟩
          · have hie : i = cls.length := by
              have := (List.getElem?_eq_some_iff.1 h1).1
              simp at this; omega
            subst hie
            rw [List.getElem?_append_right (by omega)] at h1 h2
            simp at h1
            rw [hln, Nat.sub_self] at h2
            simp at h2
            subst h1 h2
            have hC5 := hCl4.fram F5 (fun b hb => hnt b (hCl4.tys b hb))
            refine ⟨Bs, hC5, fun x hx => .inr ⟨hBf x hx, ?_⟩⟩
            obtain ⟨l', t', h6, _⟩ := hC5.tys x hx
            exact h6.lt
        · intro b hb
          rcases hnew3 b hb with h | h
          · exact .inl h
          · exact .inr ⟨h, O5.lt hb⟩
        · intro r hr
          exact .inl (Mm.fr r hr)
        · intro p hp b hb
          rcases hv5 b ⟨p, hp, hb⟩ with ⟨v, hv, hvb⟩ | h
          · exact .inl (Mm.fb v hv b hvb)
          · obtain ⟨v, ids, hbk, hvb⟩ := vals3_mem X5.bk ⟨p, hp, hb⟩
            exact .inr ⟨by omega, Own.lt hbk hvb⟩

end Go.Proofs.Qxb6500569aGreat
