import Derived.Test.Qxb6500569aGreatPm
import Derived.Test.Qxb6500569aGreatRb
/- The model's search: its parts that end at once. -/
namespace Go.Proofs.Qxb6500569aGreat
set_option linter.unusedVariables false
set_option linter.unusedSimpArgs false

/-- The blocks of F bear only types of the list. -/
def TypF (S : List Nat) (F : Nat → Prop) (H : Array Obj) : Prop := ∀ b, F b → ∀ l t, Blk H b l t → S.contains t = true

theorem Blk.framT {F : Nat → Prop} {w w' : World} {b t : Nat} {l : List Value} {S : List Nat} (h : Blk w.heap b l t) (hf : Fram F w w') (hT : TypF S F w.heap) (ht : S.contains t = false) : Blk w'.heap b l t :=
  h.fram hf (fun hF => by have := hT b hF l t h; rw [ht] at this; cases this)

theorem Own.typ {H : Array Obj} {v : Value} {e k n : Nat} {xs : List Value} (h : Own H v e k n xs) : TypF [e] (fun b => v.ownBlock = some b) H := by
  intro b hb l t hB
  rcases h.2 with ⟨h1, _⟩ | ⟨g, cap, l', h1, h2, _⟩
  · rw [h1] at hb; cases hb
  · rw [h1] at hb; cases hb
    have := h2.symm.trans hB
    injection this with this
    injection this with _ this
    rw [this]; simp

theorem Own.framT {F : Nat → Prop} {w w' : World} {v : Value} {e k n : Nat} {xs : List Value} {S : List Nat} (h : Own w.heap v e k n xs) (hf : Fram F w w') (hT : TypF S F w.heap) (ht : S.contains e = false) : Own w'.heap v e k n xs :=
  h.fram hf (fun b hb hF => by
    rcases h.2 with ⟨h1, _⟩ | ⟨g, cap, l, h1, h2, _⟩
    · rw [h1] at hb; cases hb
    · rw [h1] at hb; cases hb; have := hT _ hF l e h2; rw [ht] at this; cases this)

theorem Blk.typ {H : Array Obj} {b t : Nat} {l : List Value} (h : Blk H b l t) : TypF [t] (fun x => x = b) H := by
  rintro x rfl l' t' hB
  have := h.symm.trans hB
  injection this with this
  injection this with _ this
  rw [this]; simp

theorem TypF.mono {S S' : List Nat} {F F' : Nat → Prop} {H : Array Obj} (h : TypF S F H) (hF : ∀ b, F' b → F b) (hS : ∀ t, S.contains t = true → S'.contains t = true) : TypF S' F' H := fun b hb l t hB => hS t (h b (hF b hb) l t hB)

theorem TypF.or {S S' : List Nat} {F F' : Nat → Prop} {H : Array Obj} (h : TypF S F H) (h' : TypF S' F' H) : TypF (S ++ S') (fun b => F b ∨ F' b) H := by
  rintro b (hb | hb) l t hB
  · have := h b hb l t hB; simp at this ⊢; exact .inl this
  · have := h' b hb l t hB; simp at this ⊢; exact .inr this

theorem MH.framT {F : Nat → Prop} {w w' : World} {hb : Nat} {V : Value} {hp : List Nd} {S : List Nat} (h : MH w.heap hb V hp) (hf : Fram F w w') (hT : TypF S F w.heap) (h1 : S.contains 121 = false) (h2 : S.contains 184 = false) : MH w'.heap hb V hp :=
  ⟨h.blk.framT hf hT h1, h.own.framT hf hT h2, h.a4⟩

theorem MP.framT {F : Nat → Prop} {w w' : World} {mb : Nat} {VT VC : Value} {cls : List Cl2} {S : List Nat} (h : MP w.heap mb VT VC cls) (hf : Fram F w w') (hT : TypF S F w.heap) (h1 : S.contains 84 = false) (h2 : S.contains 9 = false) : MP w'.heap mb VT VC cls :=
  ⟨h.blk.framT hf hT h1, h.txt.framT hf hT h2, h.cod.framT hf hT h2, h.sep⟩

theorem GSl.framT {F : Nat → Prop} {w w' : World} {v : Value} {gs : List Gl} {S : List Nat} (h : GSl w.heap v gs) (hf : Fram F w w') (hT : TypF S F w.heap) (h1 : S.contains 127 = false) : GSl w'.heap v gs :=
  h.fram hf (fun b hF l hB => by have := hT b hF l 127 hB; rw [h1] at this; cases this)

theorem MH.typ {H : Array Obj} {hb : Nat} {V : Value} {hp : List Nd} (h : MH H hb V hp) : TypF [121, 184] (MFoot hb V) H := h.blk.typ.or h.own.typ

theorem SM.typ {H : Array Obj} {sb : Nat} {VL : Value} {C : SC} {st : SSt} (h : SM H sb VL C st) : TypF [49, 94] (SFoot sb VL) H := h.blk.typ.or h.own.typ

theorem SM.framT {F : Nat → Prop} {w w' : World} {sb : Nat} {VL : Value} {C : SC} {st : SSt} {S : List Nat} (h : SM w.heap sb VL C st) (hf : Fram F w w') (hT : TypF S F w.heap) (h1 : S.contains 49 = false) (h2 : S.contains 94 = false) : SM w'.heap sb VL C st :=
  ⟨h.blk.framT hf hT h1, h.own.framT hf hT h2⟩

theorem SM.up {w : World} {sb : Nat} {VL : Value} {C : SC} {st : SSt} (h : SM w.heap sb VL C st) (i t f : Nat) :
    SM (w.setRow sb [ptr C.mpb, .bool C.opn, S C.q, i64c C.fuel, i64c C.given, VL, i64c i, i64c t, i64c f].toArray).heap sb VL C ⟨i, t, f, st.list⟩ ∧
      Fram (SFoot sb VL) w (w.setRow sb [ptr C.mpb, .bool C.opn, S C.q, i64c C.fuel, i64c C.given, VL, i64c i, i64c t, i64c f].toArray) := by
  have FS : Fram (fun b => b = sb) w (w.setRow sb [ptr C.mpb, .bool C.opn, S C.q, i64c C.fuel, i64c C.given, VL, i64c i, i64c t, i64c f].toArray) := Fram.set w sb _ (.inl rfl)
  exact ⟨⟨h.blk.set _, h.own.fram FS (fun b hb' he => h.own.neblk h.blk (by decide) b hb' he)⟩, FS.mono (fun k _ hx => .inl hx)⟩

theorem gsl_head {H : Array Obj} {v : Value} {g : Gl} {gs : List Gl} (h : GSl H v (g :: gs)) : ∃ b o c l, v = .slice (some ⟨b, o, none⟩) (gs.length + 1) c ∧ gs.length + 1 ≤ c ∧ Blk H b l 127 ∧ l[o]? = some (i64c g.1) ∧ l[o + 1]? = some (i64c g.2.1) ∧ l[o + 2]? = some (i64c g.2.2) ∧ GSl H (.slice (some (if c = 1 then ⟨b, o, none⟩ else ⟨b, o + 1 * 3, none⟩)) (gs.length + 1 - 1) (c - 1)) gs := by
  rcases h with ⟨h, _⟩ | ⟨b, o, c, l, h1, h2, h3, h4⟩
  · cases h
  · simp only [List.length_cons] at h1 h2 h4
    have hm : ∃ m, l.drop o = i64c g.1 :: i64c g.2.1 :: i64c g.2.2 :: m ∧ m.take (gs.length * 3) = gs.flatMap gc := by
      rw [show (gs.length + 1) * 3 = gs.length * 3 + 1 + 1 + 1 by omega] at h4
      match hl : l.drop o, h4 with
      | [], h4 => simp [gc] at h4
      | [x], h4 => simp [gc] at h4
      | [x, y], h4 => simp [gc] at h4
      | x :: y :: z :: m, h4 =>
        simp [gc] at h4
        obtain ⟨rfl, rfl, rfl, h5⟩ := h4
        exact ⟨m, rfl, h5⟩
    obtain ⟨m, hm1, hm2⟩ := hm
    refine ⟨b, o, c, l, h1, h2, h3, ?_, ?_, ?_, ?_⟩
    · have := congrArg (·[0]?) hm1; simpa using this
    · have := congrArg (·[1]?) hm1; simpa using this
    · have := congrArg (·[2]?) hm1; simpa using this
    · by_cases hc : c = 1
      · rw [if_pos hc]
        refine .inl ⟨List.eq_nil_of_length_eq_zero (by omega), some ⟨b, o, none⟩, c - 1, ?_⟩
        rw [show gs.length + 1 - 1 = 0 by omega]
      · rw [if_neg hc]
        refine .inr ⟨b, o + 1 * 3, c - 1, l, rfl, by omega, h3, ?_⟩
        rw [Nat.one_mul, ← List.drop_drop, hm1]
        exact hm2

theorem putF_len {f : Nat} {hp : List Nd} {a : Nat} {out : List UInt8} {nm : List Nat} (h : (putF (f + 1) hp a out nm).1 = true) : (putF (f + 1) hp a out nm).2.1.length ≤ 48 := by
  cases hh : hOf hp (deref hp a) with
  | nil =>
    rw [putF_var hh] at h ⊢
    exact of_decide_eq_true h
  | cons c r =>
    rw [putF_str hh] at h ⊢
    split at h
    · rename_i hk
      rw [if_pos hk]
      exact of_decide_eq_true h
    · cases h

theorem matchF_mem {pred key : List UInt8} : ∀ {cls : List Cl2} {i : Nat} {k : UInt8}, k ∈ matchF pred key i cls → ∃ j c, k = UInt8.ofNat (48 + (i + j)) ∧ cls[j]? = some c
  | [], i, k, h => by simp [matchF] at h
  | c :: cls, i, k, h => by
    simp only [matchF] at h
    have rest : k ∈ matchF pred key (i + 1) cls → ∃ j c', k = UInt8.ofNat (48 + (i + j)) ∧ (c :: cls)[j]? = some c' := by
      intro h
      obtain ⟨j, c', h1, h2⟩ := matchF_mem h
      exact ⟨j + 1, c', by rw [h1]; congr 2; omega, by simpa using h2⟩
    split at h
    · rcases List.mem_cons.1 h with h | h
      · exact ⟨0, c, by rw [h]; rfl, rfl⟩
      · exact rest h
    · exact rest h

theorem matchS_mem {cls : List Cl2} (h8 : cls.length ≤ 8) {pred key : List UInt8} {k : UInt8} (h : k ∈ matchS cls pred key) : ∃ j c, k.toNat = 48 + j ∧ j < 8 ∧ cls[j]? = some c ∧ c ∈ cls ∧ cls.getD (k.toNat - 48) ([], []) = c := by
  obtain ⟨j, c, h1, h2⟩ := matchF_mem h
  have hj := (List.getElem?_eq_some_iff.1 h2).1
  have hk : k.toNat = 48 + j := by
    rw [h1, Nat.zero_add, UInt8.toNat_ofNat']
    omega
  refine ⟨j, c, hk, by omega, h2, List.mem_of_getElem? h2, ?_⟩
  rw [hk, show 48 + j - 48 = j by omega, List.getD_eq_getElem?_getD, h2]
  rfl

/-- What a search leaves. -/
def DPost (sb : Nat) (VL : Value) (C : SC) (w : World) (x : Int × SSt) (r : Value) (w' : World) : Prop :=
  r = .int .i64 x.1 ∧ ∃ VL', SM w'.heap sb VL' C x.2 ∧ (∀ b, VL'.ownBlock = some b → VL.ownBlock = some b ∨ w.heap.size ≤ b) ∧ Fram (SFoot sb VL) w w'

theorem dfs37_nil {w : World} {sb hb : Nat} {VL VH : Value} {C : SC} {st : SSt} {hp : List Nd} {v : Value} {proof : List UInt8} {lvl left : Nat} (MS : SM w.heap sb VL C st) (M : MH w.heap hb VH hp) (hok : HOK hp) (hpos : 0 < hp.length) (hG : GSl w.heap v []) (hpl : proof.length ≤ 100) (hll : left ≤ 100) (hps : psi st ≤ 26) (hi1 : st.inf ≤ 25) (cls : List Cl2) (f : Nat) :
    Ret Tryz.prog 37 [ptr sb, ptr hb, v, S proof, i64c lvl, i64c left] w (DPost sb VL C w (dfsF cls C.fuel (f + 1) hp [] proof lvl left st)) := by
  obtain ⟨a0, c0, rfl⟩ : ∃ a c, v = .slice a 0 c := by
    rcases hG with ⟨_, a, c, rfl⟩ | ⟨b, o, c, l, rfl, _⟩ <;> exact ⟨_, _, rfl⟩
  have hll2 : st.list.length ≤ 26 := by unfold psi at hps; omega
  simp only [dfsF]
  by_cases hp1 : (putF 49 hp 0 [] []).1 = true
  · rw [if_pos hp1]
    have hpt := putF_len (f := 48) hp1
    have hW : Ret Tryz.prog 63 [ptr hb, i64c 0] w (fun r w' => r = .tuple #[S (putF 49 hp 0 [] []).2.1, i64c 0] ∧ Fram none' w w') := (Write63 M hok hpos).mono (by rintro _ w' ⟨rfl, F⟩; exact ⟨by unfold wrV; rw [if_pos hp1], F⟩)
    generalize (putF 49 hp 0 [] []).2.1 = txt at hpt hW ⊢
    obtain ⟨dot, hdot⟩ : ∃ dot : UInt8, dot = (if 0 < left then 59 else 46) := ⟨_, rfl⟩
    rw [← hdot]
    obtain ⟨al, capl, rfl⟩ := MS.own.form
    refine ret_of Tryz.func37 rfl Tryz.ntmps37 rfl ?_
    refine c_seq (fun K1 hK1 => ?_)
    refine c_reg ?_ -- region 0 solvem.go:98
    refine wl (ro_assign rfl) ?_
    refine wl_nil (x_then (hK1 _ _ ?_))
    clear hK1 K1
    refine c_seq (fun K2 hK2 => ?_)
    refine c_seq (fun K3 hK3 => ?_)
    refine c_reg ?_ -- region 1 solvem.go:99
    refine wl (ro_move rfl) ?_
    refine wl (ro_lenL rfl se_90) ?_
    refine wl (ro_cmp (r := true) rfl rfl (by simp)) ?_
    refine wl_nil (x_then (hK3 _ _ ?_))
    clear hK3 K3
    refine wc_condT rfl ?_
    refine c_seq (fun K4 hK4 => ?_)
    refine c_reg ?_ -- region 2 solvem.go:100
    refine wl (ro_move rfl) ?_
    refine wl_call rfl en_63 (hW) ?_
    rintro _ w1 ⟨rfl, F1⟩
    have M1 := MS.none F1
    have hB := M1.blk
    refine wl (ro_move rfl) ?_
    refine wl (ro_extract rfl rfl) ?_
    refine wl (ro_extract rfl rfl) ?_
    refine wl (ro_assign rfl) ?_
    refine wl (ro_assign rfl) ?_
    refine wl_nil (x_then (hK4 _ _ ?_))
    clear hK4 K4
    refine c_seq (fun K5 hK5 => ?_)
    refine c_seq (fun K6 hK6 => ?_)
    refine c_reg ?_ -- region 3 solvem.go:101
    refine wl (ro_move rfl) ?_
    refine wl (ro_cmp rfl rfl rfl) ?_
    refine wl_nil (x_then (hK6 _ _ ?_))
    clear hK6 K6
    refine wc_condF rfl ?_
    refine c_skip (x_then (hK5 _ _ ?_))
    clear hK5 K5
    refine forget [(0, _), (3, _), (5, _), (13, _)] ⟨rfl, rfl, rfl, rfl, trivial⟩ (fun e => ?_)
    refine c_seq (fun K7 hK7 => ?_)
    refine c_reg ?_ -- region 6 solvem.go:105
    refine wl (ro_assign rfl) ?_
    refine wl_nil (x_then (hK7 _ _ ?_))
    clear hK7 K7
    refine c_seq (fun K8 hK8 => ?_)
    refine c_seq (fun K9 hK9 => ?_)
    refine c_reg ?_ -- region 7 solvem.go:106
    refine wl (ro_move rfl) ?_
    refine wl (ro_cmp rfl rfl rfl) ?_
    refine wl_nil (x_then (hK9 _ _ ?_))
    clear hK9 K9
    refine wc_cond rfl (fun hc46 => ?_) (fun hc46 => ?_)
    · try simp only [decide_eq_true_eq, decide_eq_false_iff_not, Bool.not_eq_true', Bool.not_eq_false', Bool.not_eq_eq_eq_not, Bool.not_true, Bool.not_false, beq_iff_eq, bne_iff_ne, ne_eq, beq_eq_false_iff_ne, bne_eq_false_iff_eq, gt_iff_lt, ge_iff_le, Int.not_lt, Int.not_le] at hc46
      have hdd : dot = 59 := by rw [hdot, if_pos (by omega)]
      rw [hdd]
      refine c_reg ?_ -- region 8 solvem.go:107
      refine wl (ro_assign rfl) ?_
      refine wl_nil (x_then (hK8 _ _ ?_))
      clear hK8 K8
      refine forget [(0, _), (3, _), (13, _), (15, _)] ⟨rfl, rfl, rfl, rfl, trivial⟩ (fun e => ?_)
      refine c_seq (fun K10 hK10 => ?_)
      refine c_piL 24 [(0, false), (1, false), (2, false), (3, false), (4, false), (5, false), (6, false), (7, false), (8, false), (9, false), (10, false), (11, false), (12, false), (13, false), (14, false), (15, false), (16, false), (17, false), (18, false), (19, false), (20, true), (21, true), (22, false), (23, false)] (fun w' => Blk w'.heap sb [ptr C.mpb, .bool C.opn, S C.q, i64c C.fuel, i64c C.given, .slice al st.list.length capl, i64c st.inf, i64c st.tried, i64c st.fin] 49) mixed (by kernel_rfl) rfl (by kernel_rfl) (po_then (po_then (po_bp))) (hB) ?_ -- region 9 solvem.go:109
      refine ql_ro rfl (fun w hS => ro_move rfl) ?_
      refine ql_ro rfl (fun w hS => ro_move rfl) ?_
      refine ql_ro rfl (fun w hS => ro_nilCheck rfl) ?_
      refine ql_ro rfl (fun w hS => ro_fieldAddr (k := 5) rfl fo_49_5) ?_
      refine ql_ro rfl (fun w hS => ro_loadB rfl sc_46 (hS) rfl) ?_
      refine ql_ro rfl (fun w hS => ro_move rfl) ?_
      refine ql_ro rfl (fun w hS => ro_nilCheck rfl) ?_
      refine ql_ro rfl (fun w hS => ro_fieldAddr (k := 6) rfl fo_49_6) ?_
      refine ql_ro rfl (fun w hS => ro_loadB rfl sc_3 (hS) rfl) ?_
      refine ql_ro rfl (fun w hS => ro_move rfl) ?_
      refine ql_ro rfl (fun w hS => ro_nilCheck rfl) ?_
      refine ql_ro rfl (fun w hS => ro_fieldAddr (k := 7) rfl fo_49_7) ?_
      refine ql_ro rfl (fun w hS => ro_loadB rfl sc_3 (hS) rfl) ?_
      refine ql_ro rfl (fun w hS => ro_move rfl) ?_
      refine ql_ro rfl (fun w hS => ro_catS rfl rfl (by simp; omega)) ?_
      refine ql_ro rfl (fun w hS => ro_move rfl) ?_
      refine ql_ro rfl (fun w hS => ro_catS rfl rfl (by simp; omega)) ?_
      refine ql_ro rfl (fun w hS => ro_move rfl) ?_
      refine ql_ro rfl (fun w hS => ro_catS rfl rfl (by simp; omega)) ?_
      refine ql_ro rfl (fun w hS => ro_build rfl bld_94_1_2_3) ?_
      refine ql_eo rfl (eo_bs1 rfl rfl se_46 zx_94 rfl rfl rfl) (hB.alloc _) ?_
      obtain ⟨dt, hdt⟩ : ∃ dt : UInt8, dt = dot := ⟨_, rfl⟩
      rw [hdd] at hdt
      rw [← hdt]
      have hN := Blk.new { w1 with drawn := w1.drawn + 1 } (anc (0, st.inf, st.tried, txt ++ [35] ++ proof ++ [dt])) 94
      have M2 := (M1.none (Fram.drew none' w1 (w1.drawn + 1))).none (Fram.alloc none' _ (.cells (anc (0, st.inf, st.tried, txt ++ [35] ++ proof ++ [dt])).toArray 94))
      refine ql_app (news := anc (0, st.inf, st.tried, txt ++ [35] ++ proof ++ [dt])) rfl rfl rfl se_46 zx_94 by_94 rfl M2.own hN rfl rfl (by simp [anc, S, i64c, Value.oneCell']) (by omega) (by omega) ?_
      intro V3 w3 hown hgr hloc
      obtain ⟨a3, cap3, rfl⟩ := hown.form
      have FA : Fram (fun b => (Value.slice al st.list.length capl).ownBlock = some b) _ w3 := Fram.grown hgr (fun k hk => .inl hk)
      have hb3 := M2.blk.fram FA (fun hk => M2.own.neblk M2.blk (by decide) _ hk rfl)
      refine ⟨hb3, ?_⟩
      refine ql_ro rfl (fun w hS => ro_nilCheck rfl) ?_
      refine ql_ro rfl (fun w hS => ro_fieldAddr (k := 5) rfl fo_49_5) ?_
      refine ql_last rfl (so_storeB rfl rfl rfl sz_46 (hb3) (by simp)) ?_
      have FS : Fram (fun b => b = sb) w3 (w3.setRow sb [ptr C.mpb, .bool C.opn, S C.q, i64c C.fuel, i64c C.given, .slice a3 (st.list.length + 1) cap3, i64c st.inf, i64c st.tried, i64c st.fin].toArray) := Fram.set w3 sb _ (.inl rfl)
      have B4 := hb3.set [ptr C.mpb, .bool C.opn, S C.q, i64c C.fuel, i64c C.given, .slice a3 (st.list.length + 1) cap3, i64c st.inf, i64c st.tried, i64c st.fin]
      have O4 := hown.fram FS (fun b hb' he => hown.neblk hb3 (by decide) b hb' he)
      have F4 : Fram (SFoot sb (.slice al st.list.length capl)) w _ := ((F1.mono (fun _ _ h => h.elim)).trans ((Fram.drew _ w1 (w1.drawn + 1)).thenAlloc (o := .cells (anc (0, st.inf, st.tried, txt ++ [35] ++ proof ++ [dt])).toArray 94))).trans ((FA.mono (fun k hk hx => .inr hx)).trans (FS.mono (fun k hk hx => .inl hx)))
      have hnew : ∀ b, (Value.slice a3 (st.list.length + 1) cap3).ownBlock = some b → (Value.slice al st.list.length capl).ownBlock = some b ∨ w.heap.size ≤ b := by
        intro b hb'
        rcases hloc with h | h
        · rw [h] at hb'; exact .inl hb'
        · rw [h] at hb'; cases hb'; have := F1.size; exact .inr (by simp; omega)
      refine x_then (hK10 _ _ ?_)
      clear hK10 K10
      refine forget [] trivial (fun e => ?_)
      refine c_seq (fun K11 hK11 => ?_)
      refine c_reg ?_ -- region 10 solvem.go:110
      refine wl (ro_assign rfl) ?_
      refine wl_nil (x_then (hK11 _ _ ?_))
      clear hK11 K11
      refine c_ret (x_thenR ?_)
      refine bp_ret Tryz.results37 rfl ?_
      refine ⟨rfl, _, ⟨by simpa using B4, ?_⟩, hnew, F4⟩
      rw [hdd, ← hdt]
      simpa using O4
    · try simp only [decide_eq_true_eq, decide_eq_false_iff_not, Bool.not_eq_true', Bool.not_eq_false', Bool.not_eq_eq_eq_not, Bool.not_true, Bool.not_false, beq_iff_eq, bne_iff_ne, ne_eq, beq_eq_false_iff_ne, bne_eq_false_iff_eq, gt_iff_lt, ge_iff_le, Int.not_lt, Int.not_le] at hc46
      have hdd : dot = 46 := by rw [hdot, if_neg (by omega)]
      rw [hdd]
      refine c_skip (x_then (hK8 _ _ ?_))
      clear hK8 K8
      refine forget [(0, _), (3, _), (13, _), (15, _)] ⟨rfl, rfl, rfl, rfl, trivial⟩ (fun e => ?_)
      refine c_seq (fun K12 hK12 => ?_)
      refine c_piL 24 [(0, false), (1, false), (2, false), (3, false), (4, false), (5, false), (6, false), (7, false), (8, false), (9, false), (10, false), (11, false), (12, false), (13, false), (14, false), (15, false), (16, false), (17, false), (18, false), (19, false), (20, true), (21, true), (22, false), (23, false)] (fun w' => Blk w'.heap sb [ptr C.mpb, .bool C.opn, S C.q, i64c C.fuel, i64c C.given, .slice al st.list.length capl, i64c st.inf, i64c st.tried, i64c st.fin] 49) mixed (by kernel_rfl) rfl (by kernel_rfl) (po_then (po_then (po_bp))) (hB) ?_ -- region 9 solvem.go:109
      refine ql_ro rfl (fun w hS => ro_move rfl) ?_
      refine ql_ro rfl (fun w hS => ro_move rfl) ?_
      refine ql_ro rfl (fun w hS => ro_nilCheck rfl) ?_
      refine ql_ro rfl (fun w hS => ro_fieldAddr (k := 5) rfl fo_49_5) ?_
      refine ql_ro rfl (fun w hS => ro_loadB rfl sc_46 (hS) rfl) ?_
      refine ql_ro rfl (fun w hS => ro_move rfl) ?_
      refine ql_ro rfl (fun w hS => ro_nilCheck rfl) ?_
      refine ql_ro rfl (fun w hS => ro_fieldAddr (k := 6) rfl fo_49_6) ?_
      refine ql_ro rfl (fun w hS => ro_loadB rfl sc_3 (hS) rfl) ?_
      refine ql_ro rfl (fun w hS => ro_move rfl) ?_
      refine ql_ro rfl (fun w hS => ro_nilCheck rfl) ?_
      refine ql_ro rfl (fun w hS => ro_fieldAddr (k := 7) rfl fo_49_7) ?_
      refine ql_ro rfl (fun w hS => ro_loadB rfl sc_3 (hS) rfl) ?_
      refine ql_ro rfl (fun w hS => ro_move rfl) ?_
      refine ql_ro rfl (fun w hS => ro_catS rfl rfl (by simp; omega)) ?_
      refine ql_ro rfl (fun w hS => ro_move rfl) ?_
      refine ql_ro rfl (fun w hS => ro_catS rfl rfl (by simp; omega)) ?_
      refine ql_ro rfl (fun w hS => ro_move rfl) ?_
      refine ql_ro rfl (fun w hS => ro_catS rfl rfl (by simp; omega)) ?_
      refine ql_ro rfl (fun w hS => ro_build rfl bld_94_1_2_3) ?_
      refine ql_eo rfl (eo_bs1 rfl rfl se_46 zx_94 rfl rfl rfl) (hB.alloc _) ?_
      obtain ⟨dt, hdt⟩ : ∃ dt : UInt8, dt = dot := ⟨_, rfl⟩
      rw [hdd] at hdt
      rw [← hdt]
      have hN := Blk.new { w1 with drawn := w1.drawn + 1 } (anc (0, st.inf, st.tried, txt ++ [35] ++ proof ++ [dt])) 94
      have M2 := (M1.none (Fram.drew none' w1 (w1.drawn + 1))).none (Fram.alloc none' _ (.cells (anc (0, st.inf, st.tried, txt ++ [35] ++ proof ++ [dt])).toArray 94))
      refine ql_app (news := anc (0, st.inf, st.tried, txt ++ [35] ++ proof ++ [dt])) rfl rfl rfl se_46 zx_94 by_94 rfl M2.own hN rfl rfl (by simp [anc, S, i64c, Value.oneCell']) (by omega) (by omega) ?_
      intro V3 w3 hown hgr hloc
      obtain ⟨a3, cap3, rfl⟩ := hown.form
      have FA : Fram (fun b => (Value.slice al st.list.length capl).ownBlock = some b) _ w3 := Fram.grown hgr (fun k hk => .inl hk)
      have hb3 := M2.blk.fram FA (fun hk => M2.own.neblk M2.blk (by decide) _ hk rfl)
      refine ⟨hb3, ?_⟩
      refine ql_ro rfl (fun w hS => ro_nilCheck rfl) ?_
      refine ql_ro rfl (fun w hS => ro_fieldAddr (k := 5) rfl fo_49_5) ?_
      refine ql_last rfl (so_storeB rfl rfl rfl sz_46 (hb3) (by simp)) ?_
      have FS : Fram (fun b => b = sb) w3 (w3.setRow sb [ptr C.mpb, .bool C.opn, S C.q, i64c C.fuel, i64c C.given, .slice a3 (st.list.length + 1) cap3, i64c st.inf, i64c st.tried, i64c st.fin].toArray) := Fram.set w3 sb _ (.inl rfl)
      have B4 := hb3.set [ptr C.mpb, .bool C.opn, S C.q, i64c C.fuel, i64c C.given, .slice a3 (st.list.length + 1) cap3, i64c st.inf, i64c st.tried, i64c st.fin]
      have O4 := hown.fram FS (fun b hb' he => hown.neblk hb3 (by decide) b hb' he)
      have F4 : Fram (SFoot sb (.slice al st.list.length capl)) w _ := ((F1.mono (fun _ _ h => h.elim)).trans ((Fram.drew _ w1 (w1.drawn + 1)).thenAlloc (o := .cells (anc (0, st.inf, st.tried, txt ++ [35] ++ proof ++ [dt])).toArray 94))).trans ((FA.mono (fun k hk hx => .inr hx)).trans (FS.mono (fun k hk hx => .inl hx)))
      have hnew : ∀ b, (Value.slice a3 (st.list.length + 1) cap3).ownBlock = some b → (Value.slice al st.list.length capl).ownBlock = some b ∨ w.heap.size ≤ b := by
        intro b hb'
        rcases hloc with h | h
        · rw [h] at hb'; exact .inl hb'
        · rw [h] at hb'; cases hb'; have := F1.size; exact .inr (by simp; omega)
      refine x_then (hK12 _ _ ?_)
      clear hK12 K12
      refine forget [] trivial (fun e => ?_)
      refine c_seq (fun K13 hK13 => ?_)
      refine c_reg ?_ -- region 10 solvem.go:110
      refine wl (ro_assign rfl) ?_
      refine wl_nil (x_then (hK13 _ _ ?_))
      clear hK13 K13
      refine c_ret (x_thenR ?_)
      refine bp_ret Tryz.results37 rfl ?_
      refine ⟨rfl, _, ⟨by simpa using B4, ?_⟩, hnew, F4⟩
      rw [hdd, ← hdt]
      simpa using O4
  · rw [if_neg hp1]
    have hW : Ret Tryz.prog 63 [ptr hb, i64c 0] w (fun r w' => r = .tuple #[S [], i64c 8] ∧ Fram none' w w') := (Write63 M hok hpos).mono (by rintro _ w' ⟨rfl, F⟩; exact ⟨by unfold wrV; rw [if_neg hp1], F⟩)
    refine ret_of Tryz.func37 rfl Tryz.ntmps37 rfl ?_
    refine c_seq (fun K1 hK1 => ?_)
    refine c_reg ?_ -- region 0 solvem.go:98
    refine wl (ro_assign rfl) ?_
    refine wl_nil (x_then (hK1 _ _ ?_))
    clear hK1 K1
    refine c_seq (fun K2 hK2 => ?_)
    refine c_seq (fun K3 hK3 => ?_)
    refine c_reg ?_ -- region 1 solvem.go:99
    refine wl (ro_move rfl) ?_
    refine wl (ro_lenL rfl se_90) ?_
    refine wl (ro_cmp (r := true) rfl rfl (by simp)) ?_
    refine wl_nil (x_then (hK3 _ _ ?_))
    clear hK3 K3
    refine wc_condT rfl ?_
    refine c_seq (fun K4 hK4 => ?_)
    refine c_reg ?_ -- region 2 solvem.go:100
    refine wl (ro_move rfl) ?_
    refine wl_call rfl en_63 (hW) ?_
    rintro _ w1 ⟨rfl, F1⟩
    have M1 := MS.none F1
    have hB := M1.blk
    refine wl (ro_move rfl) ?_
    refine wl (ro_extract rfl rfl) ?_
    refine wl (ro_extract rfl rfl) ?_
    refine wl (ro_assign rfl) ?_
    refine wl (ro_assign rfl) ?_
    refine wl_nil (x_then (hK4 _ _ ?_))
    clear hK4 K4
    refine c_seq (fun K5 hK5 => ?_)
    refine c_seq (fun K6 hK6 => ?_)
    refine c_reg ?_ -- region 3 solvem.go:101
    refine wl (ro_move rfl) ?_
    refine wl (ro_cmp rfl rfl rfl) ?_
    refine wl_nil (x_then (hK6 _ _ ?_))
    clear hK6 K6
    refine wc_condT rfl ?_
    refine c_seq (fun K7 hK7 => ?_)
    refine c_reg ?_ -- region 4 solvem.go:102
    refine wl (ro_move rfl) ?_
    refine wl (ro_move rfl) ?_
    refine wl (ro_nilCheck rfl) ?_
    refine wl (ro_fieldAddr (k := 8) rfl fo_49_8) ?_
    refine wls (so_storeB rfl rfl rfl sz_47 (hB) (by simp)) ?_
    obtain ⟨M2, F2⟩ := M1.up st.inf st.tried 8
    refine wl_nil (x_then (hK7 _ _ ?_))
    clear hK7 K7
    refine forget [] trivial (fun e => ?_)
    refine c_seq (fun K8 hK8 => ?_)
    refine c_reg ?_ -- region 5 solvem.go:103
    refine wl (ro_assign rfl) ?_
    refine wl_nil (x_then (hK8 _ _ ?_))
    clear hK8 K8
    refine c_ret (x_thenR (x_thenR ?_))
    refine bp_ret Tryz.results37 rfl ?_
    exact ⟨rfl, VL, M2, fun b h => .inl h, (F1.mono (fun _ _ h => h.elim)).trans F2⟩

end Go.Proofs.Qxb6500569aGreat
