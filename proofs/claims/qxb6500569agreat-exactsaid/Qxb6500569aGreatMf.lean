import Derived.Test.Qxb6500569aGreatMe
/- The model heap: the building of a term. -/
namespace Go.Proofs.Qxb6500569aGreat
set_option linter.unusedVariables false
set_option linter.unusedSimpArgs false

theorem ndcs_setA : ∀ {hp : List Nd} {a i k : Nat} {nd : Nd}, A4 hp → hp[a]? = some nd → i < 4 → (hp.flatMap ndc).set (a * 6 + (2 + i)) (i64c k) = (hp.set a { nd with a := nd.a.set i k }).flatMap ndc
  | [], a, i, k, nd, _, h, _ => by simp at h
  | x :: hp, 0, i, k, nd, h4, h, hi => by
    simp at h; subst h
    have hl := h4 x (by simp)
    simp only [List.flatMap_cons, List.set_cons_zero, Nat.zero_mul, Nat.zero_add]
    rw [List.set_append_left _ _ (by rw [ndc_len hl]; omega)]
    congr 1
    unfold ndc
    rw [List.set_append_right _ _ (by simp), List.map_set]
    simp
  | x :: hp, a + 1, i, k, nd, h4, h, hi => by
    simp at h
    have h1 := ndc_len (h4 x (by simp))
    rw [List.flatMap_cons, List.set_append_right _ _ (by omega), h1, List.set_cons_succ, List.flatMap_cons, show (a + 1) * 6 + (2 + i) - 6 = a * 6 + (2 + i) by omega]
    rw [ndcs_setA (fun q hq => h4 q (by simp [hq])) h hi]

theorem a4_set {hp : List Nd} (h : A4 hp) {a : Nat} {nd : Nd} (hl : nd.a.length = 4) : A4 (hp.set a nd) := by
  intro m hm
  rcases List.mem_or_eq_of_mem_set hm with h1 | h1
  · exact h m h1
  · rw [h1]; exact hl

theorem mh_setA {w : World} {hb g n cap x i k : Nat} {hp : List Nd} {l : List Value} {nd : Nd} (M : MH w.heap hb (.slice (some ⟨g, 0, none⟩) n cap) hp) (hB : Blk w.heap g l 184) (hx : hp[x]? = some nd) (hi : i < 4) :
    MH (w.setRow g (l.set (0 + x * 6 + 2 + i * 1) (i64c k)).toArray).heap hb (.slice (some ⟨g, 0, none⟩) n cap) (hp.set x { nd with a := nd.a.set i k }) := by
  have hxl := (List.getElem?_eq_some_iff.1 hx).1
  have hl4 := M.a4 nd (List.mem_of_getElem? hx)
  have hne : hb ≠ g := fun e => M.own.neblk M.blk (by decide) g rfl e.symm
  refine ⟨M.blk.set_ne _ hne, ?_, a4_set M.a4 (by simpa using hl4)⟩
  have hs := ndcs_setA (k := k) M.a4 hx hi
  obtain ⟨h1, h2⟩ := M.own
  refine ⟨?_, ?_⟩
  · rw [← hs, List.length_set, List.length_set]; exact h1
  · rw [List.length_set]
    rcases h2 with ⟨h2, _⟩ | ⟨g', cap', l', e1, e2, e3, e4, e5, e6⟩
    · cases h2
    · cases e1
      obtain ⟨rfl, _⟩ := hB.uniq e2
      refine .inr ⟨g, cap, _, rfl, hB.set _, e3, e4, by simpa using e5, ?_⟩
      rw [take_set _ _ _ _ (by omega), e6, show 0 + x * 6 + 2 + i * 1 = x * 6 + (2 + i) by omega, hs]

theorem pad4_add {kids : List Nat} {k : Nat} (h : kids.length < 4) : (pad4 kids).set kids.length k = pad4 (kids ++ [k]) := by
  match kids, h with
  | [], _ => rfl
  | [a], _ => rfl
  | [a, b], _ => rfl
  | [a, b, c], _ => rfl

def atM (l : List Value) (env : List (Option Nat)) : Prop := l.length = 6 ∧ ∀ k : Nat, k < 6 → l[k]? = some (optc (env.getD k none))

theorem atM_set {l : List Value} {env : List (Option Nat)} (h : atM l env) {k b : Nat} (hk : k < 6) (he : env.length = 6) : atM (l.set k (i64c b)) (env.set k (some b)) := by
  refine ⟨by simpa using h.1, fun j hj => ?_⟩
  rw [List.getD_eq_getElem?_getD, List.getElem?_set, List.getElem?_set]
  by_cases hjk : k = j
  · subst hjk; simp [he, hk, h.1, optc, optI, i64c]
  · simp only [hjk, if_false]
    rw [h.2 j hj, List.getD_eq_getElem?_getD]

/-- What the building knows of its place. -/
structure BS (hb ab : Nat) (V : Value) (hp : List Nd) (env : List (Option Nat)) (w : World) : Prop where
  mh : MH w.heap hb V hp
  at_ : ∃ atl, Blk w.heap ab atl 122 ∧ atM atl env
  envl : env.length = 6
  elt : envLt env hp.length

def BFoot (hb ab : Nat) (V : Value) (w : World) : Nat → Prop := fun b => b = hb ∨ b = ab ∨ V.ownBlock = some b ∨ w.heap.size ≤ b

def BuildOK (hb ab : Nat) (V : Value) (hp : List Nd) (code : List UInt8) (a : Nat) (r : List UInt8) (env' : List (Option Nat)) (ns : List Nd) (w : World) (v : Value) (w' : World) : Prop :=
  ∃ p' V', v = .tuple #[i64c a, i64c p'] ∧ code.drop p' = r ∧ p' ≤ code.length ∧ BS hb ab V' (hp ++ ns) env' w' ∧ (∀ b, V'.ownBlock = some b → V.ownBlock = some b ∨ w.heap.size ≤ b) ∧ Fram (BFoot hb ab V w) w w'

theorem BFoot.sub {hb ab : Nat} {V V' : Value} {w w1 : World} (hs : w.heap.size ≤ w1.heap.size) (hv : ∀ b, V'.ownBlock = some b → V.ownBlock = some b ∨ w.heap.size ≤ b) {k : Nat} (h : BFoot hb ab V' w1 k) : BFoot hb ab V w k := by
  rcases h with h | h | h | h
  · exact .inl h
  · exact .inr (.inl h)
  · rcases hv k h with h | h
    · exact .inr (.inr (.inl h))
    · exact .inr (.inr (.inr h))
  · exact .inr (.inr (.inr (by omega)))

/-- One node more. -/
theorem mh_push {hb : Nat} {V V' : Value} {hp : List Nd} {w w1 : World} {nd : Nd} (M : MH w.heap hb V hp) (hnd : nd.a.length = 4) (hgr : w.grownBy w1 V.ownBlock) (hown : Own w1.heap V' 184 6 (hp.length + 1) (hp.flatMap ndc ++ ndc nd)) :
    Blk w1.heap hb [V, .slice none 0 0, .slice none 0 0] 121 ∧ MH (w1.setRow hb [V', .slice none 0 0, .slice none 0 0].toArray).heap hb V' (hp ++ [nd]) ∧ Fram (fun b => b = hb ∨ V.ownBlock = some b) w (w1.setRow hb [V', .slice none 0 0, .slice none 0 0].toArray) := by
  have F1 : Fram (fun b => V.ownBlock = some b) w w1 := Fram.grown hgr (fun k hk => .inl hk)
  have hb1 : Blk w1.heap hb [V, .slice none 0 0, .slice none 0 0] 121 := M.blk.fram F1 (fun hk => M.own.neblk M.blk (by decide) _ hk rfl)
  have F2 : Fram (fun b => b = hb) w1 (w1.setRow hb [V', .slice none 0 0, .slice none 0 0].toArray) := Fram.set w1 hb _ (.inl rfl)
  refine ⟨hb1, ⟨hb1.set _, ?_, ?_⟩, ?_⟩
  · have := hown.fram F2 (fun b hb' he => hown.neblk hb1 (by decide) b hb' he)
    simpa using this
  · intro m hm
    rcases List.mem_append.1 hm with h1 | h1
    · exact M.a4 m h1
    · rw [List.mem_singleton.1 h1]; exact hnd
  · exact (F1.mono (fun k hk hx => .inr hx)).trans (F2.mono (fun k hk hx => .inl hx))

theorem at_keep {hb ab : Nat} {V : Value} {hp : List Nd} {w w1 : World} {atl : List Value} (M : MH w.heap hb V hp) (ha : Blk w.heap ab atl 122) (F : Fram (fun b => b = hb ∨ V.ownBlock = some b) w w1) : Blk w1.heap ab atl 122 := by
  refine ha.fram F ?_
  rintro (h | h)
  · subst h
    have := (ha.uniq M.blk).2
    simp at this
  · exact M.own.neblk ha (by decide) _ h rfl

set_option maxHeartbeats 1600000 in
theorem build61 {hb ab : Nat} {code : List UInt8} (hc : code.length ≤ 48) : ∀ (kk : Nat) (p : Nat) (V : Value) (hp : List Nd) (env : List (Option Nat)) (a : Nat) (r : List UInt8) (env' : List (Option Nat)) (ns : List Nd) (w : World), (code.drop p).length ≤ kk → Ld 1 (code.drop p) env hp.length [a] r env' ns → BS hb ab V hp env w → hp.length + ns.length ≤ 64 →
    Ret Tryz.prog 61 [ptr hb, S code, i64c p, ptr ab] w (BuildOK hb ab V hp code a r env' ns w) := by
  intro kk
  induction kk with
  | zero =>
    intro p V hp env a r env' ns w hk hL
    obtain ⟨c, rest, hrest⟩ := hL.ne
    rw [hrest] at hk
    simp at hk
  | succ kk IH =>
  intro p V hp env a r env' ns w hk hL B0 h64
  obtain ⟨c, rest, hrest⟩ := hL.ne
  obtain ⟨hcp, hdr, hpl⟩ := drop_cons hrest
  rw [hrest] at hL hk
  have hE := B0.elt
  have hEl := B0.envl
  have hB := B0.mh.blk
  obtain ⟨atl, hat, hatm⟩ := B0.at_
  obtain ⟨a0, cap0, rfl⟩ := B0.mh.own.form
  refine ret_of Tryz.func61 rfl Tryz.ntmps61 rfl ?_
  refine c_seq (fun K1 hK1 => ?_)
  refine c_reg ?_ -- region 0 heapm.go:125
  refine wl (ro_assign rfl) ?_
  refine wl (ro_assign rfl) ?_
  refine wl_nil (x_then (hK1 _ _ ?_))
  clear hK1 K1
  refine forget [(0, _), (1, _), (2, _), (3, _)] ⟨rfl, rfl, rfl, rfl, trivial⟩ (fun e => ?_)
  refine c_seq (fun K2 hK2 => ?_)
  refine c_reg ?_ -- region 1 heapm.go:126
  refine wl (ro_move rfl) ?_
  refine wl (ro_move rfl) ?_
  refine wl (ro_indexS rfl rfl st_9 rfl (hcp)) ?_
  refine wl (ro_assign rfl) ?_
  refine wl_nil (x_then (hK2 _ _ ?_))
  clear hK2 K2
  refine forget [(0, _), (1, _), (2, _), (3, _), (10, _)] ⟨rfl, rfl, rfl, rfl, rfl, trivial⟩ (fun e => ?_)
  refine c_seq (fun K3 hK3 => ?_)
  refine c_reg ?_ -- region 2 heapm.go:127
  refine wl (ro_move rfl) ?_
  refine wl (ro_nilCheck rfl) ?_
  refine wl (ro_fieldAddr (k := 0) rfl fo_121_0) ?_
  refine wl (ro_loadB rfl sc_118 (by assumption) rfl) ?_
  refine wl (ro_lenL rfl se_118) ?_
  refine wl (ro_assign rfl) ?_
  refine wl_nil (x_then (hK3 _ _ ?_))
  clear hK3 K3
  refine c_seq (fun K4 hK4 => ?_)
  refine c_seq (fun K5 hK5 => ?_)
  refine c_reg ?_ -- region 3 heapm.go:128
  refine wl (ro_move rfl) ?_
  refine wl_call rfl en_103 (isVar103 c) ?_
  rintro _ w ⟨rfl, rfl⟩
  refine wl_nil (x_then (hK5 _ _ ?_))
  clear hK5 K5
  refine wc_cond rfl (fun hc25 => ?_) (fun hc25 => ?_)
  · try simp only [decide_eq_true_eq, decide_eq_false_iff_not, Bool.not_eq_true', Bool.not_eq_false', Bool.not_eq_eq_eq_not, Bool.not_true, Bool.not_false, beq_iff_eq, bne_iff_ne, ne_eq, beq_eq_false_iff_ne, bne_eq_false_iff_eq, gt_iff_lt, ge_iff_le, Int.not_lt, Int.not_le] at hc25
    have hvr : 65 ≤ c.toNat ∧ c.toNat < 71 := by simpa [isV] using hc25
    obtain ⟨v, hv⟩ : ∃ v, v = c.toNat - 65 := ⟨_, rfl⟩
    have hv6 : v < 6 := by omega
    have hcase := hL.var hc25
    rw [← hv] at hcase
    have hcell := hatm.2 v hv6
    refine c_seq (fun K6 hK6 => ?_)
    refine c_seq (fun K7 hK7 => ?_)
    refine c_reg ?_ -- region 4 heapm.go:129
    refine wl (ro_move rfl) ?_
    refine wl (ro_move rfl) ?_
    refine wl (ro_arith rfl rfl rfl (Go.IntWalk.u8_in _ (by omega))) ?_
    refine wl (ro_nilCheck rfl) ?_
    refine wl (ro_indexAddrA (et := 3) (k := 1) rfl rfl ar_122 ((by show (_ : Int) = ((v : Nat) : Int); omega)) (hv6)) ?_
    refine wl (ro_loadB rfl sc_3 (hat) ((by rw [Nat.zero_add, Nat.mul_one]; exact hcell))) ?_
    refine wl (ro_cmp (r := !(env.getD v none).isSome) rfl rfl (by cases env.getD v none with | none => rfl | some q => exact congrArg some (decide_eq_false (by simp [optI])))) ?_
    refine wl_nil (x_then (hK7 _ _ ?_))
    clear hK7 K7
    refine wc_cond rfl (fun hc32 => ?_) (fun hc32 => ?_)
    · try simp only [decide_eq_true_eq, decide_eq_false_iff_not, Bool.not_eq_true', Bool.not_eq_false', Bool.not_eq_eq_eq_not, Bool.not_true, Bool.not_false, beq_iff_eq, bne_iff_ne, ne_eq, beq_eq_false_iff_ne, bne_eq_false_iff_eq, gt_iff_lt, ge_iff_le, Int.not_lt, Int.not_le] at hc32
      have hnone : env.getD v none = none := by cases hx : env.getD v none with | none => rfl | some a => rw [hx] at hc32; cases hc32
      have hcase : ∃ ns1, a = hp.length ∧ ns = vnd hp.length :: ns1 ∧ Ld 0 rest (env.set v (some hp.length)) (hp.length + 1) [] r env' ns1 := by
        rcases hcase with ⟨a, ks1, ha, _⟩ | ⟨ks1, ns1, ha, h1, h2, h3⟩
        · rw [hnone] at ha; cases ha
        · cases h1; exact ⟨ns1, rfl, h2, h3⟩
      obtain ⟨ns1, rfl, rfl, hL1⟩ := hcase
      obtain ⟨_, h0r, h0e, rfl⟩ := hL1.inv0
      refine c_seq (fun K8 hK8 => ?_)
      refine c_reg ?_ -- region 5 heapm.go:130
      refine wl (ro_move rfl) ?_
      refine wl (ro_move rfl) ?_
      refine wl (ro_arith rfl rfl rfl (Go.IntWalk.u8_in _ (by omega))) ?_
      refine wl (ro_move rfl) ?_
      refine wl (ro_nilCheck rfl) ?_
      refine wl (ro_indexAddrA (et := 3) (k := 1) rfl rfl ar_122 ((by show (_ : Int) = ((v : Nat) : Int); omega)) (hv6)) ?_
      refine wls (so_storeB rfl rfl rfl sz_3 (hat) (by rw [hatm.1]; omega)) ?_
      have hne : hb ≠ ab := by { intro e; subst e; have := (hB.uniq hat).2; simp at this }
      have F1 : Fram (fun b => b = ab) w (w.setRow ab (atl.set (0 + v * 1) (i64c hp.length)).toArray) := Fram.set w ab _ (.inl rfl)
      have M1 : MH (w.setRow ab (atl.set (0 + v * 1) (i64c hp.length)).toArray).heap hb (.slice a0 hp.length cap0) hp := B0.mh.fram F1 hne (fun b hb' he => B0.mh.own.neblk hat (by decide) b hb' he)
      have A1 := hat.set (atl.set (0 + v * 1) (i64c hp.length))
      refine gen3 (A := fun w1 => MH w1.heap hb (.slice a0 hp.length cap0) hp) (B := fun w1 => Blk w1.heap ab (atl.set (0 + v * 1) (i64c hp.length)) 122) (D := fun w1 => Fram (fun b => b = ab) w w1) (C := fun w1 => WL _ _ _ _ _ w1) M1 A1 F1 ?_
      rw [Nat.zero_add, Nat.mul_one]
      clear M1 A1 F1 hB hat
      intro w1 M1 A1 F1
      have hB := M1.blk
      have hatm1 := atM_set (b := hp.length) hatm hv6 hEl
      have hs1 := F1.size
      refine wl_nil (x_then (hK8 _ _ ?_))
      clear hK8 K8
      refine c_reg ?_ -- region 6 heapm.go:131
      refine wl (ro_move rfl) ?_
      refine wl (ro_move rfl) ?_
      refine wl (ro_nilCheck rfl) ?_
      refine wl (ro_fieldAddr (k := 0) rfl fo_121_0) ?_
      refine wl (ro_loadB rfl sc_118 (by assumption) rfl) ?_
      refine wl (ro_move rfl) ?_
      refine wl (ro_build rfl bld_184_1) ?_
      refine wle (eo_bs1 rfl rfl se_118 zx_184 rfl rfl rfl) ?_
      have hN := Blk.new w1 (ndc (vnd hp.length)) 184
      have M2 := M1.none (Fram.alloc none' w1 (.cells (ndc (vnd hp.length)).toArray 184))
      have A2 := A1.alloc (.cells (ndc (vnd hp.length)).toArray 184)
      refine wl_app (news := ndc (vnd hp.length)) rfl rfl se_118 zx_184 by_184 rfl M2.own hN rfl rfl (by simp [ndc, vnd, S, i64c, Value.oneCell']) (by omega) (by omega) ?_
      intro V3 w3 hown hgr hloc
      obtain ⟨a3, cap3, rfl⟩ := hown.form
      obtain ⟨hb4, M4, F4⟩ := mh_push M2 (nd := vnd hp.length) rfl hgr hown
      have A4 := at_keep M2 A2 F4
      have F5 : Fram (BFoot hb ab (.slice a0 hp.length cap0) w) w _ := (F1.mono (fun k hk hx => .inr (.inl hx))).trans' ((Fram.alloc (fun b => b = hb ∨ (Value.slice a0 hp.length cap0).ownBlock = some b) w1 (.cells (ndc (vnd hp.length)).toArray 184)).trans F4) (fun k hk hx => by rcases hx with hx | hx; exact .inl hx; exact .inr (.inr (.inl hx)))
      refine wl (ro_nilCheck rfl) ?_
      refine wl (ro_fieldAddr (k := 0) rfl fo_121_0) ?_
      refine wls (so_storeB rfl rfl rfl sz_118 (hb4) (by simp)) ?_
      refine gen3 (A := fun w1 => MH w1.heap hb (.slice a3 (hp.length + 1) cap3) (hp ++ [vnd hp.length])) (B := fun w1 => Blk w1.heap ab (atl.set v (i64c hp.length)) 122) (D := fun w1 => Fram (BFoot hb ab (.slice a0 hp.length cap0) w) w w1) (C := fun w1 => WL _ _ _ _ _ w1) M4 A4 F5 ?_
      clear M4 A4 F5 F4 hb4 hown hgr A2 M2 hN A1 M1 hB
      intro w5 M5 A5 F5
      have hcell5 := hatm1.2 v hv6
      have hgs : (env.set v (some hp.length)).getD v none = some hp.length := by rw [List.getD_eq_getElem?_getD, List.getElem?_set]; simp [hEl, hv6]
      rw [hgs] at hcell5
      refine wl_nil (x_then (hK6 _ _ ?_))
      clear hK6 K6
      refine forget [(2, _), (3, _), (10, _)] ⟨rfl, rfl, rfl, trivial⟩ (fun e => ?_)
      refine c_seq (fun K9 hK9 => ?_)
      refine c_reg ?_ -- region 7 heapm.go:133
      refine wl (ro_move rfl) ?_
      refine wl (ro_move rfl) ?_
      refine wl (ro_arith rfl rfl rfl (Go.IntWalk.u8_in _ (by omega))) ?_
      refine wl (ro_nilCheck rfl) ?_
      refine wl (ro_indexAddrA (et := 3) (k := 1) rfl rfl ar_122 ((by show (_ : Int) = ((v : Nat) : Int); omega)) (hv6)) ?_
      refine wl (ro_loadB rfl sc_3 (A5) ((by rw [Nat.zero_add, Nat.mul_one]; exact hcell5))) ?_
      refine wl (ro_move rfl) ?_
      refine wl (ro_arith rfl rfl rfl (Go.IntWalk.i64_in _ (by omega))) ?_
      refine wl (ro_assign rfl) ?_
      refine wl (ro_assign rfl) ?_
      refine wl_nil (x_then (hK9 _ _ ?_))
      clear hK9 K9
      refine c_ret (x_thenR ?_)
      refine bp_ret Tryz.results61 rfl ?_
      refine ⟨p + 1, _, rfl, by rw [hdr, h0r], by omega, ⟨M5, ⟨_, A5, by rw [h0e]; exact hatm1⟩, by rw [h0e]; simpa using hEl, by rw [h0e]; have := envLt_set (i := v) hE; simpa using this⟩, ?_, F5⟩
      intro b hb'
      rcases hloc with h | h
      · rw [h] at hb'; exact .inl hb'
      · rw [h] at hb'; cases hb'; exact .inr (by simp; omega)
    · try simp only [decide_eq_true_eq, decide_eq_false_iff_not, Bool.not_eq_true', Bool.not_eq_false', Bool.not_eq_eq_eq_not, Bool.not_true, Bool.not_false, beq_iff_eq, bne_iff_ne, ne_eq, beq_eq_false_iff_ne, bne_eq_false_iff_eq, gt_iff_lt, ge_iff_le, Int.not_lt, Int.not_le] at hc32
      have hsome : ∃ q, env.getD v none = some q := by cases hx : env.getD v none with | none => rw [hx] at hc32; cases hc32 | some a => exact ⟨a, rfl⟩
      obtain ⟨q, hq⟩ := hsome
      have hcase : a = q ∧ Ld 0 rest env hp.length [] r env' ns := by
        rcases hcase with ⟨a', ks1, ha', h2, h3⟩ | ⟨ks1, ns1, hx, _⟩
        · rw [hq] at ha'; cases ha'; cases h2; exact ⟨rfl, h3⟩
        · rw [hq] at hx; cases hx
      obtain ⟨rfl, hL1⟩ := hcase
      obtain ⟨_, h0r, h0e, rfl⟩ := hL1.inv0
      rw [hq] at hcell
      refine c_skip (x_then (hK6 _ _ ?_))
      clear hK6 K6
      refine forget [(2, _), (3, _), (10, _)] ⟨rfl, rfl, rfl, trivial⟩ (fun e => ?_)
      refine c_seq (fun K10 hK10 => ?_)
      refine c_reg ?_ -- region 7 heapm.go:133
      refine wl (ro_move rfl) ?_
      refine wl (ro_move rfl) ?_
      refine wl (ro_arith rfl rfl rfl (Go.IntWalk.u8_in _ (by omega))) ?_
      refine wl (ro_nilCheck rfl) ?_
      refine wl (ro_indexAddrA (et := 3) (k := 1) rfl rfl ar_122 ((by show (_ : Int) = ((v : Nat) : Int); omega)) (hv6)) ?_
      refine wl (ro_loadB rfl sc_3 (hat) ((by rw [Nat.zero_add, Nat.mul_one]; exact hcell))) ?_
      refine wl (ro_move rfl) ?_
      refine wl (ro_arith rfl rfl rfl (Go.IntWalk.i64_in _ (by omega))) ?_
      refine wl (ro_assign rfl) ?_
      refine wl (ro_assign rfl) ?_
      refine wl_nil (x_then (hK10 _ _ ?_))
      clear hK10 K10
      refine c_ret (x_thenR ?_)
      refine bp_ret Tryz.results61 rfl ?_
      refine ⟨p + 1, _, rfl, by rw [hdr, h0r], by omega, by rw [List.append_nil, h0e]; exact B0, fun b hb' => .inl hb', Fram.refl _ _⟩
  · try simp only [decide_eq_true_eq, decide_eq_false_iff_not, Bool.not_eq_true', Bool.not_eq_false', Bool.not_eq_eq_eq_not, Bool.not_true, Bool.not_false, beq_iff_eq, bne_iff_ne, ne_eq, beq_eq_false_iff_ne, bne_eq_false_iff_eq, gt_iff_lt, ge_iff_le, Int.not_lt, Int.not_le] at hc25
    obtain ⟨d, code1, ks1, r1, env1, ns1, ks2, ns2, hF, rfl, hD, hL1, hL2, hka, rfl⟩ := hL.str hc25
    obtain ⟨rfl, h0r, h0e, rfl⟩ := hL2.inv0
    cases hka
    obtain ⟨hdp, hdr2, hpl2⟩ := drop_cons hdr
    have hdd : 48 ≤ d.toNat ∧ d.toNat ≤ 52 := by simpa [isD] using hD
    obtain ⟨q1, q2, q3, q4, q5, q6⟩ := hL1.facts (fun i a ha => by have := hE i a ha; omega)
    have hsl : (code.drop p).take (p + 2 - p) = [c, d] := by rw [hrest, show p + 2 - p = 2 by omega]; rfl
    simp only [List.length_cons, List.length_append, List.length_nil, Nat.add_zero] at h64
    refine c_skip (x_then (hK4 _ _ ?_))
    clear hK4 K4
    refine forget [(0, _), (1, _), (2, _), (3, _), (11, _)] ⟨rfl, rfl, rfl, rfl, rfl, trivial⟩ (fun e => ?_)
    refine c_seq (fun K11 hK11 => ?_)
    refine c_piL 15 [(0, false), (1, false), (2, false), (3, false), (4, false), (5, false), (6, false), (7, false), (8, false), (9, false), (10, false), (11, true), (12, true), (13, false), (14, false)] (fun w' => Blk w'.heap hb [.slice a0 hp.length cap0, .slice none 0 0, .slice none 0 0] 121) mixed (by kernel_rfl) rfl (by kernel_rfl) (po_then (po_bp)) (hB) ?_ -- region 8 heapm.go:135
    refine ql_ro rfl (fun w hS => ro_move rfl) ?_
    refine ql_ro rfl (fun w hS => ro_move rfl) ?_
    refine ql_ro rfl (fun w hS => ro_nilCheck rfl) ?_
    refine ql_ro rfl (fun w hS => ro_fieldAddr (k := 0) rfl fo_121_0) ?_
    refine ql_ro rfl (fun w hS => ro_loadB rfl sc_118 (hS) rfl) ?_
    refine ql_ro rfl (fun w hS => ro_move rfl) ?_
    refine ql_ro rfl (fun w hS => ro_move rfl) ?_
    refine ql_ro rfl (fun w hS => ro_move rfl) ?_
    refine ql_ro rfl (fun w hS => ro_arith rfl rfl rfl (Go.IntWalk.i64_in _ (by omega))) ?_
    refine ql_ro rfl (fun w hS => (show RO _ _ _ _ _ (S [c, d]) from hsl ▸ ro_sliceSLH (l := p) (h := p + 2) rfl rfl rfl st_9 rfl (by omega) (by omega) (by omega))) ?_
    refine ql_ro rfl (fun w hS => ro_build rfl bld_184_0) ?_
    refine ql_eo rfl (eo_bs1 rfl rfl se_118 zx_184 rfl rfl rfl) (hB.alloc _) ?_
    have hN := Blk.new { w with drawn := w.drawn + 1 } (ndc ⟨[c, d], 0, [0, 0, 0, 0]⟩) 184
    have M2 := (B0.mh.none (Fram.drew none' w (w.drawn + 1))).none (Fram.alloc none' _ (.cells (ndc ⟨[c, d], 0, [0, 0, 0, 0]⟩).toArray 184))
    refine ql_app (news := ndc ⟨[c, d], 0, [0, 0, 0, 0]⟩) rfl rfl rfl se_118 zx_184 by_184 rfl M2.own hN rfl rfl (by simp [ndc, S, i64c, Value.oneCell']) (by omega) (by omega) ?_
    intro V3 w3 hown hgr hloc
    obtain ⟨a3, cap3, rfl⟩ := hown.form
    obtain ⟨hb4, M4, F4⟩ := mh_push M2 (nd := ⟨[c, d], 0, [0, 0, 0, 0]⟩) rfl hgr hown
    have F3 : Fram (fun b => b = hb ∨ (Value.slice a0 hp.length cap0).ownBlock = some b) w _ := ((Fram.drew _ w (w.drawn + 1)).thenAlloc (o := .cells (ndc ⟨[c, d], 0, [0, 0, 0, 0]⟩).toArray 184)).trans F4
    have A4 := at_keep B0.mh hat F3
    refine ⟨hb4, ?_⟩
    refine ql_ro rfl (fun w hS => ro_nilCheck rfl) ?_
    refine ql_ro rfl (fun w hS => ro_fieldAddr (k := 0) rfl fo_121_0) ?_
    refine ql_last rfl (so_storeB rfl rfl rfl sz_118 (hb4) (by simp)) ?_
    have F5 : Fram (BFoot hb ab (.slice a0 hp.length cap0) w) w _ := F3.mono (fun k hk hx => by rcases hx with hx | hx; exact .inl hx; exact .inr (.inr (.inl hx)))
    refine x_then (hK11 _ _ ?_)
    clear hK11 K11
    refine forget [(0, _), (1, _), (2, _), (3, _), (11, _)] ⟨rfl, rfl, rfl, rfl, rfl, trivial⟩ (fun e => ?_)
    refine c_seq (fun K12 hK12 => ?_)
    refine gen3 (A := fun w1 => MH w1.heap hb (.slice a3 (hp.length + 1) cap3) (hp ++ [(⟨[c, d], 0, [0, 0, 0, 0]⟩ : Nd)])) (B := fun w1 => Blk w1.heap ab atl 122) (D := fun w1 => Fram (BFoot hb ab (.slice a0 hp.length cap0) w) w w1) (C := fun w1 => WC _ _ _ _ w1) M4 A4 F5 ?_
    clear M4 A4 F5 F4 F3 hb4 hown hgr M2 hN hB
    intro w5 M5 A5 F5
    refine c_reg ?_ -- region 9 heapm.go:136
    refine wl (ro_move rfl) ?_
    refine wl (ro_move rfl) ?_
    refine wl (ro_move rfl) ?_
    refine wl (ro_arith rfl rfl rfl (Go.IntWalk.i64_in _ (by omega))) ?_
    refine wl ((show RO _ _ _ _ _ (S [c, d]) from hsl ▸ ro_sliceSLH (l := p) (h := p + 2) rfl rfl rfl st_9 rfl (by omega) (by omega) (by omega))) ?_
    refine wl_call rfl en_104 (arity104 (h := [c, d]) (.inr ⟨c, d, rfl, hdd.1, hdd.2⟩)) ?_
    rintro _ w5 ⟨rfl, rfl⟩
    refine wl (ro_assign rfl) ?_
    refine wl_nil (x_then (hK12 _ _ ?_))
    clear hK12 K12
    refine forget [(0, _), (1, _), (2, _), (3, _), (11, _), (12, _)] ⟨rfl, rfl, rfl, rfl, rfl, rfl, trivial⟩ (fun e => ?_)
    refine c_seq (fun K13 hK13 => ?_)
    refine c_reg ?_ -- region 10 heapm.go:137
    refine wl (ro_move rfl) ?_
    refine wl (ro_arith rfl rfl rfl (Go.IntWalk.i64_in _ (by omega))) ?_
    refine wl (ro_assign rfl) ?_
    refine wl_nil (x_then (hK13 _ _ ?_))
    clear hK13 K13
    refine c_seq (fun K14 hK14 => ?_)
    refine c_seq (fun K15 hK15 => ?_)
    refine c_reg ?_ -- region 11 heapm.go:138
    refine wl (ro_assign rfl) ?_
    refine wl_nil (x_then (hK15 _ _ ?_))
    clear hK15 K15
    refine c_block ?_
    -- loop@r12: live slots [0, 1, 2, 3, 11, 12, 13]
    refine c_loopG (fun q a' w' => ∃ i p1 V1 kids nsA env1' ks2 nsB, q = d.toNat - 48 - i ∧ i ≤ d.toNat - 48 ∧ kids.length = i ∧ Ld (d.toNat - 48 - i) (code.drop p1) env1' (hp.length + 1 + nsA.length) ks2 r env' nsB ∧ ks1 = kids ++ ks2 ∧ ns1 = nsA ++ nsB ∧ BS hb ab V1 (hp ++ [⟨[c, d], 0, pad4 kids⟩] ++ nsA) env1' w' ∧ (∀ b, V1.ownBlock = some b → (Value.slice a0 hp.length cap0).ownBlock = some b ∨ w.heap.size ≤ b) ∧ Fram (BFoot hb ab (.slice a0 hp.length cap0) w) w w' ∧ p1 ≤ code.length ∧ p < p1 ∧ ∃ e, a' = Fr 107 (upds e [(0, ptr hb), (1, S code), (2, i64c p1), (3, ptr ab), (11, i64c hp.length), (12, i64c (d.toNat - 48)), (13, i64c i)]) []) (d.toNat - 48) ⟨0, p + 1 + 1, _, [], [], env, ks1, ns1, rfl, by omega, rfl, by rw [hdr2, h0r, h0e]; exact hL1, rfl, rfl, ⟨by rw [List.append_nil]; exact M5, ⟨_, A5, hatm⟩, hEl, (fun i a ha => by have := hE i a ha; simp; omega)⟩, ?_, F5, by omega, by omega, kp _ ⟨rfl, rfl, ?_, rfl, rfl, ?_, rfl, trivial⟩⟩ ?_
    · intro b hb'
      rcases hloc with h | h
      · rw [h] at hb'; exact .inl hb'
      · rw [h] at hb'; cases hb'; exact .inr (by simp)
    · show some (Value.int .i64 ((p : Int) + 2)) = some (.int .i64 ((p + 1 + 1 : Nat) : Int))
      congr 2
    · rfl
    clear M5 A5 F5 hloc
    rintro q a' w6 ⟨i, p1, V1, kids, nsA, env1', ks2, nsB, rfl, hi, hki, hLi, hks, hns, B6, hV1, F6, hp1, hpp, e, rfl⟩
    refine c_seq (fun K16 hK16 => ?_)
    refine c_seq (fun K17 hK17 => ?_)
    refine c_reg ?_ -- region 12 heapm.go:138
    refine wl (ro_move rfl) ?_
    refine wl (ro_move rfl) ?_
    refine wl (ro_cmp rfl rfl rfl) ?_
    refine wl_nil (x_then (hK17 _ _ ?_))
    clear hK17 K17
    refine wc_cond rfl (fun hc83 => ?_) (fun hc83 => ?_)
    · try simp only [decide_eq_true_eq, decide_eq_false_iff_not, Bool.not_eq_true', Bool.not_eq_false', Bool.not_eq_eq_eq_not, Bool.not_true, Bool.not_false, beq_iff_eq, bne_iff_ne, ne_eq, beq_eq_false_iff_ne, bne_eq_false_iff_eq, gt_iff_lt, ge_iff_le, Int.not_lt, Int.not_le] at hc83
      have hilt : i < d.toNat - 48 := by omega
      obtain ⟨j, hj⟩ : ∃ j, d.toNat - 48 - i = j + 1 := ⟨d.toNat - 48 - i - 1, by omega⟩
      rw [hj] at hLi
      obtain ⟨k, ks3, r3, env3, nsk, nsC, hLk, hLr, rfl, rfl⟩ := hLi.split1
      have hcur : (hp ++ [⟨[c, d], 0, pad4 kids⟩] ++ nsA : List Nd).length = hp.length + 1 + nsA.length := by simp; omega
      rw [← hcur] at hLk
      have hnl : ns1.length = nsA.length + (nsk.length + nsC.length) := by rw [hns]; simp
      refine c_skip (x_then (hK16 _ _ ?_))
      clear hK16 K16
      refine forget [(0, _), (1, _), (2, _), (3, _), (11, _), (12, _), (13, _)] ⟨rfl, rfl, rfl, rfl, rfl, rfl, rfl, trivial⟩ (fun e => ?_)
      refine c_seq (fun K18 hK18 => ?_)
      refine c_block ?_
      refine c_seq (fun K19 hK19 => ?_)
      refine c_reg ?_ -- region 14 heapm.go:139
      refine wl (ro_move rfl) ?_
      refine wl (ro_move rfl) ?_
      refine wl (ro_move rfl) ?_
      refine wl (ro_move rfl) ?_
      refine wl_call rfl en_61 (IH p1 V1 _ env1' k r3 env3 nsk w6 (by have := congrArg List.length hrest; simp at this hk ⊢; omega) hLk B6 (by rw [hcur]; omega)) ?_
      rintro _ w7 ⟨p2, V2, rfl, hp2d, hp2, B7, hV2, F7⟩
      obtain ⟨g, cap, l, rfl, hBl, hc1, hc2, hl1, hl2⟩ := B7.mh.own.pos (by simp; omega)
      have hB7 := B7.mh.blk
      have hnd7 : (hp ++ [⟨[c, d], 0, pad4 kids⟩] ++ nsA ++ nsk : List Nd)[hp.length]? = some ⟨[c, d], 0, pad4 kids⟩ := by
        rw [List.append_assoc, List.append_assoc, List.getElem?_append_right (by omega)]
        simp
      have hi4 : i < 4 := by omega
      refine wl (ro_move rfl) ?_
      refine wl (ro_extract rfl rfl) ?_
      refine wl (ro_extract rfl rfl) ?_
      refine wl (ro_assign rfl) ?_
      refine wl (ro_assign rfl) ?_
      refine wl_nil (x_then (hK19 _ _ ?_))
      clear hK19 K19
      refine forget [(0, _), (1, _), (3, _), (11, _), (12, _), (13, _), (14, _), (15, _)] ⟨rfl, rfl, rfl, rfl, rfl, rfl, rfl, rfl, trivial⟩ (fun e => ?_)
      refine c_seq (fun K20 hK20 => ?_)
      refine c_reg ?_ -- region 15 heapm.go:140
      refine wl (ro_move rfl) ?_
      refine wl (ro_nilCheck rfl) ?_
      refine wl (ro_fieldAddr (k := 0) rfl fo_121_0) ?_
      refine wl (ro_loadB rfl sc_118 (by assumption) rfl) ?_
      refine wl (ro_move rfl) ?_
      refine wl (ro_move rfl) ?_
      refine wl (ro_move rfl) ?_
      refine wl (ro_indexAddr (et := 184) (k := 6) rfl rfl se_118 rfl ((by simp))) ?_
      refine wl (ro_fieldAddr (k := 2) rfl fo_184_2) ?_
      refine wl (ro_indexAddrA (et := 3) (k := 1) rfl rfl ar_182 rfl (hi4)) ?_
      refine wls (so_storeB rfl rfl rfl sz_3 (hBl) (by rw [hl1]; simp at hc1; omega)) ?_
      have M8 := mh_setA (k := k) B7.mh hBl hnd7 hi4
      have hset : (hp ++ [⟨[c, d], 0, pad4 kids⟩] ++ nsA ++ nsk : List Nd).set hp.length ⟨[c, d], 0, (pad4 kids).set i k⟩ = hp ++ [⟨[c, d], 0, pad4 (kids ++ [k])⟩] ++ (nsA ++ nsk) := by
        rw [← hki, pad4_add (by omega), List.append_assoc, List.append_assoc, List.set_append_right _ _ (by omega)]
        simp
      rw [hset] at M8
      obtain ⟨atl7, hat7, hatm7⟩ := B7.at_
      have hat8 := hat7.set_ne (b := g) (l.set (0 + hp.length * 6 + 2 + i * 1) (i64c k)).toArray (fun e => B7.mh.own.neblk hat7 (by decide) g rfl e.symm)
      refine wl_nil (x_then (hK20 _ _ ?_))
      clear hK20 K20
      refine c_reg ?_ -- region 16 heapm.go:141
      refine wl (ro_move rfl) ?_
      refine wl (ro_assign rfl) ?_
      refine wl_nil (x_blk (x_then (hK18 _ _ ?_)))
      clear hK18 K18
      refine c_reg ?_ -- region 13 heapm.go:138
      refine wl (ro_move rfl) ?_
      refine wl (ro_arith rfl rfl rfl (Go.IntWalk.i64_in _ (by omega))) ?_
      refine wl (ro_assign rfl) ?_
      refine wl_nil (x_then ?_)
      refine ⟨d.toNat - 48 - (i + 1), by omega, i + 1, p2, _, kids ++ [k], nsA ++ nsk, env3, ks3, nsC, rfl, by omega, by simp [hki], ?_, by rw [hks]; simp, by rw [hns]; simp, ⟨M8, ⟨_, hat8, hatm7⟩, B7.envl, ?_⟩, ?_, ?_, hp2, ?_, kp _ ⟨rfl, rfl, rfl, rfl, rfl, rfl, rfl, trivial⟩⟩
      · rw [hp2d, show d.toNat - 48 - (i + 1) = j by omega]
        have : hp.length + 1 + (nsA ++ nsk).length = hp.length + 1 + nsA.length + nsk.length := by simp; omega
        rw [this]
        exact hLr
      · have := B7.elt
        simpa [Nat.add_assoc] using this
      · intro b hb'
        rcases hV2 b hb' with h | h
        · exact hV1 b h
        · exact .inr (Nat.le_trans F6.size h)
      · have F8 : Fram (BFoot hb ab V1 w6) w6 _ := F7.thenSet (b := g) (cs := (l.set (0 + hp.length * 6 + 2 + i * 1) (i64c k)).toArray) (by rcases hV2 g rfl with h | h; exact .inl (.inr (.inr (.inl h))); exact .inr h)
        exact F6.trans' F8 (fun kk hkk hx => BFoot.sub F6.size hV1 hx)
      · have hz := (hLk.facts B6.elt).2.2.2.2.1
        have h2 := congrArg List.length hp2d
        simp only [List.length_drop] at hz h2
        omega
    · try simp only [decide_eq_true_eq, decide_eq_false_iff_not, Bool.not_eq_true', Bool.not_eq_false', Bool.not_eq_eq_eq_not, Bool.not_true, Bool.not_false, beq_iff_eq, bne_iff_ne, ne_eq, beq_eq_false_iff_ne, bne_eq_false_iff_eq, gt_iff_lt, ge_iff_le, Int.not_lt, Int.not_le] at hc83
      have hie : i = d.toNat - 48 := by omega
      rw [show d.toNat - 48 - i = 0 by omega] at hLi
      obtain ⟨rfl, h1r, h1e, rfl⟩ := hLi.inv0
      refine c_exit (x_thenX (x_thenX (x_blkX (x_then (hK14 _ _ ?_)))))
      clear hK16 K16 hK14 K14
      refine forget [(2, _), (11, _)] ⟨rfl, rfl, trivial⟩ (fun e => ?_)
      refine c_seq (fun K21 hK21 => ?_)
      refine c_reg ?_ -- region 17 heapm.go:143
      refine wl (ro_move rfl) ?_
      refine wl (ro_move rfl) ?_
      refine wl (ro_assign rfl) ?_
      refine wl (ro_assign rfl) ?_
      refine wl_nil (x_then (hK21 _ _ ?_))
      clear hK21 K21
      refine c_ret ?_
      refine bp_ret Tryz.results61 rfl ?_
      refine ⟨p1, V1, rfl, h1r.symm, hp1, ?_, hV1, F6⟩
      simp only [List.append_nil] at hks hns
      subst hks hns
      rw [h1e]
      simpa using B6

end Go.Proofs.Qxb6500569aGreat
