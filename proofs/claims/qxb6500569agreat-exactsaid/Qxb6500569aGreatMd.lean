import Derived.Test.Qxb6500569aGreatMc
/- The model heap: the unification. -/
namespace Go.Proofs.Qxb6500569aGreat
set_option linter.unusedVariables false
set_option linter.unusedSimpArgs false

def VZ (hp : List Nd) : Prop := ∀ nd ∈ hp, nd.h = [] → nd.a = [0, 0, 0, 0]

theorem bnd_len (hp : List Nd) (v t : Nat) : (bnd hp v t).length = hp.length := by simp [bnd]

theorem bnd_get {hp : List Nd} {v t i : Nat} : (bnd hp v t)[i]? = if v = i then (if v < hp.length then some ⟨[], t, [0, 0, 0, 0]⟩ else none) else hp[i]? := by
  unfold bnd; rw [List.getElem?_set]

/-- The structures of hp stand in hp'. -/
def Stay (hp hp' : List Nd) : Prop := hp'.length = hp.length ∧ ∀ (i : Nat) (nd : Nd), hp[i]? = some nd → nd.h ≠ [] → hp'[i]? = some nd

theorem Stay.refl (hp : List Nd) : Stay hp hp := ⟨rfl, fun _ _ h _ => h⟩
theorem Stay.trans {a b c : List Nd} (h : Stay a b) (k : Stay b c) : Stay a c := ⟨k.1.trans h.1, fun i nd hi hn => k.2 i nd (h.2 i nd hi hn) hn⟩

theorem stay_bnd {hp : List Nd} {v t : Nat} {nd : Nd} (hv : hp[v]? = some nd) (hn : nd.h = []) : Stay hp (bnd hp v t) := by
  refine ⟨bnd_len _ _ _, fun i m hi hm => ?_⟩
  rw [bnd_get, if_neg]
  · exact hi
  · intro e; subst e; rw [hv] at hi; cases hi; exact hm hn

theorem wfh_bnd {hp : List Nd} (w : WFH hp) {v t : Nat} {nd m : Nd} (hv : hp[v]? = some nd) (hn : nd.h = []) (ht : hp[t]? = some m) (ho : t < v ∨ m.h ≠ []) : WFH (bnd hp v t) := by
  have hvl := (List.getElem?_eq_some_iff.1 hv).1
  have htl := (List.getElem?_eq_some_iff.1 ht).1
  have hst := stay_bnd (t := t) hv hn
  constructor
  · intro a q hq hqh
    rw [bnd_len]
    rw [bnd_get] at hq
    split at hq
    · rename_i e; subst e
      cases hq
      refine ⟨htl, ?_⟩
      rcases ho with ho | ho
      · exact .inl (by simp only; omega)
      · exact .inr ⟨m, hst.2 t m ht ho, ho⟩
    · obtain ⟨h1, h2⟩ := w.var a q hq hqh
      refine ⟨h1, ?_⟩
      rcases h2 with h2 | ⟨x, hx, hxh⟩
      · exact .inl h2
      · exact .inr ⟨x, hst.2 _ x hx hxh, hxh⟩
  · intro a q hq hqh
    rw [bnd_len]
    rw [bnd_get] at hq
    split at hq
    · rename_i e; subst e
      cases hq; exact absurd rfl hqh
    · exact w.str a q hq hqh

theorem vz_bnd {hp : List Nd} (h : VZ hp) (v t : Nat) : VZ (bnd hp v t) := by
  intro nd hnd hn
  obtain ⟨i, hi⟩ := List.getElem?_of_mem hnd
  rw [bnd_get] at hi
  split at hi
  · split at hi
    · cases hi; rfl
    · cases hi
  · exact h nd (List.mem_of_getElem? hi) hn

theorem a4_bnd {hp : List Nd} (h : A4 hp) (v t : Nat) : A4 (bnd hp v t) := by
  intro nd hnd
  obtain ⟨i, hi⟩ := List.getElem?_of_mem hnd
  rw [bnd_get] at hi
  split at hi
  · split at hi
    · cases hi; rfl
    · cases hi
  · exact h nd (List.mem_of_getElem? hi)

theorem ndcs_set : ∀ {hp : List Nd} {a y : Nat} {nd : Nd}, A4 hp → hp[a]? = some nd → (hp.flatMap ndc).set (a * 6 + 1) (i64c y) = (hp.set a { nd with r := y }).flatMap ndc
  | [], a, y, nd, _, h => by simp at h
  | x :: hp, 0, y, nd, h4, h => by
    simp at h; subst h
    simp [ndc]
  | x :: hp, a + 1, y, nd, h4, h => by
    simp at h
    have h1 := ndc_len (h4 x (by simp))
    rw [List.flatMap_cons, List.set_append_right _ _ (by omega), h1, List.set_cons_succ, List.flatMap_cons, show (a + 1) * 6 + 1 - 6 = a * 6 + 1 by omega]
    rw [ndcs_set (fun q hq => h4 q (by simp [hq])) h]

theorem take_set {α : Type} (l : List α) (m i : Nat) (v : α) (h : i < m) : (l.set i v).take m = (l.take m).set i v := by
  apply List.ext_getElem?
  intro j
  simp only [List.getElem?_take, List.getElem?_set, List.length_take]
  by_cases hj : j < m
  · by_cases hij : i = j
    · subst hij
      by_cases hl : i < l.length
      · simp [hj, hl]; omega
      · simp [hj, hl]; omega
    · simp [hj, hij]
  · by_cases hij : i = j
    · omega
    · simp [hj, hij]

theorem mh_bind {w : World} {hb g n cap x y : Nat} {hp : List Nd} {l : List Value} {nd : Nd} (M : MH w.heap hb (.slice (some ⟨g, 0, none⟩) n cap) hp) (hB : Blk w.heap g l 184) (hl : l.take (hp.length * 6) = hp.flatMap ndc) (hx : hp[x]? = some nd) (hn : nd.h = []) (vz : VZ hp) :
    MH (w.setRow g (l.set (0 + x * 6 + 1) (i64c y)).toArray).heap hb (.slice (some ⟨g, 0, none⟩) n cap) (bnd hp x y) := by
  have hxl := (List.getElem?_eq_some_iff.1 hx).1
  have hne : hb ≠ g := fun e => M.own.neblk M.blk (by decide) g rfl e.symm
  refine ⟨M.blk.set_ne _ hne, ?_, a4_bnd M.a4 x y⟩
  have hbn : hp.set x { nd with r := y } = bnd hp x y := by
    unfold bnd
    congr 1
    have := vz nd (List.mem_of_getElem? hx) hn
    cases nd
    simp at hn this
    simp [hn, this]
  have hs := ndcs_set (y := y) M.a4 hx
  rw [hbn] at hs
  obtain ⟨h1, h2⟩ := M.own
  refine ⟨?_, ?_⟩
  · rw [← hs, List.length_set, bnd_len]; exact h1
  · rw [bnd_len]
    rcases h2 with ⟨h2, _⟩ | ⟨g', cap', l', e1, e2, e3, e4, e5, e6⟩
    · cases h2
    · cases e1
      obtain ⟨rfl, _⟩ := hB.uniq e2
      refine .inr ⟨g, cap, _, rfl, hB.set _, e3, e4, by simpa using e5, ?_⟩
      rw [take_set _ _ _ _ (by omega), e6, show 0 + x * 6 + 1 = x * 6 + 1 by omega, hs]

structure HOK (hp : List Nd) : Prop where
  wf : WFH hp
  vz : VZ hp
  cap : hp.length ≤ 64

def UniOK (hb : Nat) (V : Value) (hp : List Nd) (a b n : Nat) (w : World) (r : Value) (w' : World) : Prop :=
  ∃ hp' m e, r = .tuple #[i64c m, i64c e] ∧ MH w'.heap hb V hp' ∧ HOK hp' ∧ Stay hp hp' ∧ n < m ∧ m ≤ 41 ∧ (e = 0 → m ≤ 40) ∧ (∀ st, uniS ((a, b) :: st) hp n = if e = 0 then uniS st hp' m else (m, e, hp')) ∧ Fram (fun b => V.ownBlock = some b) w w'

set_option maxHeartbeats 1600000 in
theorem uni107 {hb : Nat} {V : Value} : ∀ (k n a b : Nat) (hp : List Nd) (w : World), MH w.heap hb V hp → HOK hp → n ≤ 40 → 41 - n ≤ k → a < hp.length → b < hp.length →
    Ret Tryz.prog 107 [ptr hb, i64c a, i64c b, i64c n] w (UniOK hb V hp a b n w) := by
  intro k
  induction k with
  | zero => intro n a b hp w M hok hn hk; omega
  | succ k IH =>
  intro n a b hp w M hok hn hk ha hbb
  have wf := hok.wf
  have h64 := hok.cap
  have hdx := deref_lt wf ha
  have hdy := deref_lt wf hbb
  have hcons := fun st => uniS_cons a b st hp n hn
  obtain ⟨g, cap, l, rfl, hBl, hc1, hc2, hl1, hl2⟩ := M.own.pos (by omega)
  have hB := M.blk
  refine ret_of Tryz.func107 rfl Tryz.ntmps107 rfl ?_
  refine c_seq (fun K1 hK1 => ?_)
  refine c_reg ?_ -- region 0 heapm.go:161
  refine wl (ro_assign rfl) ?_
  refine wl (ro_assign rfl) ?_
  refine wl_nil (x_then (hK1 _ _ ?_))
  clear hK1 K1
  refine forget [(0, _), (1, _), (2, _), (3, _)] ⟨rfl, rfl, rfl, rfl, trivial⟩ (fun e => ?_)
  refine c_seq (fun K2 hK2 => ?_)
  refine c_reg ?_ -- region 1 heapm.go:162
  refine wl (ro_move rfl) ?_
  refine wl (ro_arith rfl rfl rfl (Go.IntWalk.i64_in _ (by omega))) ?_
  refine wl (ro_assign rfl) ?_
  refine wl_nil (x_then (hK2 _ _ ?_))
  clear hK2 K2
  refine c_seq (fun K3 hK3 => ?_)
  refine c_seq (fun K4 hK4 => ?_)
  refine c_reg ?_ -- region 2 heapm.go:163
  refine wl (ro_move rfl) ?_
  refine wl (ro_cmp rfl rfl rfl) ?_
  refine wl_nil (x_then (hK4 _ _ ?_))
  clear hK4 K4
  refine wc_cond rfl (fun hc19 => ?_) (fun hc19 => ?_)
  · try simp only [decide_eq_true_eq, decide_eq_false_iff_not, Bool.not_eq_true', Bool.not_eq_false', Bool.not_eq_eq_eq_not, Bool.not_true, Bool.not_false, beq_iff_eq, bne_iff_ne, ne_eq, beq_eq_false_iff_ne, bne_eq_false_iff_eq, gt_iff_lt, ge_iff_le, Int.not_lt, Int.not_le] at hc19
    have hn40 : n = 40 := by omega
    refine c_seq (fun K5 hK5 => ?_)
    refine c_reg ?_ -- region 3 heapm.go:164
    refine wl (ro_move rfl) ?_
    refine wl (ro_assign rfl) ?_
    refine wl (ro_assign rfl) ?_
    refine wl_nil (x_then (hK5 _ _ ?_))
    clear hK5 K5
    refine c_ret (x_thenR ?_)
    refine bp_ret Tryz.results107 rfl ?_
    refine ⟨hp, 41, 8, by rw [hn40]; rfl, M, hok, Stay.refl _, by omega, by omega, by omega, ?_, Fram.refl _ _⟩
    intro st
    rw [hcons st, if_pos (by omega), hn40]; rfl
  · try simp only [decide_eq_true_eq, decide_eq_false_iff_not, Bool.not_eq_true', Bool.not_eq_false', Bool.not_eq_eq_eq_not, Bool.not_true, Bool.not_false, beq_iff_eq, bne_iff_ne, ne_eq, beq_eq_false_iff_ne, bne_eq_false_iff_eq, gt_iff_lt, ge_iff_le, Int.not_lt, Int.not_le] at hc19
    have hn40 : n < 40 := by omega
    simp only [show ¬ 40 < n + 1 by omega, if_false] at hcons
    refine c_skip (x_then (hK3 _ _ ?_))
    clear hK3 K3
    refine forget [(0, _), (1, _), (2, _), (3, _)] ⟨rfl, rfl, rfl, rfl, trivial⟩ (fun e => ?_)
    refine c_seq (fun K6 hK6 => ?_)
    refine c_reg ?_ -- region 4 heapm.go:166
    refine wl (ro_move rfl) ?_
    refine wl (ro_move rfl) ?_
    refine wl_call rfl en_105 (Deref105 M wf ha h64) ?_
    rintro _ w ⟨rfl, rfl⟩
    refine wl (ro_assign rfl) ?_
    refine wl_nil (x_then (hK6 _ _ ?_))
    clear hK6 K6
    refine forget [(0, _), (1, _), (2, _), (3, _)] ⟨rfl, rfl, rfl, rfl, trivial⟩ (fun e => ?_)
    refine c_seq (fun K7 hK7 => ?_)
    refine c_reg ?_ -- region 5 heapm.go:167
    refine wl (ro_move rfl) ?_
    refine wl (ro_move rfl) ?_
    refine wl_call rfl en_105 (Deref105 M wf hbb h64) ?_
    rintro _ w ⟨rfl, rfl⟩
    refine wl (ro_assign rfl) ?_
    refine wl_nil (x_then (hK7 _ _ ?_))
    clear hK7 K7
    refine c_seq (fun K8 hK8 => ?_)
    refine c_seq (fun K9 hK9 => ?_)
    generalize deref hp a = x at *
    generalize deref hp b = y at *
    obtain ⟨nx, hnx⟩ : ∃ nd, hp[x]? = some nd := ⟨_, List.getElem?_eq_getElem hdx⟩
    obtain ⟨ny, hny⟩ : ∃ nd, hp[y]? = some nd := ⟨_, List.getElem?_eq_getElem hdy⟩
    have hcx := own_cell hl2 (ndcs_get M.a4 hnx (ndc_h nx))
    have hcy := own_cell hl2 (ndcs_get M.a4 hny (ndc_h ny))
    have hox : hOf hp x = nx.h := by simp [hOf, hnx]
    have hoy : hOf hp y = ny.h := by simp [hOf, hny]
    refine c_reg ?_ -- region 6 heapm.go:168
    refine wl (ro_move rfl) ?_
    refine wl (ro_move rfl) ?_
    refine wl (ro_cmp (r := decide (x = y)) rfl rfl (congrArg some (beqc _ _))) ?_
    refine wl_nil (x_then (hK9 _ _ ?_))
    clear hK9 K9
    refine wc_cond rfl (fun hc29 => ?_) (fun hc29 => ?_)
    · try simp only [decide_eq_true_eq, decide_eq_false_iff_not, Bool.not_eq_true', Bool.not_eq_false', Bool.not_eq_eq_eq_not, Bool.not_true, Bool.not_false, beq_iff_eq, bne_iff_ne, ne_eq, beq_eq_false_iff_ne, bne_eq_false_iff_eq, gt_iff_lt, ge_iff_le, Int.not_lt, Int.not_le] at hc29
      have hxy : x = y := by simpa using hc29
      refine c_seq (fun K10 hK10 => ?_)
      refine c_reg ?_ -- region 7 heapm.go:169
      refine wl (ro_move rfl) ?_
      refine wl (ro_assign rfl) ?_
      refine wl (ro_assign rfl) ?_
      refine wl_nil (x_then (hK10 _ _ ?_))
      clear hK10 K10
      refine c_ret (x_thenR ?_)
      refine bp_ret Tryz.results107 rfl ?_
      refine ⟨hp, n + 1, 0, rfl, M, hok, Stay.refl _, by omega, by omega, by omega, ?_, Fram.refl _ _⟩
      intro st
      rw [hcons st, if_pos hxy]; rfl
    · try simp only [decide_eq_true_eq, decide_eq_false_iff_not, Bool.not_eq_true', Bool.not_eq_false', Bool.not_eq_eq_eq_not, Bool.not_true, Bool.not_false, beq_iff_eq, bne_iff_ne, ne_eq, beq_eq_false_iff_ne, bne_eq_false_iff_eq, gt_iff_lt, ge_iff_le, Int.not_lt, Int.not_le] at hc29
      have hxy : ¬ x = y := by simpa using hc29
      simp only [hxy, if_false, hox, hoy] at hcons
      refine c_skip (x_then (hK8 _ _ ?_))
      clear hK8 K8
      refine forget [(0, _), (1, _), (2, _), (3, _)] ⟨rfl, rfl, rfl, rfl, trivial⟩ (fun e => ?_)
      refine c_seq (fun K11 hK11 => ?_)
      refine c_reg ?_ -- region 8 heapm.go:171
      refine wl (ro_move rfl) ?_
      refine wl (ro_nilCheck rfl) ?_
      refine wl (ro_fieldAddr (k := 0) rfl fo_121_0) ?_
      refine wl (ro_loadB rfl sc_118 (by assumption) rfl) ?_
      refine wl (ro_move rfl) ?_
      refine wl (ro_indexAddr (et := 184) (k := 6) rfl rfl se_118 rfl (hdx)) ?_
      refine wl (ro_fieldAddr (k := 0) rfl fo_184_0) ?_
      refine wl (ro_loadB rfl sc_9 (hBl) ((by rw [show 0 + x * 6 + 0 = x * 6 + 0 by omega]; exact hcx))) ?_
      refine wl (ro_assign rfl) ?_
      refine wl_nil (x_then (hK11 _ _ ?_))
      clear hK11 K11
      refine forget [(0, _), (1, _), (2, _), (3, _), (10, _)] ⟨rfl, rfl, rfl, rfl, rfl, trivial⟩ (fun e => ?_)
      refine c_seq (fun K12 hK12 => ?_)
      refine c_reg ?_ -- region 9 heapm.go:172
      refine wl (ro_move rfl) ?_
      refine wl (ro_nilCheck rfl) ?_
      refine wl (ro_fieldAddr (k := 0) rfl fo_121_0) ?_
      refine wl (ro_loadB rfl sc_118 (by assumption) rfl) ?_
      refine wl (ro_move rfl) ?_
      refine wl (ro_indexAddr (et := 184) (k := 6) rfl rfl se_118 rfl (hdy)) ?_
      refine wl (ro_fieldAddr (k := 0) rfl fo_184_0) ?_
      refine wl (ro_loadB rfl sc_9 (hBl) ((by rw [show 0 + y * 6 + 0 = y * 6 + 0 by omega]; exact hcy))) ?_
      refine wl (ro_assign rfl) ?_
      refine wl_nil (x_then (hK12 _ _ ?_))
      clear hK12 K12
      refine c_seq (fun K13 hK13 => ?_)
      refine c_seq (fun K14 hK14 => ?_)
      by_cases hx0 : nx.h = []
      · skip
        refine c_reg ?_ -- region 10 heapm.go:173
        refine wl (ro_move rfl) ?_
        refine wl (ro_eqS (r := true) rfl rfl (by rw [hx0]; rfl)) ?_
        refine wl (ro_move rfl) ?_
        refine wlg_yes rfl (ro_move rfl) ?_
        refine wlg_yes rfl (ro_eqS (r := decide (ny.h = [])) rfl rfl (congrArg some (eqnil _))) ?_
        refine wl (ro_pick rfl rfl rfl) ?_
        refine wl_nil (x_then (hK14 _ _ ?_))
        clear hK14 K14
        refine wc_cond rfl (fun hc52 => ?_) (fun hc52 => ?_)
        · try simp only [decide_eq_true_eq, decide_eq_false_iff_not, Bool.not_eq_true', Bool.not_eq_false', Bool.not_eq_eq_eq_not, Bool.not_true, Bool.not_false, beq_iff_eq, bne_iff_ne, ne_eq, beq_eq_false_iff_ne, bne_eq_false_iff_eq, gt_iff_lt, ge_iff_le, Int.not_lt, Int.not_le] at hc52
          have hy0 : ny.h = [] := by simpa using hc52
          simp only [hx0, hy0, and_self, if_true] at hcons
          refine c_seq (fun K15 hK15 => ?_)
          refine c_seq (fun K16 hK16 => ?_)
          refine c_reg ?_ -- region 11 heapm.go:174
          refine wl (ro_move rfl) ?_
          refine wl (ro_move rfl) ?_
          refine wl (ro_cmp rfl rfl rfl) ?_
          refine wl_nil (x_then (hK16 _ _ ?_))
          clear hK16 K16
          refine wc_cond rfl (fun hc55 => ?_) (fun hc55 => ?_)
          · try simp only [decide_eq_true_eq, decide_eq_false_iff_not, Bool.not_eq_true', Bool.not_eq_false', Bool.not_eq_eq_eq_not, Bool.not_true, Bool.not_false, beq_iff_eq, bne_iff_ne, ne_eq, beq_eq_false_iff_ne, bne_eq_false_iff_eq, gt_iff_lt, ge_iff_le, Int.not_lt, Int.not_le] at hc55
            have hlt : x < y := by omega
            simp only [hlt, if_true] at hcons
            refine c_reg ?_ -- region 12 heapm.go:175
            refine wl (ro_move rfl) ?_
            refine wl (ro_nilCheck rfl) ?_
            refine wl (ro_fieldAddr (k := 0) rfl fo_121_0) ?_
            refine wl (ro_loadB rfl sc_118 (by assumption) rfl) ?_
            refine wl (ro_move rfl) ?_
            refine wl (ro_move rfl) ?_
            refine wl (ro_indexAddr (et := 184) (k := 6) rfl rfl se_118 rfl (hdy)) ?_
            refine wl (ro_fieldAddr (k := 1) rfl fo_184_1) ?_
            refine wls (so_storeB rfl rfl rfl sz_3 (hBl) (by rw [hl1]; omega)) ?_
            refine wl_nil (x_then (hK15 _ _ ?_))
            clear hK15 K15
            refine forget [(3, _)] ⟨rfl, trivial⟩ (fun e => ?_)
            refine c_seq (fun K17 hK17 => ?_)
            refine c_reg ?_ -- region 14 heapm.go:179
            refine wl (ro_move rfl) ?_
            refine wl (ro_assign rfl) ?_
            refine wl (ro_assign rfl) ?_
            refine wl_nil (x_then (hK17 _ _ ?_))
            clear hK17 K17
            refine c_ret (x_thenR ?_)
            refine bp_ret Tryz.results107 rfl ?_
            refine ⟨bnd hp y x, n + 1, 0, rfl, mh_bind M hBl hl2 hny hy0 hok.vz, ⟨wfh_bnd wf hny hy0 hnx (.inl hlt), vz_bnd hok.vz _ _, by rw [bnd_len]; exact h64⟩, stay_bnd hny hy0, by omega, by omega, by omega, ?_, Fram.set w g _ (.inl rfl)⟩
            intro st
            rw [hcons st]; rfl
          · try simp only [decide_eq_true_eq, decide_eq_false_iff_not, Bool.not_eq_true', Bool.not_eq_false', Bool.not_eq_eq_eq_not, Bool.not_true, Bool.not_false, beq_iff_eq, bne_iff_ne, ne_eq, beq_eq_false_iff_ne, bne_eq_false_iff_eq, gt_iff_lt, ge_iff_le, Int.not_lt, Int.not_le] at hc55
            have hlt : y < x := by omega
            simp only [show ¬ x < y by omega, if_false] at hcons
            refine c_reg ?_ -- region 13 heapm.go:177
            refine wl (ro_move rfl) ?_
            refine wl (ro_nilCheck rfl) ?_
            refine wl (ro_fieldAddr (k := 0) rfl fo_121_0) ?_
            refine wl (ro_loadB rfl sc_118 (by assumption) rfl) ?_
            refine wl (ro_move rfl) ?_
            refine wl (ro_move rfl) ?_
            refine wl (ro_indexAddr (et := 184) (k := 6) rfl rfl se_118 rfl (hdx)) ?_
            refine wl (ro_fieldAddr (k := 1) rfl fo_184_1) ?_
            refine wls (so_storeB rfl rfl rfl sz_3 (hBl) (by rw [hl1]; omega)) ?_
            refine wl_nil (x_then (hK15 _ _ ?_))
            clear hK15 K15
            refine forget [(3, _)] ⟨rfl, trivial⟩ (fun e => ?_)
            refine c_seq (fun K18 hK18 => ?_)
            refine c_reg ?_ -- region 14 heapm.go:179
            refine wl (ro_move rfl) ?_
            refine wl (ro_assign rfl) ?_
            refine wl (ro_assign rfl) ?_
            refine wl_nil (x_then (hK18 _ _ ?_))
            clear hK18 K18
            refine c_ret (x_thenR ?_)
            refine bp_ret Tryz.results107 rfl ?_
            refine ⟨bnd hp x y, n + 1, 0, rfl, mh_bind M hBl hl2 hnx hx0 hok.vz, ⟨wfh_bnd wf hnx hx0 hny (.inl hlt), vz_bnd hok.vz _ _, by rw [bnd_len]; exact h64⟩, stay_bnd hnx hx0, by omega, by omega, by omega, ?_, Fram.set w g _ (.inl rfl)⟩
            intro st
            rw [hcons st]; rfl
        · try simp only [decide_eq_true_eq, decide_eq_false_iff_not, Bool.not_eq_true', Bool.not_eq_false', Bool.not_eq_eq_eq_not, Bool.not_true, Bool.not_false, beq_iff_eq, bne_iff_ne, ne_eq, beq_eq_false_iff_ne, bne_eq_false_iff_eq, gt_iff_lt, ge_iff_le, Int.not_lt, Int.not_le] at hc52
          have hy0 : ny.h ≠ [] := by simpa using hc52
          simp only [hx0, hy0, and_false, if_false, if_true] at hcons
          refine c_skip (x_then (hK13 _ _ ?_))
          clear hK13 K13
          refine c_seq (fun K19 hK19 => ?_)
          refine c_seq (fun K20 hK20 => ?_)
          refine c_reg ?_ -- region 15 heapm.go:181
          refine wl (ro_move rfl) ?_
          refine wl (ro_eqS (r := false) rfl rfl (by show some (ny.h == []) = some false; rw [eqnil]; simp [hy0])) ?_
          refine wl_nil (x_then (hK20 _ _ ?_))
          clear hK20 K20
          refine wc_condF rfl ?_
          refine c_skip (x_then (hK19 _ _ ?_))
          clear hK19 K19
          refine c_seq (fun K21 hK21 => ?_)
          refine c_seq (fun K22 hK22 => ?_)
          refine c_reg ?_ -- region 18 heapm.go:185
          refine wl (ro_move rfl) ?_
          refine wl (ro_eqS (r := true) rfl rfl (by rw [hx0]; rfl)) ?_
          refine wl_nil (x_then (hK22 _ _ ?_))
          clear hK22 K22
          refine wc_condT rfl ?_
          refine c_seq (fun K23 hK23 => ?_)
          refine c_reg ?_ -- region 19 heapm.go:186
          refine wl (ro_move rfl) ?_
          refine wl (ro_move rfl) ?_
          refine wl (ro_move rfl) ?_
          refine wl (ro_move rfl) ?_
          refine wl_call rfl en_123 (occurs123 wf h64 (41 - (n + 1)) (n + 1) y w M (by omega) (by omega) hdy) ?_
          rintro _ w ⟨⟨m, e2, rfl, g1, g2, g3, g4⟩, rfl⟩
          have hocc : occS hp x [y] (n + 1) = (m, e2) := by
            rw [g4 []]
            split
            · rename_i h0; rw [occS_nil _ _ _ g2, h0]
            · rfl
          simp only [hocc] at hcons
          refine wl (ro_move rfl) ?_
          refine wl (ro_extract rfl rfl) ?_
          refine wl (ro_extract rfl rfl) ?_
          refine wl (ro_assign rfl) ?_
          refine wl (ro_assign rfl) ?_
          refine wl_nil (x_then (hK23 _ _ ?_))
          clear hK23 K23
          refine c_seq (fun K24 hK24 => ?_)
          refine c_seq (fun K25 hK25 => ?_)
          refine c_reg ?_ -- region 20 heapm.go:187
          refine wl (ro_move rfl) ?_
          refine wl (ro_cmp (r := decide (e2 = 0)) rfl rfl (congrArg some (beqc e2 0))) ?_
          refine wl_nil (x_then (hK25 _ _ ?_))
          clear hK25 K25
          refine wc_cond rfl (fun hc88 => ?_) (fun hc88 => ?_)
          · try simp only [decide_eq_true_eq, decide_eq_false_iff_not, Bool.not_eq_true', Bool.not_eq_false', Bool.not_eq_eq_eq_not, Bool.not_true, Bool.not_false, beq_iff_eq, bne_iff_ne, ne_eq, beq_eq_false_iff_ne, bne_eq_false_iff_eq, gt_iff_lt, ge_iff_le, Int.not_lt, Int.not_le] at hc88
            have he : e2 = 0 := by simpa using hc88
            subst he
            refine c_reg ?_ -- region 21 heapm.go:188
            refine wl (ro_move rfl) ?_
            refine wl (ro_nilCheck rfl) ?_
            refine wl (ro_fieldAddr (k := 0) rfl fo_121_0) ?_
            refine wl (ro_loadB rfl sc_118 (by assumption) rfl) ?_
            refine wl (ro_move rfl) ?_
            refine wl (ro_move rfl) ?_
            refine wl (ro_indexAddr (et := 184) (k := 6) rfl rfl se_118 rfl (hdx)) ?_
            refine wl (ro_fieldAddr (k := 1) rfl fo_184_1) ?_
            refine wls (so_storeB rfl rfl rfl sz_3 (hBl) (by rw [hl1]; omega)) ?_
            refine wl_nil (x_then (hK24 _ _ ?_))
            clear hK24 K24
            refine forget [(12, _), (13, _)] ⟨rfl, rfl, trivial⟩ (fun e => ?_)
            refine c_seq (fun K26 hK26 => ?_)
            refine c_reg ?_ -- region 22 heapm.go:190
            refine wl (ro_move rfl) ?_
            refine wl (ro_move rfl) ?_
            refine wl (ro_assign rfl) ?_
            refine wl (ro_assign rfl) ?_
            refine wl_nil (x_then (hK26 _ _ ?_))
            clear hK26 K26
            refine c_ret (x_thenR ?_)
            refine bp_ret Tryz.results107 rfl ?_
            refine ⟨bnd hp x y, m, 0, rfl, mh_bind M hBl hl2 hnx hx0 hok.vz, ⟨wfh_bnd wf hnx hx0 hny (.inr hy0), vz_bnd hok.vz _ _, by rw [bnd_len]; exact h64⟩, stay_bnd hnx hx0, by omega, by omega, g3, ?_, Fram.set w g _ (.inl rfl)⟩
            intro st
            rw [hcons st]; rfl
          · try simp only [decide_eq_true_eq, decide_eq_false_iff_not, Bool.not_eq_true', Bool.not_eq_false', Bool.not_eq_eq_eq_not, Bool.not_true, Bool.not_false, beq_iff_eq, bne_iff_ne, ne_eq, beq_eq_false_iff_ne, bne_eq_false_iff_eq, gt_iff_lt, ge_iff_le, Int.not_lt, Int.not_le] at hc88
            have he : e2 ≠ 0 := by simpa using hc88
            obtain ⟨e2, rfl⟩ : ∃ q, e2 = q + 1 := ⟨e2 - 1, by omega⟩
            refine c_skip (x_then (hK24 _ _ ?_))
            clear hK24 K24
            refine forget [(12, _), (13, _)] ⟨rfl, rfl, trivial⟩ (fun e => ?_)
            refine c_seq (fun K27 hK27 => ?_)
            refine c_reg ?_ -- region 22 heapm.go:190
            refine wl (ro_move rfl) ?_
            refine wl (ro_move rfl) ?_
            refine wl (ro_assign rfl) ?_
            refine wl (ro_assign rfl) ?_
            refine wl_nil (x_then (hK27 _ _ ?_))
            clear hK27 K27
            refine c_ret (x_thenR ?_)
            refine bp_ret Tryz.results107 rfl ?_
            refine ⟨hp, m, e2 + 1, rfl, M, hok, Stay.refl _, by omega, by omega, g3, ?_, Fram.refl _ _⟩
            intro st
            rw [hcons st]; rfl
      · skip
        refine c_reg ?_ -- region 10 heapm.go:173
        refine wl (ro_move rfl) ?_
        refine wl (ro_eqS (r := false) rfl rfl (by show some (nx.h == []) = some false; rw [eqnil]; simp [hx0])) ?_
        refine wl (ro_move rfl) ?_
        refine wlg_no rfl ?_
        refine wlg_no rfl ?_
        refine wl (ro_pick rfl rfl rfl) ?_
        refine wl_nil (x_then (hK14 _ _ ?_))
        clear hK14 K14
        refine wc_condF rfl ?_
        refine c_skip (x_then (hK13 _ _ ?_))
        clear hK13 K13
        refine c_seq (fun K28 hK28 => ?_)
        refine c_seq (fun K29 hK29 => ?_)
        simp only [hx0, false_and, if_false] at hcons
        refine c_reg ?_ -- region 15 heapm.go:181
        refine wl (ro_move rfl) ?_
        refine wl (ro_eqS (r := decide (ny.h = [])) rfl rfl (congrArg some (eqnil _))) ?_
        refine wl_nil (x_then (hK29 _ _ ?_))
        clear hK29 K29
        refine wc_cond rfl (fun hc74 => ?_) (fun hc74 => ?_)
        · try simp only [decide_eq_true_eq, decide_eq_false_iff_not, Bool.not_eq_true', Bool.not_eq_false', Bool.not_eq_eq_eq_not, Bool.not_true, Bool.not_false, beq_iff_eq, bne_iff_ne, ne_eq, beq_eq_false_iff_ne, bne_eq_false_iff_eq, gt_iff_lt, ge_iff_le, Int.not_lt, Int.not_le] at hc74
          have hy0 : ny.h = [] := by simpa using hc74
          simp only [hy0, if_true] at hcons
          refine c_seq (fun K30 hK30 => ?_)
          refine c_reg ?_ -- region 16 heapm.go:182
          refine wl (ro_move rfl) ?_
          refine wl (ro_move rfl) ?_
          refine wl (ro_assign rfl) ?_
          refine wl (ro_assign rfl) ?_
          refine wl_nil (x_then (hK30 _ _ ?_))
          clear hK30 K30
          refine c_reg ?_ -- region 17 heapm.go:183
          refine wl (ro_assign rfl) ?_
          refine wl_nil (x_then (hK28 _ _ ?_))
          clear hK28 K28
          refine c_seq (fun K31 hK31 => ?_)
          refine c_seq (fun K32 hK32 => ?_)
          refine c_reg ?_ -- region 18 heapm.go:185
          refine wl (ro_move rfl) ?_
          refine wl (ro_eqS (r := true) rfl rfl rfl) ?_
          refine wl_nil (x_then (hK32 _ _ ?_))
          clear hK32 K32
          refine wc_condT rfl ?_
          refine c_seq (fun K33 hK33 => ?_)
          refine c_reg ?_ -- region 19 heapm.go:186
          refine wl (ro_move rfl) ?_
          refine wl (ro_move rfl) ?_
          refine wl (ro_move rfl) ?_
          refine wl (ro_move rfl) ?_
          refine wl_call rfl en_123 (occurs123 wf h64 (41 - (n + 1)) (n + 1) x w M (by omega) (by omega) hdx) ?_
          rintro _ w ⟨⟨m, e2, rfl, g1, g2, g3, g4⟩, rfl⟩
          have hocc : occS hp y [x] (n + 1) = (m, e2) := by
            rw [g4 []]
            split
            · rename_i h0; rw [occS_nil _ _ _ g2, h0]
            · rfl
          simp only [hocc] at hcons
          refine wl (ro_move rfl) ?_
          refine wl (ro_extract rfl rfl) ?_
          refine wl (ro_extract rfl rfl) ?_
          refine wl (ro_assign rfl) ?_
          refine wl (ro_assign rfl) ?_
          refine wl_nil (x_then (hK33 _ _ ?_))
          clear hK33 K33
          refine c_seq (fun K34 hK34 => ?_)
          refine c_seq (fun K35 hK35 => ?_)
          refine c_reg ?_ -- region 20 heapm.go:187
          refine wl (ro_move rfl) ?_
          refine wl (ro_cmp (r := decide (e2 = 0)) rfl rfl (congrArg some (beqc e2 0))) ?_
          refine wl_nil (x_then (hK35 _ _ ?_))
          clear hK35 K35
          refine wc_cond rfl (fun hc88 => ?_) (fun hc88 => ?_)
          · try simp only [decide_eq_true_eq, decide_eq_false_iff_not, Bool.not_eq_true', Bool.not_eq_false', Bool.not_eq_eq_eq_not, Bool.not_true, Bool.not_false, beq_iff_eq, bne_iff_ne, ne_eq, beq_eq_false_iff_ne, bne_eq_false_iff_eq, gt_iff_lt, ge_iff_le, Int.not_lt, Int.not_le] at hc88
            have he : e2 = 0 := by simpa using hc88
            subst he
            refine c_reg ?_ -- region 21 heapm.go:188
            refine wl (ro_move rfl) ?_
            refine wl (ro_nilCheck rfl) ?_
            refine wl (ro_fieldAddr (k := 0) rfl fo_121_0) ?_
            refine wl (ro_loadB rfl sc_118 (by assumption) rfl) ?_
            refine wl (ro_move rfl) ?_
            refine wl (ro_move rfl) ?_
            refine wl (ro_indexAddr (et := 184) (k := 6) rfl rfl se_118 rfl (hdy)) ?_
            refine wl (ro_fieldAddr (k := 1) rfl fo_184_1) ?_
            refine wls (so_storeB rfl rfl rfl sz_3 (hBl) (by rw [hl1]; omega)) ?_
            refine wl_nil (x_then (hK34 _ _ ?_))
            clear hK34 K34
            refine forget [(12, _), (13, _)] ⟨rfl, rfl, trivial⟩ (fun e => ?_)
            refine c_seq (fun K36 hK36 => ?_)
            refine c_reg ?_ -- region 22 heapm.go:190
            refine wl (ro_move rfl) ?_
            refine wl (ro_move rfl) ?_
            refine wl (ro_assign rfl) ?_
            refine wl (ro_assign rfl) ?_
            refine wl_nil (x_then (hK36 _ _ ?_))
            clear hK36 K36
            refine c_ret (x_thenR ?_)
            refine bp_ret Tryz.results107 rfl ?_
            refine ⟨bnd hp y x, m, 0, rfl, mh_bind M hBl hl2 hny hy0 hok.vz, ⟨wfh_bnd wf hny hy0 hnx (.inr hx0), vz_bnd hok.vz _ _, by rw [bnd_len]; exact h64⟩, stay_bnd hny hy0, by omega, by omega, g3, ?_, Fram.set w g _ (.inl rfl)⟩
            intro st
            rw [hcons st]; rfl
          · try simp only [decide_eq_true_eq, decide_eq_false_iff_not, Bool.not_eq_true', Bool.not_eq_false', Bool.not_eq_eq_eq_not, Bool.not_true, Bool.not_false, beq_iff_eq, bne_iff_ne, ne_eq, beq_eq_false_iff_ne, bne_eq_false_iff_eq, gt_iff_lt, ge_iff_le, Int.not_lt, Int.not_le] at hc88
            have he : e2 ≠ 0 := by simpa using hc88
            obtain ⟨e2, rfl⟩ : ∃ q, e2 = q + 1 := ⟨e2 - 1, by omega⟩
            refine c_skip (x_then (hK34 _ _ ?_))
            clear hK34 K34
            refine forget [(12, _), (13, _)] ⟨rfl, rfl, trivial⟩ (fun e => ?_)
            refine c_seq (fun K37 hK37 => ?_)
            refine c_reg ?_ -- region 22 heapm.go:190
            refine wl (ro_move rfl) ?_
            refine wl (ro_move rfl) ?_
            refine wl (ro_assign rfl) ?_
            refine wl (ro_assign rfl) ?_
            refine wl_nil (x_then (hK37 _ _ ?_))
            clear hK37 K37
            refine c_ret (x_thenR ?_)
            refine bp_ret Tryz.results107 rfl ?_
            refine ⟨hp, m, e2 + 1, rfl, M, hok, Stay.refl _, by omega, by omega, g3, ?_, Fram.refl _ _⟩
            intro st
            rw [hcons st]; rfl
        · try simp only [decide_eq_true_eq, decide_eq_false_iff_not, Bool.not_eq_true', Bool.not_eq_false', Bool.not_eq_eq_eq_not, Bool.not_true, Bool.not_false, beq_iff_eq, bne_iff_ne, ne_eq, beq_eq_false_iff_ne, bne_eq_false_iff_eq, gt_iff_lt, ge_iff_le, Int.not_lt, Int.not_le] at hc74
          have hy0 : ny.h ≠ [] := by simpa using hc74
          simp only [hy0, if_false] at hcons
          refine c_skip (x_then (hK28 _ _ ?_))
          clear hK28 K28
          refine c_seq (fun K38 hK38 => ?_)
          refine c_seq (fun K39 hK39 => ?_)
          refine c_reg ?_ -- region 18 heapm.go:185
          refine wl (ro_move rfl) ?_
          refine wl (ro_eqS (r := false) rfl rfl (by show some (nx.h == []) = some false; rw [eqnil]; simp [hx0])) ?_
          refine wl_nil (x_then (hK39 _ _ ?_))
          clear hK39 K39
          refine wc_condF rfl ?_
          refine c_skip (x_then (hK38 _ _ ?_))
          clear hK38 K38
          refine c_seq (fun K40 hK40 => ?_)
          refine c_seq (fun K41 hK41 => ?_)
          refine c_reg ?_ -- region 23 heapm.go:192
          refine wl (ro_move rfl) ?_
          refine wl (ro_move rfl) ?_
          refine wl (ro_eqS (r := decide (nx.h ≠ ny.h)) rfl rfl (congrArg some (by by_cases h : nx.h = ny.h; simp [h]; simp [h]))) ?_
          refine wl_nil (x_then (hK41 _ _ ?_))
          clear hK41 K41
          refine wc_cond rfl (fun hc101 => ?_) (fun hc101 => ?_)
          · try simp only [decide_eq_true_eq, decide_eq_false_iff_not, Bool.not_eq_true', Bool.not_eq_false', Bool.not_eq_eq_eq_not, Bool.not_true, Bool.not_false, beq_iff_eq, bne_iff_ne, ne_eq, beq_eq_false_iff_ne, bne_eq_false_iff_eq, gt_iff_lt, ge_iff_le, Int.not_lt, Int.not_le] at hc101
            have hne : nx.h ≠ ny.h := by simpa using hc101
            simp only [hne, ne_eq, not_false_eq_true, if_true] at hcons
            refine c_seq (fun K42 hK42 => ?_)
            refine c_reg ?_ -- region 24 heapm.go:193
            refine wl (ro_move rfl) ?_
            refine wl (ro_assign rfl) ?_
            refine wl (ro_assign rfl) ?_
            refine wl_nil (x_then (hK42 _ _ ?_))
            clear hK42 K42
            refine c_ret (x_thenR ?_)
            refine bp_ret Tryz.results107 rfl ?_
            refine ⟨hp, n + 1, 7, rfl, M, hok, Stay.refl _, by omega, by omega, by omega, ?_, Fram.refl _ _⟩
            intro st
            rw [hcons st]; rfl
          · try simp only [decide_eq_true_eq, decide_eq_false_iff_not, Bool.not_eq_true', Bool.not_eq_false', Bool.not_eq_eq_eq_not, Bool.not_true, Bool.not_false, beq_iff_eq, bne_iff_ne, ne_eq, beq_eq_false_iff_ne, bne_eq_false_iff_eq, gt_iff_lt, ge_iff_le, Int.not_lt, Int.not_le] at hc101
            have hne : nx.h = ny.h := by simpa using hc101
            simp only [hne, ne_eq, not_true, if_false] at hcons
            obtain ⟨hk1, hk2, hk3⟩ := kidsOf_get M.a4 wf hnx
            obtain ⟨hj1, hj2, hj3⟩ := kidsOf_get M.a4 wf hny
            have hkbx : ∀ z ∈ kidsOf hp x, z < hp.length := fun z hz => kids_lt wf hnx hz
            have hkby : ∀ z ∈ kidsOf hp y, z < hp.length := fun z hz => kids_lt wf hny hz
            have hhd := wfh_hd wf hnx
            generalize kidsOf hp x = ks at *
            generalize kidsOf hp y = us at *
            have hkus : us.length = ks.length := by rw [hj1, hk1, hne]
            refine c_skip (x_then (hK40 _ _ ?_))
            clear hK40 K40
            refine forget [(0, _), (1, _), (2, _), (3, _), (10, _)] ⟨rfl, rfl, rfl, rfl, rfl, trivial⟩ (fun e => ?_)
            refine c_seq (fun K43 hK43 => ?_)
            refine c_reg ?_ -- region 25 heapm.go:195
            refine wl (ro_assign rfl) ?_
            refine wl_nil (x_then (hK43 _ _ ?_))
            clear hK43 K43
            refine c_seq (fun K44 hK44 => ?_)
            refine c_seq (fun K45 hK45 => ?_)
            refine c_reg ?_ -- region 26 heapm.go:196
            refine wl (ro_assign rfl) ?_
            refine wl_nil (x_then (hK45 _ _ ?_))
            clear hK45 K45
            refine c_block ?_
            -- loop@r27: live slots [0, 1, 2, 3, 10, 14, 15]
            refine c_loopG (fun q a' w' => ∃ i m ec hp1, q = ks.length - i ∧ i ≤ ks.length ∧ n < m ∧ m ≤ 41 ∧ (ec = 0 → m ≤ 40) ∧ (∀ st, uniS ((a, b) :: st) hp n = if ec = 0 then uniS ((ks.zip us).drop i ++ st) hp1 m else (m, ec, hp1)) ∧ MH w'.heap hb (.slice (some ⟨g, 0, none⟩) hp.length cap) hp1 ∧ HOK hp1 ∧ Stay hp hp1 ∧ Fram (fun b => (Value.slice (some ⟨g, 0, none⟩) hp.length cap).ownBlock = some b) w w' ∧ ∃ e', a' = Fr 141 (upds e' [(0, ptr hb), (1, i64c x), (2, i64c y), (3, i64c m), (10, S nx.h), (14, i64c ec), (15, i64c i)]) []) ks.length ⟨0, n + 1, 0, hp, rfl, by omega, by omega, by omega, by omega, fun st => by rw [hcons st]; rfl, M, hok, Stay.refl _, Fram.refl _ _, kp _ ⟨rfl, rfl, rfl, rfl, rfl, rfl, rfl, trivial⟩⟩ ?_
            rintro q a' w1 ⟨i, m, ec, hp1, rfl, hi, hm1, hm2, hm3, hinv, M1, hok1, hst1, F1, e', rfl⟩
            refine c_seq (fun K46 hK46 => ?_)
            refine c_seq (fun K47 hK47 => ?_)
            by_cases hia : i < ks.length
            · skip
              refine c_reg ?_ -- region 27 heapm.go:196
              refine wl (ro_move rfl) ?_
              refine wl (ro_move rfl) ?_
              refine wl_call rfl en_104 (arity104 hhd) ?_
              rintro _ w1 ⟨rfl, rfl⟩
              refine wl (ro_cmp (r := true) rfl rfl (by simp; omega)) ?_
              refine wl (ro_move rfl) ?_
              refine wlg_yes rfl (ro_move rfl) ?_
              refine wlg_yes rfl (ro_cmp (r := decide (ec = 0)) rfl rfl (congrArg some (beqc ec 0))) ?_
              refine wl (ro_pick rfl rfl rfl) ?_
              refine wl_nil (x_then (hK47 _ _ ?_))
              clear hK47 K47
              refine wc_cond rfl (fun hc110 => ?_) (fun hc110 => ?_)
              · try simp only [decide_eq_true_eq, decide_eq_false_iff_not, Bool.not_eq_true', Bool.not_eq_false', Bool.not_eq_eq_eq_not, Bool.not_true, Bool.not_false, beq_iff_eq, bne_iff_ne, ne_eq, beq_eq_false_iff_ne, bne_eq_false_iff_eq, gt_iff_lt, ge_iff_le, Int.not_lt, Int.not_le] at hc110
                have he : ec = 0 := by simpa using hc110
                subst he
                have hm40 := hm3 rfl
                obtain ⟨z, hz⟩ : ∃ z, ks[i]? = some z := ⟨_, List.getElem?_eq_getElem hia⟩
                obtain ⟨z2, hz2⟩ : ∃ z, us[i]? = some z := ⟨_, List.getElem?_eq_getElem (by omega)⟩
                have hza : nx.a[i]? = some z := by rw [hk3 i (by omega)]; exact hz
                have hza2 : ny.a[i]? = some z2 := by rw [hj3 i (by omega)]; exact hz2
                have hfacts : ∀ hp2, Stay hp hp2 → ∀ w2 : World, MH w2.heap hb (.slice (some ⟨g, 0, none⟩) hp.length cap) hp2 → Blk w2.heap hb [.slice (some ⟨g, 0, none⟩) hp.length cap, .slice none 0 0, .slice none 0 0] 121 ∧ ∃ l', Blk w2.heap g l' 184 ∧ l'[0 + x * 6 + 2 + i * 1]? = some (i64c z) ∧ l'[0 + y * 6 + 2 + i * 1]? = some (i64c z2) := by
                  intro hp2 hs2 w2 M2
                  obtain ⟨g', cap', l', e1, e2, e3, e4, e5, e6⟩ := M2.own.pos (by rw [hs2.1]; omega)
                  rw [hs2.1] at e1
                  cases e1
                  refine ⟨M2.blk, l', e2, ?_, ?_⟩
                  · rw [show 0 + x * 6 + 2 + i * 1 = x * 6 + (2 + i) by omega]; exact own_cell e6 (ndcs_get M2.a4 (hs2.2 x nx hnx hx0) (ndc_a hza))
                  · rw [show 0 + y * 6 + 2 + i * 1 = y * 6 + (2 + i) by omega]; exact own_cell e6 (ndcs_get M2.a4 (hs2.2 y ny hny hy0) (ndc_a hza2))
                have hdi : (ks.zip us).drop i = (z, z2) :: (ks.zip us).drop (i + 1) := by
                  rw [List.drop_eq_getElem_cons (by simp; omega)]
                  congr 1
                  simp [(List.getElem?_eq_some_iff.1 hz).2, (List.getElem?_eq_some_iff.1 hz2).2]
                have hlen1 := hst1.1
                refine c_skip (x_then (hK46 _ _ ?_))
                clear hK46 K46
                refine forget [(0, _), (1, _), (2, _), (3, _), (10, _), (15, _), (108, _), (109, _)] ⟨rfl, rfl, rfl, rfl, rfl, rfl, rfl, rfl, trivial⟩ (fun e => ?_)
                refine c_seq (fun K48 hK48 => ?_)
                refine c_block ?_
                refine c_pi [(0, false), (1, false), (2, false), (3, false), (4, false), (5, false), (6, false), (7, false), (8, false), (9, false), (10, false), (11, false), (12, false), (13, false), (14, false), (15, false), (16, false), (17, false), (18, false), (19, false), (20, false), (21, false), (22, true), (23, false), (24, false), (25, false), (26, false), (27, false)] (fun w2 => Blk w2.heap hb [.slice (some ⟨g, 0, none⟩) hp.length cap, .slice none 0 0, .slice none 0 0] 121 ∧ ∃ l', Blk w2.heap g l' 184 ∧ l'[0 + x * 6 + 2 + i * 1]? = some (i64c z) ∧ l'[0 + y * 6 + 2 + i * 1]? = some (i64c z2)) mixed (by kernel_rfl) rfl (by kernel_rfl) (po_blk (po_then (po_then (po_blk (po_then (po_bp)))))) (hfacts hp1 hst1 w1 M1) ?_ -- region 29 heapm.go:197
                refine pi_ro rfl (fun w hS => ro_move rfl) ?_
                refine pi_ro rfl (fun w hS => ro_move rfl) ?_
                refine pi_ro rfl (fun w hS => ro_nilCheck rfl) ?_
                refine pi_ro rfl (fun w hS => ro_fieldAddr (k := 0) rfl fo_121_0) ?_
                refine pi_ro rfl (fun w hS => ro_loadB rfl sc_118 (hS.1) rfl) ?_
                refine pi_ro rfl (fun w hS => ro_move rfl) ?_
                refine pi_ro rfl (fun w hS => ro_move rfl) ?_
                refine pi_ro rfl (fun w hS => ro_indexAddr (et := 184) (k := 6) rfl rfl se_118 rfl (hdx)) ?_
                refine pi_ro rfl (fun w hS => ro_fieldAddr (k := 2) rfl fo_184_2) ?_
                refine pi_ro rfl (fun w hS => ro_indexAddrA (et := 3) (k := 1) rfl rfl ar_182 rfl ((by omega))) ?_
                refine pi_ro rfl (fun w hS => ro_loadB rfl sc_3 ((Classical.choose_spec hS.2).1) ((Classical.choose_spec hS.2).2.1)) ?_
                refine pi_ro rfl (fun w hS => ro_move rfl) ?_
                refine pi_ro rfl (fun w hS => ro_nilCheck rfl) ?_
                refine pi_ro rfl (fun w hS => ro_fieldAddr (k := 0) rfl fo_121_0) ?_
                refine pi_ro rfl (fun w hS => ro_loadB rfl sc_118 (hS.1) rfl) ?_
                refine pi_ro rfl (fun w hS => ro_move rfl) ?_
                refine pi_ro rfl (fun w hS => ro_move rfl) ?_
                refine pi_ro rfl (fun w hS => ro_indexAddr (et := 184) (k := 6) rfl rfl se_118 rfl (hdy)) ?_
                refine pi_ro rfl (fun w hS => ro_fieldAddr (k := 2) rfl fo_184_2) ?_
                refine pi_ro rfl (fun w hS => ro_indexAddrA (et := 3) (k := 1) rfl rfl ar_182 rfl ((by omega))) ?_
                refine pi_ro rfl (fun w hS => ro_loadB rfl sc_3 ((Classical.choose_spec hS.2).1) ((Classical.choose_spec hS.2).2.2)) ?_
                refine pi_ro rfl (fun w hS => ro_move rfl) ?_
                refine pi_call rfl rfl en_107 (IH m z z2 hp1 _ (M1.none (Fram.drew none' w1 (w1.drawn + 1))) hok1 (by omega) (by omega) (by rw [hlen1]; exact hkbx z (List.mem_of_getElem? hz)) (by rw [hlen1]; exact hkby z2 (List.mem_of_getElem? hz2))) ?_
                rintro _ w2 ⟨hp2, m2, e2, rfl, M2, hok2, hst2, g1, g2, g3, g4, F2⟩
                refine ⟨hfacts hp2 (hst1.trans hst2) w2 M2, ?_⟩
                refine pi_ro rfl (fun w hS => ro_move rfl) ?_
                refine pi_ro rfl (fun w hS => ro_extract rfl rfl) ?_
                refine pi_ro rfl (fun w hS => ro_extract rfl rfl) ?_
                refine pi_ro rfl (fun w hS => ro_assign rfl) ?_
                refine pi_ro rfl (fun w hS => ro_assign rfl) ?_
                refine pi_nil (x_blk (x_then (hK48 _ _ ?_)))
                clear hK48 K48
                refine c_reg ?_ -- region 28 heapm.go:196
                refine wl (ro_move rfl) ?_
                refine wl (ro_arith rfl rfl rfl (Go.IntWalk.i64_in _ (by omega))) ?_
                refine wl (ro_assign rfl) ?_
                refine wl_nil (x_then ?_)
                refine ⟨ks.length - (i + 1), by omega, i + 1, m2, e2, hp2, rfl, by omega, by omega, g2, g3, ?_, M2, hok2, hst1.trans hst2, F1.thenDrew.trans F2, kp _ ⟨rfl, rfl, rfl, rfl, rfl, rfl, rfl, trivial⟩⟩
                intro st
                rw [hinv st, if_pos rfl, hdi, List.cons_append]
                exact g4 _
              · try simp only [decide_eq_true_eq, decide_eq_false_iff_not, Bool.not_eq_true', Bool.not_eq_false', Bool.not_eq_eq_eq_not, Bool.not_true, Bool.not_false, beq_iff_eq, bne_iff_ne, ne_eq, beq_eq_false_iff_ne, bne_eq_false_iff_eq, gt_iff_lt, ge_iff_le, Int.not_lt, Int.not_le] at hc110
                have he : ¬ ec = 0 := by simpa using hc110
                refine c_exit (x_thenX (x_thenX (x_blkX (x_then (hK44 _ _ ?_)))))
                clear hK46 K46 hK44 K44
                refine forget [(3, _), (14, _)] ⟨rfl, rfl, trivial⟩ (fun e => ?_)
                refine c_seq (fun K49 hK49 => ?_)
                refine c_reg ?_ -- region 30 heapm.go:199
                refine wl (ro_move rfl) ?_
                refine wl (ro_move rfl) ?_
                refine wl (ro_assign rfl) ?_
                refine wl (ro_assign rfl) ?_
                refine wl_nil (x_then (hK49 _ _ ?_))
                clear hK49 K49
                refine c_ret ?_
                refine bp_ret Tryz.results107 rfl ?_
                refine ⟨hp1, m, ec, rfl, M1, hok1, hst1, hm1, hm2, hm3, ?_, F1⟩
                intro st
                rw [hinv st, if_neg he, if_neg he]
            · skip
              refine c_reg ?_ -- region 27 heapm.go:196
              refine wl (ro_move rfl) ?_
              refine wl (ro_move rfl) ?_
              refine wl_call rfl en_104 (arity104 hhd) ?_
              rintro _ w1 ⟨rfl, rfl⟩
              refine wl (ro_cmp (r := false) rfl rfl (by simp; omega)) ?_
              refine wl (ro_move rfl) ?_
              refine wlg_no rfl ?_
              refine wlg_no rfl ?_
              refine wl (ro_pick rfl rfl rfl) ?_
              refine wl_nil (x_then (hK47 _ _ ?_))
              clear hK47 K47
              refine wc_condF rfl ?_
              refine c_exit (x_thenX (x_thenX (x_blkX (x_then (hK44 _ _ ?_)))))
              clear hK46 K46 hK44 K44
              refine forget [(3, _), (14, _)] ⟨rfl, rfl, trivial⟩ (fun e => ?_)
              refine c_seq (fun K50 hK50 => ?_)
              refine c_reg ?_ -- region 30 heapm.go:199
              refine wl (ro_move rfl) ?_
              refine wl (ro_move rfl) ?_
              refine wl (ro_assign rfl) ?_
              refine wl (ro_assign rfl) ?_
              refine wl_nil (x_then (hK50 _ _ ?_))
              clear hK50 K50
              refine c_ret ?_
              refine bp_ret Tryz.results107 rfl ?_
              refine ⟨hp1, m, ec, rfl, M1, hok1, hst1, hm1, hm2, hm3, ?_, F1⟩
              intro st
              rw [hinv st, List.drop_of_length_le (by simp; omega)]; rfl

end Go.Proofs.Qxb6500569aGreat
