import Derived.Test.Qxb6500567aGreatJh
import Derived.Test.Qxb6500567aGreatFe
/- The lock-step machine: its structure; has, put, push. -/
namespace Go.Proofs.Qxb6500567aGreat
set_option linter.unusedVariables false
set_option linter.unusedSimpArgs false

/-- Its blocks. -/
structure PK where
  pb : Nat
  c : Nat → Nat
  st : Nat
  rg : Nat
  bs : Nat
  nn : Nat

structure PKo (P : PK) : Prop where
  a : P.pb < P.c 0
  b : P.c 0 < P.c 1
  c : P.c 1 < P.st
  d : P.st < P.rg
  e : P.rg < P.bs
  f : P.bs < P.nn

theorem PKo.mid {P : PK} (h : PKo P) {i : Nat} (hi : i < 2) : P.pb < P.c i ∧ P.c i < P.st := by
  have h1 := h.a
  have h2 := h.b
  have h3 := h.c
  rcases (show i = 0 ∨ i = 1 by omega) with rfl | rfl
  · exact ⟨h1, by omega⟩
  · exact ⟨by omega, h3⟩

/-- The fields that stand still, and the numbers sp and steps. -/
structure AF (P : PK) (f : Nat → Value) (sp z : Nat) : Prop where
  c : ∀ i, i < 2 → f (i * 130 + 129) = sl (P.c i) 512
  st : f 260 = sl P.st 65
  sp : f 261 = i64c sp
  rg : f 262 = sl P.rg 8
  bs : f 263 = sl P.bs 8
  nn : f 264 = sl P.nn 8
  z : f 265 = i64c z
  sv : ∀ i q, i < 2 → q < 64 → ∃ x : Nat, f (i * 130 + 64 + q) = i64c x

/-- A list of threads. -/
structure LV (f : Nat → Value) (i : Nat) (l : List Ent) : Prop where
  n : f (i * 130 + 128) = i64c l.length
  at' : ∀ (k : Nat) (e : Ent), l[k]? = some e → f (i * 130 + k) = i64c e.1 ∧ f (i * 130 + 64 + e.1) = i64c k
  nd : (pcs l).Nodup
  lt : ∀ e ∈ l, e.1 < 64

theorem LV.len {f : Nat → Value} {i : Nat} {l : List Ent} (h : LV f i l) : l.length ≤ 64 := by
  have := pigeon 64 (pcs l) h.nd (fun x hx => by
    obtain ⟨e, he, rfl⟩ := List.mem_map.1 hx
    exact h.lt e he)
  simpa using this

theorem LV.room {f : Nat → Value} {i : Nat} {l : List Ent} (h : LV f i l) {pc : Nat} (hpc : pc < 64) (hn : pc ∉ pcs l) : l.length < 64 := by
  have := pigeon 64 (pc :: pcs l) (List.nodup_cons.2 ⟨hn, h.nd⟩) (fun x hx => by
    rcases List.mem_cons.1 hx with rfl | hx
    · exact hpc
    · obtain ⟨e, he, rfl⟩ := List.mem_map.1 hx
      exact h.lt e he)
  simp at this
  omega

set_option maxHeartbeats 1000000 in
theorem has86 {w : World} {P : PK} {f : Nat → Value} {sp z i pc : Nat} {l : List Ent} (hB : FB w.heap P.pb 266 f 108) (hA : AF P f sp z) (hi : i < 2) (hL : LV f i l) (hpc : pc < 64) :
    Ret Tryz.prog 86 [ptr P.pb, i64c i, i64c pc] w (fun v w' => v = .bool (decide (pc ∈ pcs l)) ∧ w = w') := by
  obtain ⟨x, hx⟩ := hA.sv i pc hi hpc
  have hln := hL.len
  have hyes : x < l.length → ∃ e, l[x]? = some e := fun h => ⟨_, List.getElem?_eq_getElem h⟩
  have hmem : pc ∈ pcs l ↔ x < l.length ∧ ∃ e, l[x]? = some e ∧ e.1 = pc := by
    constructor
    · intro h
      obtain ⟨e, he, rfl⟩ := List.mem_map.1 h
      obtain ⟨k, hk⟩ := List.mem_iff_getElem?.1 he
      have h2 := (hL.at' k e hk).2
      have : x = k := by
        rw [hx] at h2
        simp [i64c] at h2
        omega
      subst this
      exact ⟨(List.getElem?_eq_some_iff.1 hk).1, e, hk, rfl⟩
    · rintro ⟨h, e, he, rfl⟩
      exact List.mem_map.2 ⟨e, List.mem_of_getElem? he, rfl⟩
  refine ret_of Tryz.func86 rfl Tryz.ntmps86 rfl ?_
  refine c_seq (fun K1 hK1 => ?_)
  refine c_reg ?_ -- region 0 machine.go:59
  refine wl (ro_assign rfl) ?_
  refine wl_nil (x_then (hK1 _ _ ?_))
  clear hK1 K1
  refine forget [(0, _), (1, _), (2, _)] ⟨rfl, rfl, rfl, trivial⟩ (fun e => ?_)
  refine c_seq (fun K2 hK2 => ?_)
  refine c_reg ?_ -- region 1 machine.go:60
  refine wl (ro_move rfl) ?_
  refine wl (ro_move rfl) ?_
  refine wl (ro_move rfl) ?_
  refine wl (ro_nilCheck rfl) ?_
  refine wl (ro_fieldAddr (k := 0) rfl fo_108_0) ?_
  refine wl (ro_indexAddrA (et := 104) (k := 130) rfl rfl ar_105 (rfl) (hi)) ?_
  refine wl (ro_fieldAddr (k := 64) rfl fo_104_1) ?_
  refine wl (ro_indexAddrA (et := 3) (k := 1) rfl rfl ar_102 (rfl) (hpc)) ?_
  refine wl (ro_loadB rfl sc_3 (hB) (cel_at (by omega) (by omega) hx)) ?_
  refine wl (ro_assign rfl) ?_
  refine wl_nil (x_then (hK2 _ _ ?_))
  clear hK2 K2
  refine forget [(0, _), (1, _), (2, _), (7, _)] ⟨rfl, rfl, rfl, rfl, trivial⟩ (fun e => ?_)
  refine c_seq (fun K3 hK3 => ?_)
  by_cases hxl : x < l.length
  · skip
    obtain ⟨e, he⟩ := hyes hxl
    have hat := (hL.at' x e he).1
    have hdm : (e.1 = pc) ↔ pc ∈ pcs l := by
      rw [hmem]
      constructor
      · intro h; exact ⟨hxl, e, he, h⟩
      · rintro ⟨-, e', he', h⟩
        rw [he] at he'
        cases he'
        exact h
    refine c_reg ?_ -- region 2 machine.go:61
    refine wl (ro_move rfl) ?_
    refine wl (ro_move rfl) ?_
    refine wl (ro_move rfl) ?_
    refine wl (ro_nilCheck rfl) ?_
    refine wl (ro_fieldAddr (k := 0) rfl fo_108_0) ?_
    refine wl (ro_indexAddrA (et := 104) (k := 130) rfl rfl ar_105 (rfl) (hi)) ?_
    refine wl (ro_fieldAddr (k := 128) rfl fo_104_2) ?_
    refine wl (ro_loadB rfl sc_3 (hB) (cel_at (by omega) (by omega) hL.n)) ?_
    refine wl (ro_cmp (r := true) rfl rfl (congrArg some (decide_eq_true (by omega)))) ?_
    refine wl (ro_move rfl) ?_
    refine wlg_yes rfl (ro_move rfl) ?_
    refine wlg_yes rfl (ro_move rfl) ?_
    refine wlg_yes rfl (ro_move rfl) ?_
    refine wlg_yes rfl (ro_nilCheck rfl) ?_
    refine wlg_yes rfl (ro_fieldAddr (k := 0) rfl fo_108_0) ?_
    refine wlg_yes rfl (ro_indexAddrA (et := 104) (k := 130) rfl rfl ar_105 (rfl) (hi)) ?_
    refine wlg_yes rfl (ro_fieldAddr (k := 0) rfl fo_104_0) ?_
    refine wlg_yes rfl (ro_indexAddrA (et := 3) (k := 1) rfl rfl ar_102 (rfl) ((by omega : x < 64))) ?_
    refine wlg_yes rfl (ro_loadB rfl sc_3 (hB) (cel_at (by omega) (by omega) hat)) ?_
    refine wlg_yes rfl (ro_move rfl) ?_
    refine wlg_yes rfl (ro_cmp (r := decide (e.1 = pc)) rfl rfl (congrArg some (beqc e.1 pc))) ?_
    refine wl (ro_pick rfl rfl rfl) ?_
    refine wl (ro_assign rfl) ?_
    refine wl_nil (x_then (hK3 _ _ ?_))
    clear hK3 K3
    refine c_ret ?_
    refine bp_ret Tryz.results86 rfl ?_
    exact ⟨congrArg Value.bool (decide_eq_decide.2 hdm), rfl⟩
  · skip
    have hdm : ¬ pc ∈ pcs l := fun h => hxl (hmem.1 h).1
    refine c_reg ?_ -- region 2 machine.go:61
    refine wl (ro_move rfl) ?_
    refine wl (ro_move rfl) ?_
    refine wl (ro_move rfl) ?_
    refine wl (ro_nilCheck rfl) ?_
    refine wl (ro_fieldAddr (k := 0) rfl fo_108_0) ?_
    refine wl (ro_indexAddrA (et := 104) (k := 130) rfl rfl ar_105 (rfl) (hi)) ?_
    refine wl (ro_fieldAddr (k := 128) rfl fo_104_2) ?_
    refine wl (ro_loadB rfl sc_3 (hB) (cel_at (by omega) (by omega) hL.n)) ?_
    refine wl (ro_cmp (r := false) rfl rfl (congrArg some (decide_eq_false (by omega)))) ?_
    refine wl (ro_move rfl) ?_
    refine wlg_no rfl ?_
    refine wlg_no rfl ?_
    refine wlg_no rfl ?_
    refine wlg_no rfl ?_
    refine wlg_no rfl ?_
    refine wlg_no rfl ?_
    refine wlg_no rfl ?_
    refine wlg_no rfl ?_
    refine wlg_no rfl ?_
    refine wlg_no rfl ?_
    refine wlg_no rfl ?_
    refine wl (ro_pick rfl rfl rfl) ?_
    refine wl (ro_assign rfl) ?_
    refine wl_nil (x_then (hK3 _ _ ?_))
    clear hK3 K3
    refine c_ret ?_
    refine bp_ret Tryz.results86 rfl ?_
    exact ⟨congrArg Value.bool (decide_eq_false hdm).symm, rfl⟩

/-- An instruction comes on list i. -/
def insf (f : Nat → Value) (i n pc : Nat) : Nat → Value := pt (pt (pt f (i * 130 + n) (i64c pc)) (i * 130 + 64 + pc) (i64c n)) (i * 130 + 128) (i64c ((n + 1 : Nat)))

theorem insf_ne {f : Nat → Value} {i n pc j : Nat} (h1 : j ≠ i * 130 + n) (h2 : j ≠ i * 130 + 64 + pc) (h3 : j ≠ i * 130 + 128) : insf f i n pc j = f j := by
  unfold insf
  rw [pt_ne h3, pt_ne h2, pt_ne h1]

theorem AF.ins {P : PK} {f : Nat → Value} {sp z i n pc : Nat} (h : AF P f sp z) (hi : i < 2) (hn : n < 64) (hpc : pc < 64) : AF P (insf f i n pc) sp z := by
  refine ⟨fun j hj => ?_, ?_, ?_, ?_, ?_, ?_, ?_, fun j q hj hq => ?_⟩
  · rw [insf_ne (by omega) (by omega) (by omega)]; exact h.c j hj
  · rw [insf_ne (by omega) (by omega) (by omega)]; exact h.st
  · rw [insf_ne (by omega) (by omega) (by omega)]; exact h.sp
  · rw [insf_ne (by omega) (by omega) (by omega)]; exact h.rg
  · rw [insf_ne (by omega) (by omega) (by omega)]; exact h.bs
  · rw [insf_ne (by omega) (by omega) (by omega)]; exact h.nn
  · rw [insf_ne (by omega) (by omega) (by omega)]; exact h.z
  · by_cases he : j * 130 + 64 + q = i * 130 + 64 + pc
    · refine ⟨n, ?_⟩
      unfold insf
      rw [pt_ne (by omega), he, pt_same]
    · rw [insf_ne (by omega) (by omega) (by omega)]; exact h.sv j q hj hq

theorem LV.insO {f : Nat → Value} {i j n pc : Nat} {l : List Ent} (h : LV f j l) (hi : i < 2) (hj : j < 2) (hij : j ≠ i) (hn : n < 64) (hpc : pc < 64) : LV (insf f i n pc) j l := by
  have hl := h.len
  refine ⟨?_, fun k e hk => ?_, h.nd, h.lt⟩
  · rw [insf_ne (by omega) (by omega) (by omega)]; exact h.n
  · obtain ⟨h1, h2⟩ := h.at' k e hk
    have hkl := (List.getElem?_eq_some_iff.1 hk).1
    have hel := h.lt e (List.mem_of_getElem? hk)
    rw [insf_ne (by omega) (by omega) (by omega), insf_ne (by omega) (by omega) (by omega)]
    exact ⟨h1, h2⟩

theorem LV.ins {f : Nat → Value} {i pc : Nat} {l : List Ent} (h : LV f i l) (hi : i < 2) (hpc : pc < 64) (hn : pc ∉ pcs l) (c : List Int) : LV (insf f i l.length pc) i (l ++ [(pc, c)]) := by
  have hr := h.room hpc hn
  refine ⟨?_, fun k e hk => ?_, ?_, fun e he => ?_⟩
  · unfold insf
    rw [pt_same, List.length_append]
    rfl
  · by_cases hkl : k < l.length
    · rw [List.getElem?_append_left hkl] at hk
      obtain ⟨h1, h2⟩ := h.at' k e hk
      have hel := h.lt e (List.mem_of_getElem? hk)
      have hne : e.1 ≠ pc := fun he => hn (he ▸ List.mem_map.2 ⟨e, List.mem_of_getElem? hk, rfl⟩)
      rw [insf_ne (by omega) (by omega) (by omega), insf_ne (by omega) (by omega) (by omega)]
      exact ⟨h1, h2⟩
    · rw [List.getElem?_append_right (by omega)] at hk
      have hk0 : k = l.length := by
        have := (List.getElem?_eq_some_iff.1 hk).1
        simp at this
        omega
      subst hk0
      simp at hk
      subst hk
      refine ⟨?_, ?_⟩
      · unfold insf
        rw [pt_ne (by omega), pt_ne (by omega), pt_same]
      · unfold insf
        rw [pt_ne (by show i * 130 + 64 + pc ≠ _; omega), pt_same]
  · show ((l ++ [(pc, c)]).map Prod.fst).Nodup
    rw [List.map_append, List.nodup_append]
    refine ⟨h.nd, by simp, ?_⟩
    intro a ha b hb
    simp at hb
    subst hb
    exact fun he => hn (he ▸ ha)
  · rcases List.mem_append.1 he with he | he
    · exact h.lt e he
    · simp at he
      subst he
      exact hpc

set_option maxHeartbeats 1000000 in
theorem put113 {w : World} {P : PK} {f : Nat → Value} {i pc : Nat} {l : List Ent} (hB : FB w.heap P.pb 266 f 108) (hi : i < 2) (hL : LV f i l) (hpc : pc < 64) (hn : pc ∉ pcs l) :
    Ret Tryz.prog 113 [ptr P.pb, i64c i, i64c pc] w (fun v w' => v = i64c l.length ∧ FB w'.heap P.pb 266 (insf f i l.length pc) 108 ∧ Fram (one P.pb) w w') := by
  have hF : Fram (one P.pb) w w := Fram.refl _ _
  have hr := hL.room hpc hn
  refine ret_of Tryz.func113 rfl Tryz.ntmps113 rfl ?_
  refine c_seq (fun K1 hK1 => ?_)
  refine c_reg ?_ -- region 0 machine.go:65
  refine wl (ro_assign rfl) ?_
  refine wl_nil (x_then (hK1 _ _ ?_))
  clear hK1 K1
  refine forget [(0, _), (1, _), (2, _)] ⟨rfl, rfl, rfl, trivial⟩ (fun e => ?_)
  refine c_seq (fun K2 hK2 => ?_)
  refine c_reg ?_ -- region 1 machine.go:66
  refine wl (ro_move rfl) ?_
  refine wl (ro_move rfl) ?_
  refine wl (ro_nilCheck rfl) ?_
  refine wl (ro_fieldAddr (k := 0) rfl fo_108_0) ?_
  refine wl (ro_indexAddrA (et := 104) (k := 130) rfl rfl ar_105 (rfl) (hi)) ?_
  refine wl (ro_fieldAddr (k := 128) rfl fo_104_2) ?_
  refine wl (ro_loadB rfl sc_3 (hB) (cel_at (by omega) (by omega) hL.n)) ?_
  refine wl (ro_assign rfl) ?_
  refine wl_nil (x_then (hK2 _ _ ?_))
  clear hK2 K2
  refine forget [(0, _), (1, _), (2, _), (7, _)] ⟨rfl, rfl, rfl, rfl, trivial⟩ (fun e => ?_)
  refine c_seq (fun K3 hK3 => ?_)
  refine c_reg ?_ -- region 2 machine.go:67
  refine wl (ro_move rfl) ?_
  refine wl (ro_move rfl) ?_
  refine wl (ro_move rfl) ?_
  refine wl (ro_move rfl) ?_
  refine wl (ro_nilCheck rfl) ?_
  refine wl (ro_fieldAddr (k := 0) rfl fo_108_0) ?_
  refine wl (ro_indexAddrA (et := 104) (k := 130) rfl rfl ar_105 (rfl) (hi)) ?_
  refine wl (ro_fieldAddr (k := 0) rfl fo_104_0) ?_
  refine wl (ro_indexAddrA (et := 3) (k := 1) rfl rfl ar_102 (rfl) (hr)) ?_
  refine wl_put rfl rfl rfl sz_3 hB ((cel_lt (by omega))) ((cel_put (i * 130 + l.length) (by omega))) (fun w1 hB F1 => ?_)
  replace hF := hF.thenDrew.thenO F1 (by first | exact .inr (by omega) | exact .inl rfl | exact .inl (by assumption))
  refine wl_nil (x_then (hK3 _ _ ?_))
  clear hK3 K3
  refine forget [(0, _), (1, _), (2, _), (7, _)] ⟨rfl, rfl, rfl, rfl, trivial⟩ (fun e => ?_)
  refine c_seq (fun K4 hK4 => ?_)
  refine c_reg ?_ -- region 3 machine.go:68
  refine wl (ro_move rfl) ?_
  refine wl (ro_move rfl) ?_
  refine wl (ro_move rfl) ?_
  refine wl (ro_move rfl) ?_
  refine wl (ro_nilCheck rfl) ?_
  refine wl (ro_fieldAddr (k := 0) rfl fo_108_0) ?_
  refine wl (ro_indexAddrA (et := 104) (k := 130) rfl rfl ar_105 (rfl) (hi)) ?_
  refine wl (ro_fieldAddr (k := 64) rfl fo_104_1) ?_
  refine wl (ro_indexAddrA (et := 3) (k := 1) rfl rfl ar_102 (rfl) (hpc)) ?_
  refine wl_put rfl rfl rfl sz_3 hB ((cel_lt (by omega))) ((cel_put (i * 130 + 64 + pc) (by omega))) (fun w2 hB F2 => ?_)
  replace hF := hF.thenDrew.thenO F2 (by first | exact .inr (by omega) | exact .inl rfl | exact .inl (by assumption))
  refine wl_nil (x_then (hK4 _ _ ?_))
  clear hK4 K4
  refine forget [(0, _), (1, _), (7, _)] ⟨rfl, rfl, rfl, trivial⟩ (fun e => ?_)
  refine c_seq (fun K5 hK5 => ?_)
  refine c_reg ?_ -- region 4 machine.go:69
  refine wl (ro_move rfl) ?_
  refine wl (ro_move rfl) ?_
  refine wl (ro_move rfl) ?_
  refine wl (ro_arith (r := ((l.length + 1 : Nat) : Int)) rfl rfl rfl (Go.IntWalk.i64_in _ (by omega))) ?_
  refine wl (ro_nilCheck rfl) ?_
  refine wl (ro_fieldAddr (k := 0) rfl fo_108_0) ?_
  refine wl (ro_indexAddrA (et := 104) (k := 130) rfl rfl ar_105 (rfl) (hi)) ?_
  refine wl (ro_fieldAddr (k := 128) rfl fo_104_2) ?_
  refine wl_put rfl rfl rfl sz_3 hB ((cel_lt (by omega))) ((cel_put (i * 130 + 128) (by omega))) (fun w3 hB F3 => ?_)
  replace hF := hF.thenDrew.thenO F3 (by first | exact .inr (by omega) | exact .inl rfl | exact .inl (by assumption))
  refine wl_nil (x_then (hK5 _ _ ?_))
  clear hK5 K5
  refine forget [(7, _)] ⟨rfl, trivial⟩ (fun e => ?_)
  refine c_seq (fun K6 hK6 => ?_)
  refine c_reg ?_ -- region 5 machine.go:70
  refine wl (ro_move rfl) ?_
  refine wl (ro_assign rfl) ?_
  refine wl_nil (x_then (hK6 _ _ ?_))
  clear hK6 K6
  refine c_ret ?_
  refine bp_ret Tryz.results113 rfl ?_
  exact ⟨rfl, hB, hF⟩

/-- The stack's frames, the lowest first. -/
def frc : Frm → List Value
  | .inl pc => [i64c pc, icv (-1), icv 0]
  | .inr (k, v) => [icv 0, i64c k, icv v]

def SV (sf : Nat → Value) (st : List Frm) : Prop := ∀ (k : Nat) (x : Frm), st[k]? = some x → ∀ (j : Nat) (v : Value), (frc x)[j]? = some v → sf (k * 3 + j) = v

theorem frc_len (x : Frm) : (frc x).length = 3 := by rcases x with x | ⟨k, v⟩ <;> rfl

theorem SV.push {sf : Nat → Value} {st : List Frm} (h : SV sf st) (x : Frm) : SV (pts sf (st.length * 3) (frc x)) (st ++ [x]) := by
  intro k y hk j v hj
  have hj3 : j < 3 := by have := (List.getElem?_eq_some_iff.1 hj).1; rw [frc_len] at this; exact this
  by_cases hkl : k < st.length
  · rw [List.getElem?_append_left hkl] at hk
    rw [pts_out (by omega)]
    exact h k y hk j v hj
  · rw [List.getElem?_append_right (by omega)] at hk
    have hk0 : k = st.length := by
      have := (List.getElem?_eq_some_iff.1 hk).1
      simp at this
      omega
    subst hk0
    simp at hk
    subst hk
    exact pts_in hj
theorem SV.pop {sf : Nat → Value} {st : List Frm} {x : Frm} (h : SV sf (st ++ [x])) : SV sf st := fun k y hk => h k y (by rw [List.getElem?_append_left (List.getElem?_eq_some_iff.1 hk).1]; exact hk)
theorem SV.top {sf : Nat → Value} {st : List Frm} {x : Frm} (h : SV sf (st ++ [x])) : cel 3 (fun j => sf (st.length * 3 + j)) = frc x := by
  have h1 := h st.length x (by simp)
  rcases x with x | ⟨k, v⟩
  · show [sf (st.length * 3 + 0), sf (st.length * 3 + 1), sf (st.length * 3 + 2)] = _
    rw [h1 0 _ rfl, h1 1 _ rfl, h1 2 _ rfl]
    rfl
  · show [sf (st.length * 3 + 0), sf (st.length * 3 + 1), sf (st.length * 3 + 2)] = _
    rw [h1 0 _ rfl, h1 1 _ rfl, h1 2 _ rfl]
    rfl
theorem SV.nil (sf : Nat → Value) : SV sf [] := fun k x h => by simp at h

set_option maxHeartbeats 1000000 in
theorem push85 {w : World} {P : PK} {f sf : Nat → Value} {sp : Nat} {a b c : Int} (hB : FB w.heap P.pb 266 f 108) (hK : FB w.heap P.st 195 sf 182) (h1 : f 260 = sl P.st 65) (h2 : f 261 = i64c sp) (hsp : sp < 65) (hlt : P.pb < P.st) :
    Ret Tryz.prog 85 [ptr P.pb, icv a, icv b, icv c] w (fun v w' => v = .tuple #[] ∧ FB w'.heap P.pb 266 (pt f 261 (i64c (sp + 1 : Nat))) 108 ∧ FB w'.heap P.st 195 (pts sf (sp * 3) [icv a, icv b, icv c]) 182 ∧ Fram (two P.pb P.st) w w') := by
  have hF : Fram (two P.pb P.st) w w := Fram.refl _ _
  have hm1 : two P.pb P.st P.pb := .inl rfl
  have hm2 : two P.pb P.st P.st := .inr rfl
  refine ret_of Tryz.func85 rfl Tryz.ntmps85 rfl ?_
  refine c_seq (fun K1 hK1 => ?_)
  refine c_piL 13 [(0, false), (1, false), (2, false), (3, false), (4, false), (5, false), (6, false), (7, false), (8, false), (9, false), (10, false), (11, false), (12, false)] (SameH _) mixed (by kernel_rfl) rfl (by kernel_rfl) (po_then (po_bp)) (sameH_now _ _) ?_ -- region 0 machine.go:75
  refine ql_ro rfl (fun w hS => ro_move rfl) ?_
  refine ql_ro rfl (fun w hS => ro_nilCheck rfl) ?_
  refine ql_ro rfl (fun w hS => ro_fieldAddr (k := 260) rfl fo_108_1) ?_
  refine ql_ro rfl (fun w hS => ro_loadB rfl sc_106 (Blk.of_heap hB hS) (cel_at (by omega) (by omega) h1)) ?_
  refine ql_ro rfl (fun w hS => ro_move rfl) ?_
  refine ql_ro rfl (fun w hS => ro_nilCheck rfl) ?_
  refine ql_ro rfl (fun w hS => ro_fieldAddr (k := 261) rfl fo_108_2) ?_
  refine ql_ro rfl (fun w hS => ro_loadB rfl sc_3 (Blk.of_heap hB hS) (cel_at (by omega) (by omega) h2)) ?_
  refine ql_ro rfl (fun w hS => ro_move rfl) ?_
  refine ql_ro rfl (fun w hS => ro_move rfl) ?_
  refine ql_ro rfl (fun w hS => ro_move rfl) ?_
  refine ql_ro rfl (fun w hS => ro_build rfl bld_182_0_1_2) ?_
  refine ql_ro rfl (fun w hS => ro_indexAddr (et := 182) (k := 3) rfl rfl se_106 (rfl) (hsp)) ?_
  refine ql_puta rfl rfl rfl (by simp [Value.oneCell', i64c, u64c, u8c, ptr]) sz_182 (rfl) hK ((by rw [cel_len]; show _ + 3 ≤ _; omega)) ((cel_puts (sp * 3) (by omega) rfl (by show _ + 3 ≤ _; omega))) (fun w1 hK F1 => ?_)
  replace hF := hF.thenDrew.thenO F1 (by first | exact .inr (by omega) | exact .inl rfl | exact .inl (by assumption))
  replace hB := F1.blkO hB (by omega)
  refine x_then (hK1 _ _ ?_)
  clear hK1 K1
  refine c_reg ?_ -- region 1 machine.go:76
  refine wl (ro_move rfl) ?_
  refine wl (ro_nilCheck rfl) ?_
  refine wl (ro_fieldAddr (k := 261) rfl fo_108_2) ?_
  refine wl (ro_loadB rfl sc_3 (hB) (cel_at (by omega) (by omega) h2)) ?_
  refine wl (ro_arith (r := ((sp + 1 : Nat) : Int)) rfl rfl rfl (Go.IntWalk.i64_in _ (by omega))) ?_
  refine wl (ro_nilCheck rfl) ?_
  refine wl (ro_fieldAddr (k := 261) rfl fo_108_2) ?_
  refine wl_put rfl rfl rfl sz_3 hB ((cel_lt (by omega))) ((cel_put 261 (by omega))) (fun w2 hB F2 => ?_)
  replace hF := hF.thenDrew.thenO F2 (by first | exact .inr (by omega) | exact .inl rfl | exact .inl (by assumption))
  replace hK := F2.blkO hK (by omega)
  refine wl_nil ?_
  refine bp_end Tryz.results85 rfl ?_
  exact ⟨rfl, hB, hK, hF⟩

end Go.Proofs.Qxb6500567aGreat
