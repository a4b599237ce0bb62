import Derived.Test.Qxb6500568aGreatDoorLf
namespace Go.Proofs.Qxb6500568aGreatDoor
open Ieee
set_option linter.unusedVariables false
set_option linter.unusedSimpArgs false

/-! Laws of 'K'. -/

theorem visF_app : ∀ (L : List Str) (s : Str) (i : Nat) (acc), visF (L ++ [s]) i acc = if s = [] then visF L i acc else (s, i + L.length) :: visF L i acc
  | [], s, i, acc => by simp [visF]
  | t :: L, s, i, acc => by
    simp only [List.cons_append, visF, List.length_cons]
    rw [visF_app L s (i + 1)]
    rw [show i + 1 + L.length = i + (L.length + 1) by omega]
theorem vis_app (L : List Str) (s : Str) : vis (L ++ [s]) = if s = [] then vis L else (s, L.length) :: vis L := by
  unfold vis; rw [visF_app, Nat.zero_add]
theorem vis_hid (L : List Str) : vis (L ++ [[]]) = vis L := by rw [vis_app, if_pos rfl]
theorem vis_new (L : List Str) {s : Str} (h : s ≠ []) : vis (L ++ [s]) = (s, L.length) :: vis L := by rw [vis_app, if_neg h]
theorem app3 (L : List Str) : L ++ [[], [], []] = L ++ [[]] ++ [[]] ++ [[]] := by simp
theorem app2 (L : List Str) (s t : Str) : L ++ [s, t] = L ++ [s] ++ [t] := by simp
theorem app4 (L : List Str) (s : Str) : L ++ [[], [], [], s] = L ++ [[], [], []] ++ [s] := by simp
theorem app4' (L : List Str) (s t : Str) : L ++ [[], [], s, t] = L ++ [[], []] ++ [s] ++ [t] := by simp
theorem vis_h3 (L : List Str) : vis (L ++ [[], [], []]) = vis L := by rw [app3, vis_hid, vis_hid, vis_hid]
theorem vis_h2 (L : List Str) : vis (L ++ [[], []]) = vis L := by rw [app2, vis_hid, vis_hid]

theorem visF_mem : ∀ (L : List Str) (i : Nat) (acc : List (Str × Nat)) (p : Str × Nat), p ∈ visF L i acc → p ∈ acc ∨ (i ≤ p.2 ∧ L[p.2 - i]? = some p.1 ∧ p.1 ≠ [])
  | [], i, acc, p, h => .inl h
  | s :: L, i, acc, p, h => by
    rcases visF_mem L (i + 1) _ p h with h | ⟨h1, h2, h3⟩
    · split at h
      · exact .inl h
      · rcases List.mem_cons.1 h with rfl | h
        · exact .inr ⟨Nat.le_refl _, by simp, by assumption⟩
        · exact .inl h
    · refine .inr ⟨by omega, ?_, h3⟩
      rw [show p.2 - i = (p.2 - (i + 1)) + 1 by omega, List.getElem?_cons_succ]
      exact h2
theorem vis_mem {L : List Str} {p : Str × Nat} (h : p ∈ vis L) : L[p.2]? = some p.1 ∧ p.1 ≠ [] := by
  rcases visF_mem L 0 [] p h with h | ⟨h1, h2, h3⟩
  · cases h
  · exact ⟨by simpa using h2, h3⟩

def AgV (L : List Str) (sl sl' : List Nat) : Prop := ∀ (s : Nat) (nm : Str), L[s]? = some nm → nm ≠ [] → sl.getD s 0 = sl'.getD s 0
theorem Dy_congr {sl sl' : List Nat} {od : List (Str × Nat)} {L : List Str} (h : AgV L sl sl') : Dy sl od L = Dy sl' od L := by
  unfold Dy
  congr 1
  apply List.map_congr_left
  intro p hp
  obtain ⟨h1, h2⟩ := vis_mem hp
  rw [h p.2 p.1 h1 h2]
theorem AgV.pre {L L0 : List Str} {sl sl' : List Nat} (h : AgV L sl sl') (hp : L0 <+: L) : AgV L0 sl sl' := by
  intro s nm h1 h2
  obtain ⟨r, rfl⟩ := hp
  refine h s nm ?_ h2
  have := (List.getElem?_eq_some_iff.1 h1).1
  rw [List.getElem?_append_left this]
  exact h1
theorem AgV.take {L : List Str} {n : Nat} {sl sl' : List Nat} (h : AgV L sl sl') : AgV (L.take n) sl sl' := h.pre (List.take_prefix _ _)
theorem AgV.hid {L : List Str} {sl sl' : List Nat} (h : AgV L sl sl') : AgV (L ++ [[]]) sl sl' := by
  intro s nm h1 h2
  by_cases hs : s < L.length
  · rw [List.getElem?_append_left hs] at h1; exact h s nm h1 h2
  · rw [List.getElem?_append_right (by omega)] at h1
    by_cases h0 : s - L.length = 0
    · rw [h0] at h1; simp at h1; exact absurd h1 (fun h => h2 (by simpa using h))
    · rw [List.getElem?_eq_none (by simp; omega)] at h1; cases h1
theorem AgV.left {L M : List Str} {sl sl' : List Nat} (h : AgV (L ++ M) sl sl') : AgV L sl sl' := h.pre (List.prefix_append _ _)

section
variable {G : Arena} {Ps : List Proto} {Fs : Nat → FI} {B B' : Nat → List (Str × Nat) → Prop} {sl sl' : List Nat} {od : List (Str × Nat)} {hb j : Nat}

theorem KR.mono (hB : ∀ e D, B e D → B' e D) : KR G Ps Fs B sl od hb j (fun q pc ts m L hid lc fl => AgV L sl sl' → K G Ps Fs B' sl' od hb j q pc ts m L hid lc fl) (fun lc ts L hid fl => AgV L sl sl' → BK G Ps Fs B' sl' od hb j lc ts L hid fl) :=
  {
    set := fun h a => .set (h a)
    jmp := fun h1 h2 h a => .jmp h1 h2 (h a)
    close := fun h1 h2 h3 h a => .close h1 h2 h3 (h a.take)
    stash := fun h1 h2 h3 h a => .stash h1 h2 h3 (h a.hid)
    foot := fun h1 h2 h3 a => .foot h1 h2 h3
    block := fun h1 h2 h3 h4 h5 h6 h a => .block h1 (Dy_congr a ▸ hB _ _ h2) h3 h4 h5 (h6 (a.pre h4)) (h (a.pre h4))
    evl := fun h1 h2 h3 h4 h5 h a => .evl h1 (Dy_congr a ▸ hB _ _ h2) h3 h4 h5 (h a)
    evl0 := fun h1 h2 h3 h a => .evl0 h1 h2 h3 (h a)
    evl1 := fun h1 h2 h3 h4 h a => .evl1 h1 h2 h3 h4 (h a)
    pop := fun h1 h a => .pop h1 (h a)
    bind := fun h1 h2 h3 h4 h5 h6 h7 h8 h a => .bind h1 h2 h3 h4 (Dy_congr a ▸ hB _ _ h5) h6 h7 (h8 (a.pre h7)) (h (a.pre h7))
    bind2 := fun h1 h2 h3 h4 h5 h6 h7 h8 h9 ha hb' h a => .bind2 h1 h2 h3 h4 h5 h6 h7 (Dy_congr a ▸ hB _ _ h8) h9 ha (hb' (a.pre ha)) (h (a.pre ha))
    storeN := fun h1 h2 h3 h a => .storeN h1 (Dy_congr a ▸ hB _ _ h2) h3 (h a)
    storeI := fun h1 h a => .storeI h1 (h a)
    iff := fun h1 h2 h3 h4 h5 h6 h7 h8 h9 ha hb' h a => .iff h1 h2 (Dy_congr a ▸ hB _ _ h3) h4 h5 h6 h7 h8 h9 ha (hb' a) (h a)
    whl := fun h1 h2 h3 h a => .whl h1 (Dy_congr a ▸ hB _ _ h2) h3 (h a)
    wtest := fun h1 h2 h3 h a => .wtest h1 (Dy_congr a ▸ hB _ _ h2) h3 (h a)
    wback := fun h1 h2 h3 h a => .wback h1 (Dy_congr a ▸ hB _ _ h2) h3 (h a)
    loop := fun h a => .loop (h a)
    finit := fun h1 h2 h a => .finit h1 (Dy_congr a.left ▸ hB _ _ h2) (h a.left)
    ftest := fun h1 h2 h a => .ftest h1 (Dy_congr a.left ▸ hB _ _ h2) (h a.left)
    fback := fun h1 h2 h a => .fback h1 (Dy_congr a.left ▸ hB _ _ h2) (h a.left)
    inin := fun h1 h2 h a => .inin h1 (Dy_congr a.left ▸ hB _ _ h2) (h a.left)
    intest := fun h1 h2 h a => .intest h1 (Dy_congr a.left ▸ hB _ _ h2) (h a.left)
    inback := fun h1 h2 h a => .inback h1 (Dy_congr a.left ▸ hB _ _ h2) (h a.left)
    ret := fun h1 h2 h3 h a => .ret h1 h2 h3 (h a)
    call := fun h1 h2 h3 h4 h a => .call h1 h2 h3 h4 (h a)
    item := fun h1 h2 h3 h4 h5 h6 h a => .item h1 (Dy_congr a ▸ hB _ _ h2) h3 h4 h5 h6 (h a)
    bin := fun h1 h2 h3 h a => .bin h1 h2 h3 (h a)
    un := fun h1 h2 h3 h4 h a => .un h1 h2 h3 h4 (h a)
    land := fun h1 h2 h3 h4 h5 h6 h7 h a => .land h1 (Dy_congr a ▸ hB _ _ h2) h3 h4 h5 h6 h7 (h a)
    lor := fun h1 h2 h3 h4 h5 h6 h7 h a => .lor h1 (Dy_congr a ▸ hB _ _ h2) h3 h4 h5 h6 h7 (h a)
    index := fun h1 h2 h a => .index h1 h2 (h a)
    bnone := fun  a => .none
    bsome := fun h1 h2 h3 h4 h a => .some h1 h2 h3 h4 (h a.take) }
theorem K.mono (hB : ∀ e D, B e D → B' e D) {q pc ts m L hid lc fl} (h : K G Ps Fs B sl od hb j q pc ts m L hid lc fl) (a : AgV L sl sl') : K G Ps Fs B' sl' od hb j q pc ts m L hid lc fl := h _ _ (KR.mono hB) a
theorem BK.mono (hB : ∀ e D, B e D → B' e D) {lc ts L hid fl} (h : BK G Ps Fs B sl od hb j lc ts L hid fl) (a : AgV L sl sl') : BK G Ps Fs B' sl' od hb j lc ts L hid fl := h _ _ (KR.mono hB) a

theorem HidOK.pre {L0 L : List Str} {hid : List Nat} {fl : List (Nat × Nat)} (h : HidOK L0 hid fl) (hp : L0 <+: L) : HidOK L hid fl := by
  obtain ⟨r, rfl⟩ := hp
  have g : ∀ {s : Nat}, L0[s]? = some [] → (L0 ++ r)[s]? = some [] := fun {s} h1 => by
    rw [List.getElem?_append_left (List.getElem?_eq_some_iff.1 h1).1]; exact h1
  exact ⟨fun s hs => g (h.1 s hs), fun p hp k hk => g (h.2 p hp k hk)⟩
theorem HidOK.cons {L : List Str} {hid : List Nat} {fl : List (Nat × Nat)} (h : HidOK L hid fl) {s : Nat} (hs : L[s]? = some []) : HidOK L (s :: hid) fl :=
  ⟨fun t ht => by rcases List.mem_cons.1 ht with rfl | ht; exact hs; exact h.1 t ht, h.2⟩
theorem HidOK.flc {L : List Str} {hid : List Nat} {fl : List (Nat × Nat)} (h : HidOK L hid fl) {p : Nat × Nat} (hs : ∀ k, k < hk p.2 → L[p.1 + k]? = some []) : HidOK L hid (p :: fl) :=
  ⟨h.1, fun t ht => by rcases List.mem_cons.1 ht with rfl | ht; exact hs; exact h.2 t ht⟩

theorem K.hidden {q pc ts m L hid lc fl} (hK : K G Ps Fs B sl od hb j q pc ts m L hid lc fl) : HidOK L hid fl :=
  hK (fun q pc ts m L hid lc fl => HidOK L hid fl) (fun _ _ _ _ _ => True) {
    set := fun h => h
    jmp := fun h1 h2 h => h
    close := fun h1 h2 h3 h => h.pre (List.take_prefix _ _)
    stash := fun h1 h2 h3 h => h2
    foot := fun h1 h2 h3 => ⟨(fun s hs => by cases hs), (fun s hs => by cases hs)⟩
    block := fun h1 h2 h3 h4 h5 h6 h => h.pre h4
    evl := fun h1 h2 h3 h4 h5 h => h
    evl0 := fun h1 h2 h3 h => h
    evl1 := fun h1 h2 h3 h4 h => h
    pop := fun h1 h => h
    bind := fun h1 h2 h3 h4 h5 h6 h7 h8 h => h.pre h7
    bind2 := fun h1 h2 h3 h4 h5 h6 h7 h8 h9 ha hb' h => h.pre ha
    storeN := fun h1 h2 h3 h => h
    storeI := fun h1 h => h
    iff := fun h1 h2 h3 h4 h5 h6 h7 h8 h9 ha hb' h => h
    whl := fun h1 h2 h3 h => h
    wtest := fun h1 h2 h3 h => h
    wback := fun h1 h2 h3 h => h
    loop := fun h => h
    finit := fun h1 h2 h => (((h.pre (List.prefix_append _ _)).cons (by simp)).cons (by simp)).cons (by simp)
    ftest := fun h1 h2 h => ((((h.pre (List.prefix_append _ _)).cons (by simp)).cons (by simp)).cons (by simp)).flc (fun k hk => by simp [Go.Proofs.Qxb6500568aGreatDoor.hk] at hk; rcases k with _ | _ | _ | k <;> simp <;> omega)
    fback := fun h1 h2 h => ((((h.pre (List.prefix_append _ _)).cons (by simp)).cons (by simp)).cons (by simp)).flc (fun k hk => by simp [Go.Proofs.Qxb6500568aGreatDoor.hk] at hk; rcases k with _ | _ | _ | k <;> simp <;> omega)
    inin := fun h1 h2 h => (h.pre (List.prefix_append _ _)).cons (by simp)
    intest := fun h1 h2 h => (((h.pre (List.prefix_append _ _)).cons (by simp)).cons (by simp)).flc (fun k hk => by simp [Go.Proofs.Qxb6500568aGreatDoor.hk] at hk; rcases k with _ | _ | k <;> simp <;> omega)
    inback := fun h1 h2 h => (((h.pre (List.prefix_append _ _)).cons (by simp)).cons (by simp)).flc (fun k hk => by simp [Go.Proofs.Qxb6500568aGreatDoor.hk] at hk; rcases k with _ | _ | k <;> simp <;> omega)
    ret := fun h1 h2 h3 h => h2
    call := fun h1 h2 h3 h4 h => h
    item := fun h1 h2 h3 h4 h5 h6 h => h.flc (fun k hk => by simp [Go.Proofs.Qxb6500568aGreatDoor.hk] at hk)
    bin := fun h1 h2 h3 h => h
    un := fun h1 h2 h3 h4 h => h
    land := fun h1 h2 h3 h4 h5 h6 h7 h => h
    lor := fun h1 h2 h3 h4 h5 h6 h7 h => h
    index := fun h1 h2 h => h
    bnone := trivial
    bsome := fun _ _ _ _ _ => trivial }

theorem CV_cod {L : List Str} {nm : Str} {a l u g : Nat} (h : CV Ps Fs j L nm a l u g) : ∃ i, cod Ps j a = some i := by
  unfold CV at h
  split at h
  · exact ⟨_, h⟩
  · split at h
    · obtain ⟨x, h, -⟩ := h; exact ⟨_, h⟩
    · obtain ⟨x, h, -⟩ := h; exact ⟨_, h⟩
theorem CE_cod : ∀ (k : Nat) {n j : Nat} {L : List Str} {ex : Ex} {a b : Nat}, SizeOf.sizeOf ex < k → IsE G n ex → CE Ps Fs j L ex a b → ∃ i, cod Ps j a = some i
  | 0, _, _, _, _, _, _, hk, _, _ => absurd hk (Nat.not_lt_zero _)
  | k + 1, n, j, L, ex, a, b, hk, hE, h => by
    have ih : ∀ {x : Ex} {n : Nat} {b : Nat}, SizeOf.sizeOf x < SizeOf.sizeOf ex → IsE G n x → CE Ps Fs j L x a b → ∃ i, cod Ps j a = some i := fun q e c => CE_cod k (by omega) e c
    rcases hE.inv with ⟨_, rfl⟩ | ⟨_, rfl⟩ | ⟨_, rfl⟩ | ⟨_, rfl⟩ | ⟨x, y, rfl⟩ | ⟨x, y, rfl⟩ | ⟨_, _, _, rfl⟩ | ⟨_, rfl⟩ | ⟨_, x, y, rfl⟩ | ⟨_, x, rfl⟩ | ⟨x, y, rfl⟩ | ⟨x, y, rfl⟩
    · exact ⟨_, h.1⟩
    · obtain ⟨⟨k, h, -⟩, -⟩ := h; exact ⟨_, h⟩
    · obtain ⟨⟨k, h, -⟩, -⟩ := h; exact ⟨_, h⟩
    · exact CV_cod h.1
    · obtain ⟨m, p, h, -⟩ := h; exact ih (by simp [Ex.index]; omega) (IsE_index.1 hE).2.2.1 h
    · obtain ⟨m, p, h, -⟩ := h; exact ih (by simp [Ex.call]; omega) (IsE_call.1 hE).2.2.1 h
    · exact ⟨_, h.1⟩
    · exact ⟨_, h.1⟩
    · obtain ⟨m, p, h, -⟩ := h; exact ih (by simp [Ex.bin]; omega) (IsE_bin.1 hE).2.2.2.1 h
    · obtain ⟨m, h, -⟩ := h; exact ih (by simp [Ex.un]; omega) (IsE_un.1 hE).2.2.2 h
    · obtain ⟨m, h, -⟩ := h; exact ih (by simp [Ex.land]; omega) (IsE_land.1 hE).2.2.1 h
    · obtain ⟨m, h, -⟩ := h; exact ih (by simp [Ex.lor]; omega) (IsE_lor.1 hE).2.2.1 h
theorem CE_cod' {n j : Nat} {L : List Str} {ex : Ex} {a b : Nat} (hE : IsE G n ex) (h : CE Ps Fs j L ex a b) : ∃ i, cod Ps j a = some i := CE_cod _ (Nat.lt_succ_self _) hE h
theorem CS_cod {n j : Nat} {L : List Str} {lc : List (Nat × Nat)} {s : St} {a b : Nat} (hS : IsS G n s) (h : CS Ps Fs j L lc s a b) : ∃ i, cod Ps j a = some i := by
  rcases hS.inv with ⟨_, rfl⟩ | ⟨_, _, rfl⟩ | ⟨_, _, _, _, rfl⟩ | ⟨_, _, _, _, rfl⟩ | ⟨_, _, rfl⟩ | ⟨_, _, _, rfl⟩ | ⟨_, _, rfl⟩ | ⟨_, _, _, rfl⟩ | ⟨_, _, rfl⟩ | ⟨_, _, _, _, rfl⟩ | ⟨_, _, _, _, _, rfl⟩ | ⟨_, _, _, _, rfl⟩ | rfl | ⟨_, rfl⟩ | ⟨_, _, rfl⟩ | rfl
  · exact ⟨_, h.2.1⟩
  · obtain ⟨-, -, m, h, -⟩ := h; exact CE_cod' (IsS_locV.1 hS).2.2.2 h
  · obtain ⟨-, -, -, m, p, h, -⟩ := h; exact CE_cod' (IsS_loc2.1 hS).2.2.2.2.2.1 h
  · exact ⟨_, h.2.1⟩
  · obtain ⟨-, m, h, -⟩ := h; exact CE_cod' (IsS_setN.1 hS).2.2.2.2.2 h
  · obtain ⟨-, -, -, m, p, q, h, -⟩ := h; exact CE_cod' (IsS_setI.1 hS).2.2.2.2.1 h
  · obtain ⟨-, m, p, h, -⟩ := h; exact CE_cod' (IsS_call.1 hS).2.2.2.2.1 h
  · obtain ⟨-, m, p, h, -⟩ := h; exact CE_cod' (IsS_iff.1 hS).2.2.1 h
  · obtain ⟨-, m, p, h, -⟩ := h; exact CE_cod' (IsS_whl.1 hS).2.2.1 h
  · obtain ⟨-, -, -, -, m, p, h, -⟩ := h; exact CE_cod' (IsS_for2.1 hS).2.2.2.2.1 h
  · obtain ⟨-, -, -, -, -, m, p, r, h, -⟩ := h; exact CE_cod' (IsS_for3.1 hS).2.2.2.2.1 h
  · obtain ⟨-, -, -, -, m, q, h, -⟩ := h; exact CE_cod' (IsS_forIn.1 hS).2.2.2.1 h
  · exact ⟨_, h.1⟩
  · obtain ⟨-, m, h, -⟩ := h; exact CE_cod' (IsS_ret1.1 hS).2.2.1 h
  · obtain ⟨-, -, m, p, h, -⟩ := h; exact CE_cod' (IsS_ret2.1 hS).2.2.1 h
  · obtain ⟨n, x, r, -, h⟩ := h
    split at h
    · exact ⟨_, h.1⟩
    · exact ⟨_, h.1⟩
theorem CB_cod {n j : Nat} {L0 L : List Str} {lc : List (Nat × Nat)} {l : StL} {a b : Nat} (hL : IsSL G n l) (h : CB Ps Fs j L0 L lc l a b) : (∃ i, cod Ps j a = some i) ∨ b = a := by
  rcases hL.inv with rfl | ⟨s, l, rfl⟩
  · have h := CB_nil.1 h
    split at h
    · exact .inl ⟨_, h.1⟩
    · exact .inr h
  · obtain ⟨-, m, h, -⟩ := CB_cons.1 h; exact .inl (CS_cod (IsSL_cons.1 hL).2.1 h)

theorem K.code {q pc ts m L hid lc fl} (hK : K G Ps Fs B sl od hb j q pc ts m L hid lc fl) : ∃ i, cod Ps j pc = some i :=
  hK (fun q pc ts m L hid lc fl => ∃ i, cod Ps j pc = some i) (fun _ _ _ _ _ => True) {
    set := fun h => h
    jmp := fun h1 h2 h => ⟨_, h1⟩
    close := fun h1 h2 h3 h => ⟨_, h1⟩
    stash := fun h1 h2 h3 h => ⟨_, h1⟩
    foot := fun h1 h2 h3 => ⟨_, h1⟩
    block := fun h1 h2 h3 h4 h5 h6 h => by
        rcases CB_cod h1 h3 with h' | h'
        · exact h'
        · rw [← h']; exact h
    evl := fun h1 h2 h3 h4 h5 h => CE_cod' h1 h3
    evl0 := fun h1 h2 h3 h => ⟨_, h1⟩
    evl1 := fun h1 h2 h3 h4 h => ⟨_, h1⟩
    pop := fun h1 h => ⟨_, h1⟩
    bind := fun h1 h2 h3 h4 h5 h6 h7 h8 h => ⟨_, h3⟩
    bind2 := fun h1 h2 h3 h4 h5 h6 h7 h8 h9 ha hb' h => ⟨_, h5⟩
    storeN := fun h1 h2 h3 h => CV_cod h1
    storeI := fun h1 h => ⟨_, h1⟩
    iff := fun h1 h2 h3 h4 h5 h6 h7 h8 h9 ha hb' h => ⟨_, h5⟩
    whl := fun h1 h2 h3 h => CE_cod' h1.hc h1.ce
    wtest := fun h1 h2 h3 h => ⟨_, h1.i1⟩
    wback := fun h1 h2 h3 h => ⟨_, h1.i2⟩
    loop := fun h => h
    finit := fun h1 h2 h => ⟨_, h1.i1⟩
    ftest := fun h1 h2 h => ⟨_, h1.i2⟩
    fback := fun h1 h2 h => ⟨_, h1.j0⟩
    inin := fun h1 h2 h => ⟨_, h1.i1⟩
    intest := fun h1 h2 h => ⟨_, h1.i3⟩
    inback := fun h1 h2 h => ⟨_, h1.j0⟩
    ret := fun h1 h2 h3 h => ⟨_, h1⟩
    call := fun h1 h2 h3 h4 h => ⟨_, h1⟩
    item := fun h1 h2 h3 h4 h5 h6 h => ⟨_, h1⟩
    bin := fun h1 h2 h3 h => ⟨_, h1⟩
    un := fun h1 h2 h3 h4 h => ⟨_, h1⟩
    land := fun h1 h2 h3 h4 h5 h6 h7 h => ⟨_, h3⟩
    lor := fun h1 h2 h3 h4 h5 h6 h7 h => ⟨_, h3⟩
    index := fun h1 h2 h => ⟨_, h1⟩
    bnone := trivial
    bsome := fun _ _ _ _ _ => trivial }

theorem OpLt.le {m m' : Nat} {fl : List (Nat × Nat)} (h : OpLt m fl) (hm : m ≤ m') : OpLt m' fl := fun p hp hq => Nat.lt_of_lt_of_le (h p hp hq) hm
theorem OpLt.cons {m n k : Nat} {fl : List (Nat × Nat)} (h : OpLt m fl) (hk : k = 2 → n < m) : OpLt m ((n, k) :: fl) := fun p hp hq => by
  rcases List.mem_cons.1 hp with rfl | hp
  · exact hk hq
  · exact h p hp hq
theorem K.oplt {q pc ts m L hid lc fl} (hK : K G Ps Fs B sl od hb j q pc ts m L hid lc fl) : OpLt m fl :=
  hK (fun q pc ts m L hid lc fl => OpLt m fl) (fun _ _ _ _ _ => True) {
    set := fun h => h
    jmp := fun h1 h2 h => h
    close := fun h1 h2 h3 h => h
    stash := fun h1 h2 h3 h => h.le (by omega)
    foot := fun h1 h2 h3 => fun p hp => by cases hp
    block := fun h1 h2 h3 h4 h5 h6 h => h
    evl := fun h1 h2 h3 h4 h5 h => h5
    evl0 := fun h1 h2 h3 h => h3
    evl1 := fun h1 h2 h3 h4 h => h4
    pop := fun h1 h => h.le (by omega)
    bind := fun h1 h2 h3 h4 h5 h6 h7 h8 h => h.le (by omega)
    bind2 := fun h1 h2 h3 h4 h5 h6 h7 h8 h9 ha hb' h => h.le (by omega)
    storeN := fun h1 h2 h3 h => h.le (by omega)
    storeI := fun h1 h => h.le (by omega)
    iff := fun h1 h2 h3 h4 h5 h6 h7 h8 h9 ha hb' h => h.le (by omega)
    whl := fun h1 h2 h3 h => h
    wtest := fun h1 h2 h3 h => h.le (by omega)
    wback := fun h1 h2 h3 h => h
    loop := fun h => h
    finit := fun h1 h2 h => h
    ftest := fun h1 h2 h => h.cons (fun h => by cases h)
    fback := fun h1 h2 h => h.cons (fun h => by cases h)
    inin := fun h1 h2 h => h
    intest := fun h1 h2 h => h.cons (fun h => by cases h)
    inback := fun h1 h2 h => h.cons (fun h => by cases h)
    ret := fun h1 h2 h3 h => h3.le (by omega)
    call := fun h1 h2 h3 h4 h => h4.le (by omega)
    item := fun h1 h2 h3 h4 h5 h6 h => (h6.le (by omega)).cons (fun _ => by omega)
    bin := fun h1 h2 h3 h => h.le (by omega)
    un := fun h1 h2 h3 h4 h => h
    land := fun h1 h2 h3 h4 h5 h6 h7 h => h
    lor := fun h1 h2 h3 h4 h5 h6 h7 h => h
    index := fun h1 h2 h => h.le (by omega)
    bnone := trivial
    bsome := fun _ _ _ _ _ => trivial }
end

end Go.Proofs.Qxb6500568aGreatDoor
