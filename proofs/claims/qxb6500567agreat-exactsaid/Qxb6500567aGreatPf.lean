import Derived.Test.Qxb6500567aGreatPe
/- The definition, the lock-step machine and the automaton answer alike. -/
namespace Go.Proofs.Qxb6500567aGreat
set_option linter.unusedVariables false
set_option linter.unusedSimpArgs false

theorem gs_chn {x : RE} {g : Nat} : ∀ k, g ∈ gs (chn x k) → g ∈ gs x := by
  intro k
  induction k with
  | zero => exact id
  | succ k ih => intro h; simp only [chn, gs, List.mem_append] at h; exact h.elim ih id

theorem gs_optn {x : RE} {lz : Bool} {g : Nat} : ∀ k, g ∈ gs (optn x lz k) → g ∈ gs x := by
  intro k
  induction k with
  | zero => intro h; simp [optn, gs] at h
  | succ k ih =>
    intro h
    have hin : g ∈ gs (if k = 0 then x else .cat x (optn x lz k)) → g ∈ gs x := by
      intro h
      split at h
      · exact h
      · simp only [gs, List.mem_append] at h; exact h.elim id ih
    have ho : optn x lz (k + 1) = if lz then .alt .emp (if k = 0 then x else .cat x (optn x lz k)) else .alt (if k = 0 then x else .cat x (optn x lz k)) .emp := rfl
    rw [ho] at h
    cases lz
    · simp only [Bool.false_eq_true, if_false, gs, List.append_nil] at h; exact hin h
    · simp only [if_true, gs, List.nil_append] at h; exact hin h

theorem gs_tail {x t : RE} {mn : Nat} {mx : Option Nat} {lz : Bool} (ht : tailR x mn mx lz = some t) {g : Nat} (h : g ∈ gs t) : g ∈ gs x := by
  unfold tailR at ht
  cases mx with
  | none => cases ht; exact h
  | some m =>
    simp only at ht
    split at ht
    · cases ht; exact gs_optn _ h
    · cases ht

theorem gs_unr {x : RE} {mn : Nat} {mx : Option Nat} {lz : Bool} {g : Nat} (h : g ∈ gs (unr x mn mx lz)) : g ∈ gs x := by
  unfold unr at h
  cases mn with
  | zero =>
    cases ht : tailR x 0 mx lz with
    | none => rw [ht] at h; simp [gs] at h
    | some t => rw [ht] at h; exact gs_tail ht h
  | succ k =>
    cases ht : tailR x (k + 1) mx lz with
    | none => rw [ht] at h; exact gs_chn k h
    | some t =>
      rw [ht] at h
      simp only [gs, List.mem_append] at h
      exact h.elim (gs_chn k) (gs_tail ht)

theorem gs_core : ∀ (r : RE) {g : Nat}, g ∈ gs (core r) → g ∈ gs r := by
  intro r
  have hch : ∀ (a : RE) {g : Nat}, (g ∈ gs (core a) → g ∈ gs a) → g ∈ gs (if shp a = 0 then .emp else if shp a = 1 then .set 0 else core a) → g ∈ gs a := by
    intro a g ih h
    split at h
    · simp [gs] at h
    · split at h
      · simp [gs] at h
      · exact ih h
  induction r with
  | skip | region _ _ _ | exit _ | refuse _ | loop _ _ | scope _ _ | goto _ | ret | label _ => intro g h; exact h
  | seq a b ia ib =>
    intro g h
    simp only [core] at h
    simp only [gs, List.mem_append]
    split at h
    · exact .inr (ib h)
    · split at h
      · exact .inl (ia h)
      · simp only [gs, List.mem_append] at h
        exact h.imp ia ib
  | cond _ a b ia ib =>
    intro g h
    simp only [core] at h
    simp only [gs, List.mem_append]
    split at h
    · exact .inr (ib h)
    · split at h
      · exact .inl (ia h)
      · simp only [gs, List.mem_append] at h
        rcases h with h | h
        · left
          split at h
          · simp [gs] at h
          · exact ia h
        · right
          split at h
          · simp [gs] at h
          · exact ib h
  | block k a ia =>
    intro g h
    simp only [core, gs, List.mem_cons] at h ⊢
    exact h.imp id (hch a ia)
  | rangeFunc _ _ xx a _ ia => intro g h; simp only [core] at h; exact ia (gs_unr h)

theorem gs_child {r : RE} {g : Nat} (h : g ∈ gs (child r)) : g ∈ gs r := by
  unfold child at h
  split at h
  · simp [gs] at h
  · split at h
    · simp [gs] at h
    · exact gs_core r h

theorem core_chn {x : RE} (h : Core x) : ∀ k, Core (chn x k) := by
  intro k
  induction k with
  | zero => exact h
  | succ k ih => exact ⟨ih, h⟩

theorem core_optn {x : RE} {lz : Bool} (h : Core x) : ∀ k, Core (optn x lz k) := by
  intro k
  induction k with
  | zero => trivial
  | succ k ih =>
    have hin : Core (if k = 0 then x else .cat x (optn x lz k)) := by
      split
      · exact h
      · exact ⟨h, ih⟩
    have ho : optn x lz (k + 1) = if lz then .alt .emp (if k = 0 then x else .cat x (optn x lz k)) else .alt (if k = 0 then x else .cat x (optn x lz k)) .emp := rfl
    rw [ho]
    cases lz
    · exact ⟨hin, trivial⟩
    · exact ⟨trivial, hin⟩

theorem core_tail {x t : RE} {mn : Nat} {mx : Option Nat} {lz : Bool} (h : Core x) (hn : mx = none → nul x = false) (ht : tailR x mn mx lz = some t) : Core t := by
  unfold tailR at ht
  cases mx with
  | none => cases ht; exact ⟨h, rfl, rfl, hn rfl⟩
  | some m =>
    simp only at ht
    split at ht
    · cases ht; exact core_optn h _
    · cases ht

theorem core_unr {x : RE} {mn : Nat} {mx : Option Nat} {lz : Bool} (h : Core x) (hn : mx = none → nul x = false) : Core (unr x mn mx lz) := by
  unfold unr
  cases mn with
  | zero =>
    cases ht : tailR x 0 mx lz with
    | none => trivial
    | some t => exact core_tail h hn ht
  | succ k =>
    cases ht : tailR x (k + 1) mx lz with
    | none => exact core_chn h k
    | some t => exact ⟨core_chn h k, core_tail h hn ht⟩

theorem core_is : ∀ (r : RE), WF r → shp r = 2 → Core (core r) := by
  intro r
  have hch : ∀ (a : RE), (shp a = 2 → Core (core a)) → Core (if shp a = 0 then .emp else if shp a = 1 then .set 0 else core a) := by
    intro a ih
    split
    · trivial
    · split
      · trivial
      · exact ih (by rcases shp_cases a with h | h | h <;> simp_all)
  induction r with
  | skip | region _ _ _ | exit _ | refuse _ | loop _ _ | scope _ _ | goto _ | ret | label _ => intro _ _; trivial
  | seq a b ia ib =>
    intro hw h
    simp only [shp] at h
    split at h
    · simp at h
    · rename_i h1
      split at h
      · simp at h
      · rename_i h2
        simp only [core]
        split
        · rename_i ha
          exact ib hw.2 (by rcases shp_cases b with hb | hb | hb; exact absurd ⟨ha, hb⟩ h2; exact absurd (.inr hb) h1; exact hb)
        · rename_i ha
          have ha2 : shp a = 2 := by rcases shp_cases a with hb | hb | hb; exact absurd hb ha; exact absurd (.inl hb) h1; exact hb
          split
          · exact ia hw.1 ha2
          · rename_i hb
            exact ⟨ia hw.1 ha2, ib hw.2 (by rcases shp_cases b with hb' | hb' | hb'; exact absurd hb' hb; exact absurd (.inr hb') h1; exact hb')⟩
  | cond _ a b ia ib =>
    intro hw h
    simp only [shp] at h
    simp only [core]
    by_cases h1 : shp a = 1
    · rw [if_pos h1] at h ⊢; exact ib hw.2 h
    · rw [if_neg h1] at h ⊢
      by_cases h2 : shp b = 1
      · rw [if_pos h2]; rw [if_pos (.inl h2)] at h; exact ia hw.1 h
      · rw [if_neg h2]
        exact ⟨hch a (ia hw.1), hch b (ib hw.2)⟩
  | block g a ia =>
    intro hw h
    refine ⟨hch a (ia hw.1), fun hg => hw.2.1 ?_⟩
    split at hg
    · simp [gs] at hg
    · split at hg
      · simp [gs] at hg
      · exact gs_core a hg
  | rangeFunc _ _ xx a _ ia =>
    intro hw h
    simp only [shp] at h
    split at h
    · simp at h
    · split at h
      · simp at h
      · rename_i h2
        have ha : shp a = 2 := by
          by_cases h3 : shp a = 2
          · exact h3
          · exact absurd (.inl h3) h2
        simp only [core]
        exact core_unr (ia hw.1 ha) (fun hm => core_ok.core_nul a hw.1 ha (hw.2.1 hm))

theorem child_is {r : RE} (hw : WF r) : Core (child r) := by
  unfold child
  split
  · trivial
  · rename_i h
    split
    · trivial
    · rename_i h'
      exact core_is r hw (by rcases shp_cases r with h4 | h4 | h4; exact absurd h4 h; exact absurd h4 h'; exact h4)

theorem WF.gs {r : RE} (h : WF r) {g : Nat} (hg : g ∈ gs r) : 1 ≤ g ∧ g ≤ 3 := by
  induction r with
  | skip | region _ _ _ | exit _ | refuse _ | loop _ _ | scope _ _ | goto _ | ret | label _ => simp [Go.Proofs.Qxb6500567aGreat.gs] at hg
  | seq a b ia ib => simp only [Go.Proofs.Qxb6500567aGreat.gs, List.mem_append] at hg; exact hg.elim (ia h.1) (ib h.2)
  | cond _ a b ia ib => simp only [Go.Proofs.Qxb6500567aGreat.gs, List.mem_append] at hg; exact hg.elim (ia h.1) (ib h.2)
  | rangeFunc _ _ xx a _ ia => exact ia h.1 hg
  | block k a ia =>
    simp only [Go.Proofs.Qxb6500567aGreat.gs, List.mem_cons] at hg
    rcases hg with rfl | hg
    · exact h.2.2
    · exact ia h.1 hg

/-! ### The definition -/

def nocaps : List Int := List.replicate 8 (-1)

/-- The first match that starts at a place. -/
def matAt (s : List UInt8) (r : RE) (i : Nat) : Option (List Int) := (all s r i nocaps).head?.map (fun x => (x.2.set 0 i).set 1 x.1)

/-- The leftmost match. -/
def lft (s : List UInt8) (r : RE) (i : Nat) : Option (List Int) := (List.range' i (s.length + 1 - i)).findSome? (matAt s r)

theorem head_flat {α β : Type} (f : α → List β) : ∀ (L : List α), (L.flatMap f).head? = L.findSome? (fun a => (f a).head?) := by
  intro L
  induction L with
  | nil => rfl
  | cons a L ih =>
    simp only [List.flatMap_cons, List.findSome?_cons]
    cases h : f a with
    | nil => simpa using ih
    | cons x xs => simp

theorem map_findSome {α β γ : Type} (g : β → γ) (f : α → Option β) : ∀ (L : List α), (L.findSome? f).map g = L.findSome? (fun a => (f a).map g) := by
  intro L
  induction L with
  | nil => rfl
  | cons a L ih =>
    simp only [List.findSome?_cons]
    cases f a with
    | none => simpa using ih
    | some x => rfl

theorem findSome_congr {α β : Type} {f g : α → Option β} : ∀ {L : List α}, (∀ a ∈ L, f a = g a) → L.findSome? f = L.findSome? g := by
  intro L
  induction L with
  | nil => intro _; rfl
  | cons a L ih =>
    intro h
    simp only [List.findSome?_cons]
    rw [h a (by simp), ih (fun b hb => h b (by simp [hb]))]

theorem rd_code {s : List UInt8} {r : RE} (hw : WF r) {R : Nat → Nat → List Int → List Way} (hR : IsRd (codeOf (child r)) s R) {i : Nat} (hi : i ≤ s.length) (c : List Int) : R 0 i c = all s (child r) i c := by
  obtain ⟨f, hf⟩ := codeOf_sound (s := s) (child_is hw) hi c
  exact rd_eq hR hf

theorem dfd_code {s : List UInt8} {r : RE} (hw : WF r) {i : Nat} (hi : i ≤ s.length) : Dfd (codeOf (child r)) s 0 i := by
  obtain ⟨f, hf⟩ := codeOf_sound (s := s) (child_is hw) hi []
  exact ⟨f, _, hf⟩

theorem start_head {s : List UInt8} {r : RE} (hw : WF r) {R : Nat → Nat → List Int → List Way} (hR : IsRd (codeOf (child r)) s R) {i : Nat} (hi : i ≤ s.length) : (R 0 i (c0 i)).head?.map fin1 = matAt s r i := by
  rw [rd_code hw hR hi, (child_ok hw (c0 i) hi).head]
  unfold c0
  rw [show List.replicate 8 (-1 : Int) = nocaps from rfl, all_set r 0 0 i (fun h => by have := hw.gs h; omega) (.inl rfl)]
  unfold matAt
  cases all s r i nocaps with
  | nil => rfl
  | cons x xs => rfl

/-- The lock-step machine's answer is the definition's. -/
theorem scan_lft {s : List UInt8} {r : RE} (hw : WF r) {i : Nat} (hi : i ≤ s.length) : ScanR (codeOf (child r)) s (s.length + 1 - i) i [] none (lft s r i) := by
  obtain ⟨R, hR⟩ := rd_ex (codeOf (child r)) s
  obtain ⟨x, h1, h2⟩ := scan_ok hR (p := codeOf (child r)) (s := s) (fun i hi => dfd_code hw hi) _ i [] none rfl (by omega) (fun _ => full_nil _ _ _ _) (fun _ => rfl)
  have : x = lft s r i := by
    rw [h2, if_pos rfl, Option.or_none]
    simp only [val, List.flatMap_nil, List.nil_append]
    unfold starts lft
    rw [head_flat, map_findSome]
    apply findSome_congr
    intro a ha
    have := List.mem_range'.1 ha
    obtain ⟨k, hk, rfl⟩ := this
    exact start_head hw hR (by omega)
  rw [← this]
  exact h1

theorem lft_none {s : List UInt8} {r : RE} {i : Nat} : lft s r i ≠ none ↔ ∃ a, i ≤ a ∧ a ≤ s.length ∧ matAt s r a ≠ none := by
  unfold lft
  rw [Ne, List.findSome?_eq_none_iff]
  constructor
  · intro h
    simp only [Classical.not_forall] at h
    obtain ⟨a, ha, hn⟩ := h
    obtain ⟨k, hk, rfl⟩ := List.mem_range'.1 ha
    exact ⟨_, by omega, by omega, hn⟩
  · rintro ⟨a, h1, h2, h3⟩ h
    exact h3 (h a (List.mem_range'.2 ⟨a - i, by omega, by omega⟩))

theorem acc_mat_at {s : List UInt8} {r : RE} (hw : WF r) {R : Nat → Nat → List Int → List Way} (hR : IsRd (codeOf (child r)) s R) {i : Nat} (hi : i ≤ s.length) : Acc R 0 i ↔ matAt s r i ≠ none := by
  unfold Acc
  rw [← start_head hw hR hi]
  have h1 : R 0 i [] = [] ↔ R 0 i (c0 i) = [] := ⟨rd_nil hR (dfd_code hw hi), rd_nil hR (dfd_code hw hi)⟩
  rw [Ne, h1]
  cases R 0 i (c0 i) <;> simp

/-- The automaton's answer is the definition's. -/
theorem any_lft {s : List UInt8} {r : RE} (hw : WF r) {i : Nat} (hi : i ≤ s.length) {Q : Nat} {b : Bool} (hC : Clo (codeOf (child r)) (decide (i = 0)) false 1 Q) (hRun : RunD (codeOf (child r)) s (s.length - i) i Q b) (hin : ∀ pc S, (codeOf (child r))[pc]? = some (.chr S) → pc + 1 < (codeOf (child r)).length) : b = (lft s r i).isSome := by
  obtain ⟨R, hR⟩ := rd_ex (codeOf (child r)) s
  have hp0 : 0 < (codeOf (child r)).length := by simp [codeOf]
  have hs1 : ∀ pc, (1 : Nat).testBit pc = true → pc = 0 := by
    intro pc h
    cases pc with
    | zero => rfl
    | succ k => rw [Nat.testBit_succ] at h; simp at h
  have hreach : ∀ pc, Q.testBit pc = true → Reach (codeOf (child r)) (decide (i = 0)) (decide (i = s.length)) 0 pc := by
    intro pc hpc
    obtain ⟨a, ha, hr⟩ := hC.gen pc hpc
    rw [hs1 a ha] at hr
    exact hr.up id (by simp)
  have hmain := run_ok hR hp0 hin (fun i hi => dfd_code hw hi) _ i Q b hRun (by omega) hi (fun pc hpc => ⟨hC.lt pc hpc, (reach_dfd hR (hreach pc hpc) (dfd_code hw hi)).1⟩) (fun pc pc' h he => hC.cl pc pc' h he)
  have h0 : (∃ pc, Q.testBit pc = true ∧ Acc R pc i) ↔ Acc R 0 i := by
    constructor
    · rintro ⟨pc, h1, h2⟩
      exact (reach_dfd hR (hreach pc h1) (dfd_code hw hi)).2 h2
    · intro h
      exact ⟨0, hC.sub 0 hp0 (by simp), h⟩
  rw [h0] at hmain
  have hiff : b = true ↔ lft s r i ≠ none := by
    rw [hmain, lft_none]
    constructor
    · rintro (h | ⟨a, h1, h2, h3⟩)
      · exact ⟨i, Nat.le_refl _, hi, (acc_mat_at hw hR hi).1 h⟩
      · exact ⟨a, by omega, h2, (acc_mat_at hw hR h2).1 h3⟩
    · rintro ⟨a, h1, h2, h3⟩
      by_cases ha : a = i
      · subst ha; exact .inl ((acc_mat_at hw hR h2).2 h3)
      · exact .inr ⟨a, by omega, h2, (acc_mat_at hw hR h2).2 h3⟩
  cases hl : lft s r i with
  | none => rw [hl] at hiff; simp at hiff; simpa using hiff
  | some x => rw [hl] at hiff; simp at hiff; simpa using hiff

end Go.Proofs.Qxb6500567aGreat
