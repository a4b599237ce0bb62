import Derived.Test.Qxb6500570aGreatGa
/- Plain: sheets of texts, records in a ring, saved texts. -/
namespace Go.Proofs.Qxb6500570aGreat
set_option linter.unusedVariables false
set_option linter.unusedSimpArgs false

abbrev Tx := List UInt8
structure TxOK (T : List Tx) : Prop where
  tl : T.length = 24
  t40 : ∀ t ∈ T, t.length ≤ 40
theorem TxOK.le {T : List Tx} (h : TxOK T) (c : Nat) : (tF T c).length ≤ 40 := by
  unfold tF
  rw [List.getD_eq_getElem?_getD]
  cases hc : T[c]? with
  | none => simp
  | some v => exact h.t40 v (List.mem_of_getElem? hc)
theorem TxOK.set {T : List Tx} (h : TxOK T) {c : Nat} {v : Tx} (hv : v.length ≤ 40) : TxOK (T.set c v) := by
  refine ⟨by rw [List.length_set]; exact h.tl, fun t ht => ?_⟩
  rcases List.mem_or_eq_of_mem_set ht with q | rfl
  · exact h.t40 t q
  · exact hv
theorem TxOK.rep : TxOK (List.replicate 24 []) := ⟨by simp, fun t ht => by rw [(List.mem_replicate.1 ht).2]; simp⟩
theorem tF_ext {A B : List Tx} (hA : A.length = 24) (hB : B.length = 24) (h : ∀ c, c < 24 → tF A c = tF B c) : A = B := by
  apply List.ext_getElem?
  intro i
  by_cases hi : i < 24
  · rw [tF_get (by omega), tF_get (by omega), h i hi]
  · rw [List.getElem?_eq_none (by omega), List.getElem?_eq_none (by omega)]
theorem set_tF {T : List Tx} {c : Nat} : T.set c (tF T c) = T := by
  by_cases hc : c < T.length
  · exact List.ext_getElem? (fun i => by
      rw [List.getElem?_set]
      split
      · rename_i e; subst e; rw [tF_get hc]; try simp [hc]
      · rfl)
  · exact List.set_eq_of_length_le (by omega)

/-- One cell set: a text that is too long is refused. -/
def stT (T : List Tx) (c : Nat) (raw : Tx) : List Tx := if raw.length ≤ 40 then T.set c raw else T
theorem stT_ok {T : List Tx} {c : Nat} {raw : Tx} (h : TxOK T) : TxOK (stT T c raw) := by
  unfold stT; split
  · exact h.set (by assumption)
  · exact h
def layT (f : Nat → Tx) (T : List Tx) : Nat → List Tx
  | 0 => T
  | i + 1 => stT (layT f T i) i (f i)
theorem layT_ok {f : Nat → Tx} {T : List Tx} (h : TxOK T) : ∀ i, TxOK (layT f T i)
  | 0 => h
  | i + 1 => stT_ok (layT_ok h i)
/-- The first i cells of A, the others of T. -/
def mixT (A T : List Tx) (i : Nat) : List Tx := A.take i ++ T.drop i
theorem mix_zero {A T : List Tx} : mixT A T 0 = T := by simp [mixT]
theorem mix_all {A T : List Tx} (hA : A.length = 24) (hT : T.length = 24) : mixT A T 24 = A := by
  unfold mixT
  rw [List.take_of_length_le (by omega), List.drop_eq_nil_of_le (by omega), List.append_nil]
theorem mix_len {A T : List Tx} {i : Nat} (hA : A.length = 24) (hT : T.length = 24) : (mixT A T i).length = 24 := by
  unfold mixT; simp; omega
theorem mix_get {A T : List Tx} {i c : Nat} (hA : A.length = 24) (hT : T.length = 24) : tF (mixT A T i) c = if c < i then tF A c else tF T c := by
  by_cases hc : c < 24
  · have e : (mixT A T i)[c]? = if c < i then A[c]? else T[c]? := by
      unfold mixT
      split
      · rw [List.getElem?_append_left (by simp; omega), List.getElem?_take_of_lt (by assumption)]
      · rw [List.getElem?_append_right (by simp; omega), List.getElem?_drop]
        congr 1
        simp
        omega
    unfold tF
    rw [List.getD_eq_getElem?_getD, e]
    split <;> rw [List.getD_eq_getElem?_getD]
  · unfold tF
    rw [List.getD_eq_getElem?_getD, List.getElem?_eq_none (by rw [mix_len hA hT]; omega), List.getD_eq_getElem?_getD, List.getElem?_eq_none (by omega), List.getD_eq_getElem?_getD, List.getElem?_eq_none (by omega)]
    simp
theorem mix_set {A T : List Tx} {i : Nat} (hA : A.length = 24) (hT : T.length = 24) (hi : i < 24) : (mixT A T i).set i (tF A i) = mixT A T (i + 1) := by
  refine tF_ext (by rw [List.length_set, mix_len hA hT]) (mix_len hA hT) (fun c hc => ?_)
  rw [tF_set (by rw [mix_len hA hT]; exact hi), mix_get hA hT, mix_get hA hT]
  by_cases e : c = i
  · subst e; rw [if_pos rfl, if_pos (by omega)]
  · rw [if_neg e]
    by_cases q : c < i
    · rw [if_pos q, if_pos (by omega)]
    · rw [if_neg q, if_neg (by omega)]
theorem mix_same {A T : List Tx} {i : Nat} (hA : A.length = 24) (hT : T.length = 24) (hi : i < 24) (h : tF A i = tF T i) : mixT A T (i + 1) = mixT A T i := by
  rw [← mix_set hA hT hi]
  have : tF A i = tF (mixT A T i) i := by rw [mix_get hA hT, if_neg (by omega), h]
  rw [this, set_tF]
theorem mix_ok {A T : List Tx} {i : Nat} (hA : TxOK A) (hT : TxOK T) : TxOK (mixT A T i) :=
  ⟨mix_len hA.tl hT.tl, fun t ht => by
    unfold mixT at ht
    rcases List.mem_append.1 ht with q | q
    · exact hA.t40 t (List.mem_of_mem_take q)
    · exact hT.t40 t (List.mem_of_mem_drop q)⟩

/-! ### records -/
def plc (s c : Nat) : Nat := (s * 24 + c) * 2
/-- Slot s of the pool P and its mask m note the way from A to B. -/
structure RecV (A B : Nat → Tx) (P : List Tx) (m s : Nat) : Prop where
  m24 : m < 2 ^ 24
  bt : ∀ c, c < 24 → (m.testBit c = true ↔ A c ≠ B c)
  p0 : ∀ c, c < 24 → tF P (plc s c) = if A c = B c then [] else A c
  p1 : ∀ c, c < 24 → tF P (plc s c + 1) = if A c = B c then [] else B c
def zT : Nat → Tx := fun _ => []
theorem RecV.congr {A B A' B' : Nat → Tx} {P : List Tx} {m s : Nat} (h : RecV A B P m s) (hA : ∀ c, c < 24 → A c = A' c) (hB : ∀ c, c < 24 → B c = B' c) : RecV A' B' P m s :=
  ⟨h.m24, fun c hc => by rw [← hA c hc, ← hB c hc]; exact h.bt c hc, fun c hc => by rw [← hA c hc, ← hB c hc]; exact h.p0 c hc, fun c hc => by rw [← hA c hc, ← hB c hc]; exact h.p1 c hc⟩
/-- The first i cells of slot s get f and g. -/
def stP (P : List Tx) (s : Nat) (f g : Nat → Tx) : Nat → List Tx
  | 0 => P
  | i + 1 => ((stP P s f g i).set (plc s i) (f i)).set (plc s i + 1) (g i)
theorem stP_len {P : List Tx} {s : Nat} {f g : Nat → Tx} : ∀ i, (stP P s f g i).length = P.length
  | 0 => rfl
  | i + 1 => by show (((stP P s f g i).set _ _).set _ _).length = _; rw [List.length_set, List.length_set, stP_len i]
theorem stP_get {P : List Tx} {s : Nat} {f g : Nat → Tx} (hP : P.length = 288) (hs : s < 6) : ∀ i, i ≤ 24 → ∀ t c, c < 24 →
    tF (stP P s f g i) (plc t c) = (if t = s ∧ c < i then f c else tF P (plc t c)) ∧ tF (stP P s f g i) (plc t c + 1) = (if t = s ∧ c < i then g c else tF P (plc t c + 1))
  | 0, _, t, c, hc => by rw [if_neg (by omega), if_neg (by omega)]; exact ⟨rfl, rfl⟩
  | i + 1, hi, t, c, hc => by
    obtain ⟨h1, h2⟩ := stP_get (f := f) (g := g) hP hs i (by omega) t c hc
    have hl := stP_len (P := P) (s := s) (f := f) (g := g) i
    have hb : plc s i + 1 < 288 := by unfold plc; omega
    have hne1 : plc t c ≠ plc s i + 1 := by unfold plc; omega
    have hne2 : plc t c + 1 ≠ plc s i := by unfold plc; omega
    have hiff : plc t c = plc s i ↔ t = s ∧ c = i := by unfold plc; omega
    show tF (((stP P s f g i).set (plc s i) (f i)).set (plc s i + 1) (g i)) (plc t c) = _ ∧ tF (((stP P s f g i).set (plc s i) (f i)).set (plc s i + 1) (g i)) (plc t c + 1) = _
    have hiff2 : plc t c + 1 = plc s i + 1 ↔ t = s ∧ c = i := by rw [← hiff]; omega
    rw [tF_set (by rw [List.length_set]; omega), tF_set (by omega), if_neg hne1, tF_set (by rw [List.length_set]; omega), tF_set (by omega), if_neg hne2, h1, h2]
    by_cases e : t = s ∧ c = i
    · obtain ⟨rfl, rfl⟩ := e
      simp
    · rw [if_neg (fun q => e (hiff.1 q)), if_neg (fun q => e (hiff2.1 q))]
      by_cases q : t = s ∧ c < i
      · have q2 : t = s ∧ c < i + 1 := by omega
        simp only [if_pos q, if_pos q2]
        exact ⟨trivial, trivial⟩
      · have q2 : ¬ (t = s ∧ c < i + 1) := by omega
        simp only [if_neg q, if_neg q2]
        exact ⟨trivial, trivial⟩
/-- A step that changes nothing. -/
theorem stP_same {P : List Tx} {s i : Nat} {f g : Nat → Tx} (hP : P.length = 288) (hs : s < 6) (hi : i < 24) (hf : tF P (plc s i) = f i) (hg : tF P (plc s i + 1) = g i) : stP P s f g (i + 1) = stP P s f g i := by
  obtain ⟨h1, h2⟩ := stP_get (f := f) (g := g) hP hs i (by omega) s i hi
  rw [if_neg (by omega)] at h1 h2
  show ((stP P s f g i).set (plc s i) (f i)).set (plc s i + 1) (g i) = _
  rw [← hf, ← h1, set_tF, ← hg, ← h2, set_tF]
def mkM (A B : Nat → Tx) : Nat → Nat
  | 0 => 0
  | i + 1 => if A i = B i then mkM A B i else mkM A B i ||| 2 ^ i
theorem mkM_lt (A B : Nat → Tx) : ∀ i, mkM A B i < 2 ^ i
  | 0 => by simp [mkM]
  | i + 1 => by
    have h := mkM_lt A B i
    have h2 : 2 ^ i < 2 ^ (i + 1) := Nat.pow_lt_pow_right (by omega) (by omega)
    unfold mkM
    split
    · omega
    · exact Nat.or_lt_two_pow (by omega) h2
theorem mkM_bit (A B : Nat → Tx) : ∀ i c, (mkM A B i).testBit c = true ↔ c < i ∧ A c ≠ B c
  | 0, c => by simp [mkM]
  | i + 1, c => by
    have h := mkM_bit A B i c
    unfold mkM
    split
    · rename_i e
      rw [h]
      exact ⟨fun q => ⟨by omega, q.2⟩, fun q => ⟨by
        rcases Nat.lt_or_ge c i with z | z
        · exact z
        · have : c = i := by omega
          subst this
          exact absurd e q.2, q.2⟩⟩
    · rename_i e
      rw [Nat.testBit_or, Bool.or_eq_true, h, Nat.testBit_two_pow]
      simp only [decide_eq_true_eq]
      constructor
      · rintro (q | rfl)
        · exact ⟨by omega, q.2⟩
        · exact ⟨by omega, e⟩
      · rintro ⟨q1, q2⟩
        by_cases z : i = c
        · exact .inr z
        · exact .inl ⟨by omega, q2⟩

/-- The ring: L says which of the six slots from base b on are live; record k leads from h k to h (k + 1). -/
structure Rg (P : List Tx) (M : List Nat) (b : Nat) (L : Nat → Bool) (h : Nat → Nat → Tx) : Prop where
  pl : P.length = 288
  ml : M.length = 6
  b6 : b < 6
  rc : ∀ k, k < 6 → RecV (if L k = true then h k else zT) (if L k = true then h (k + 1) else zT) P (rF M ((b + k) % 6)) ((b + k) % 6)
theorem Rg.congr {P : List Tx} {M : List Nat} {b : Nat} {L L' : Nat → Bool} {h h' : Nat → Nat → Tx} (H : Rg P M b L h) (hL : ∀ k, k < 6 → L k = L' k) (hh : ∀ k, k < 6 → L k = true → ∀ c, c < 24 → h k c = h' k c ∧ h (k + 1) c = h' (k + 1) c) : Rg P M b L' h' := by
  refine ⟨H.pl, H.ml, H.b6, fun k hk => ?_⟩
  have := H.rc k hk
  rw [← hL k hk]
  by_cases q : L k = true
  · rw [if_pos q, if_pos q] at this ⊢
    exact this.congr (fun c hc => (hh k hk q c hc).1) (fun c hc => (hh k hk q c hc).2)
  · rw [if_neg q, if_neg q] at this ⊢
    exact this
theorem Rg.put {P : List Tx} {M : List Nat} {b k0 : Nat} {L : Nat → Bool} {h : Nat → Nat → Tx} {A B f g : Nat → Tx} {m : Nat} (H : Rg P M b L h) (hk0 : k0 < 6) (hm : m < 2 ^ 24) (hb : ∀ c, c < 24 → (m.testBit c = true ↔ A c ≠ B c))
    (hf : ∀ c, c < 24 → f c = if A c = B c then [] else A c) (hg : ∀ c, c < 24 → g c = if A c = B c then [] else B c) (lv : Bool) (h' : Nat → Nat → Tx) (hh : ∀ k, k < 6 → k ≠ k0 → L k = true → ∀ c, c < 24 → h k c = h' k c ∧ h (k + 1) c = h' (k + 1) c)
    (hA : A = if lv = true then h' k0 else zT) (hB : B = if lv = true then h' (k0 + 1) else zT) :
    Rg (stP P ((b + k0) % 6) f g 24) (M.set ((b + k0) % 6) m) b (fun k => if k = k0 then lv else L k) h' := by
  have hb6 := H.b6
  refine ⟨by rw [stP_len]; exact H.pl, by rw [List.length_set]; exact H.ml, hb6, fun k hk => ?_⟩
  have hsl : (b + k0) % 6 < 6 := Nat.mod_lt _ (by omega)
  have hml := H.ml
  by_cases e : k = k0
  · subst e
    simp only [if_true]
    rw [← hA, ← hB, rF_set (by omega), if_pos rfl]
    refine ⟨hm, hb, fun c hc => ?_, fun c hc => ?_⟩
    · rw [(stP_get H.pl hsl 24 (by omega) _ c hc).1, if_pos ⟨rfl, hc⟩]; exact hf c hc
    · rw [(stP_get H.pl hsl 24 (by omega) _ c hc).2, if_pos ⟨rfl, hc⟩]; exact hg c hc
  · have hne : (b + k) % 6 ≠ (b + k0) % 6 := by omega
    have := H.rc k hk
    simp only [if_neg e]
    rw [rF_set (by omega), if_neg hne]
    refine ⟨this.m24, ?_, fun c hc => ?_, fun c hc => ?_⟩
    · intro c hc
      rw [this.bt c hc]
      by_cases q : L k = true
      · simp only [if_pos q]; rw [(hh k hk e q c hc).1, (hh k hk e q c hc).2]
      · simp only [if_neg q]
    · rw [(stP_get H.pl hsl 24 (by omega) _ c hc).1, if_neg (by omega), this.p0 c hc]
      by_cases q : L k = true
      · simp only [if_pos q]; rw [(hh k hk e q c hc).1, (hh k hk e q c hc).2]
      · simp only [if_neg q]
    · rw [(stP_get H.pl hsl 24 (by omega) _ c hc).2, if_neg (by omega), this.p1 c hc]
      by_cases q : L k = true
      · simp only [if_pos q]; rw [(hh k hk e q c hc).1, (hh k hk e q c hc).2]
      · simp only [if_neg q]
/-- Wiping slot k0. -/
theorem Rg.wipe {P : List Tx} {M : List Nat} {b k0 : Nat} {L : Nat → Bool} {h : Nat → Nat → Tx} (H : Rg P M b L h) (hk0 : k0 < 6) : Rg (stP P ((b + k0) % 6) zT zT 24) (M.set ((b + k0) % 6) 0) b (fun k => if k = k0 then false else L k) h :=
  H.put hk0 (A := zT) (B := zT) (by omega) (fun c hc => by simp) (fun c hc => by simp [zT]) (fun c hc => by simp [zT]) false h (fun _ _ _ _ _ _ => ⟨rfl, rfl⟩) (by simp) (by simp)
/-- Noting a command in slot u. -/
theorem Rg.note {P : List Tx} {M : List Nat} {b u : Nat} {L : Nat → Bool} {h : Nat → Nat → Tx} {B : Nat → Tx} (H : Rg P M b L h) (hu : u < 6) (hL : ∀ k, k < 6 → L k = decide (k < u)) :
    Rg (stP P ((b + u) % 6) (fun c => if h u c = B c then [] else h u c) (fun c => if h u c = B c then [] else B c) 24) (M.set ((b + u) % 6) (mkM (h u) B 24)) b (fun k => decide (k < u + 1)) (fun k => if k ≤ u then h k else B) := by
  refine (H.put hu (A := h u) (B := B) (f := fun c => if h u c = B c then [] else h u c) (g := fun c => if h u c = B c then [] else B c) (m := mkM (h u) B 24) (mkM_lt _ _ 24) (fun c hc => ?_) (fun c hc => rfl) (fun c hc => rfl) true (fun k => if k ≤ u then h k else B) (fun k hk hne hl c hc => ?_) ?_ ?_).congr (fun k hk => ?_) (fun k hk _ c hc => ⟨rfl, rfl⟩)
  · rw [mkM_bit]; exact ⟨fun q => q.2, fun q => ⟨hc, q⟩⟩
  · rw [hL k hk] at hl
    have := of_decide_eq_true hl
    simp only [if_pos (show k ≤ u by omega), if_pos (show k + 1 ≤ u by omega)]
    exact ⟨trivial, trivial⟩
  · simp
  · simp; omega
  · show (if k = u then true else L k) = _
    by_cases e : k = u
    · subst e; simp
    · rw [if_neg e, hL k hk]
      exact decide_eq_decide.2 (by omega)
/-- The base goes on by one. -/
theorem Rg.turn {P : List Tx} {M : List Nat} {b : Nat} {L : Nat → Bool} {h : Nat → Nat → Tx} (H : Rg P M b L h) (h0 : L 0 = false) : Rg P M ((b + 1) % 6) (fun k => decide (k < 5) && L (k + 1)) (fun k => h (k + 1)) := by
  have hb6 := H.b6
  refine ⟨H.pl, H.ml, Nat.mod_lt _ (by omega), fun k hk => ?_⟩
  by_cases q : k < 5
  · have := H.rc (k + 1) (by omega)
    simp only [decide_eq_true q, Bool.true_and]
    rw [show ((b + 1) % 6 + k) % 6 = (b + (k + 1)) % 6 by omega]
    exact this
  · have := H.rc 0 (by omega)
    rw [h0] at this
    simp only [decide_eq_false q, Bool.false_and]
    rw [show ((b + 1) % 6 + k) % 6 = (b + 0) % 6 by omega]
    exact this
/-- All dead: any base will do. -/
theorem Rg.dead {P : List Tx} {M : List Nat} {b : Nat} {L : Nat → Bool} {h : Nat → Nat → Tx} (H : Rg P M b L h) (h0 : ∀ k, k < 6 → L k = false) (h' : Nat → Nat → Tx) : Rg P M 0 (fun _ => false) h' := by
  have hb6 := H.b6
  refine ⟨H.pl, H.ml, by omega, fun k hk => ?_⟩
  have := H.rc ((6 + k - b) % 6) (Nat.mod_lt _ (by omega))
  rw [h0 _ (Nat.mod_lt _ (by omega))] at this
  rw [show (b + (6 + k - b) % 6) % 6 = (0 + k) % 6 by omega] at this
  exact this
theorem Rg.new : Rg (List.replicate 288 []) (List.replicate 6 0) 0 (fun _ => false) (fun _ => zT) := by
  refine ⟨List.length_replicate, List.length_replicate, by omega, fun k hk => ?_⟩
  have e : rF (List.replicate 6 0) ((0 + k) % 6) = 0 := by
    unfold rF
    rw [List.getD_eq_getElem?_getD, List.getElem?_replicate]
    split <;> rfl
  have e2 : ∀ x, tF (List.replicate 288 []) x = [] := fun x => by
    unfold tF
    rw [List.getD_eq_getElem?_getD, List.getElem?_replicate]
    split <;> rfl
  rw [e]
  exact ⟨by omega, fun c hc => by simp, fun c hc => by rw [e2]; simp [zT], fun c hc => by rw [e2]; simp [zT]⟩
theorem Rg.slot {P : List Tx} {M : List Nat} {b k : Nat} {L : Nat → Bool} {h : Nat → Nat → Tx} (H : Rg P M b L h) (hk : k < 6) (hl : L k = true) : RecV (h k) (h (k + 1)) P (rF M ((b + k) % 6)) ((b + k) % 6) := by
  have := H.rc k hk
  rw [if_pos hl, if_pos hl] at this
  exact this

/-! ### the history: what can be undone, the sheet, what can be redone -/
def hst (past : List (List Tx)) (T : List Tx) (next : List (List Tx)) (k : Nat) : Nat → Tx := tF ((past ++ T :: next.reverse).getD k [])
theorem hst_cur {past next : List (List Tx)} {T : List Tx} : hst past T next past.length = tF T := by
  unfold hst
  rw [List.getD_eq_getElem?_getD, List.getElem?_append_right (by omega)]
  simp
theorem hst_past {past next : List (List Tx)} {T : List Tx} {k : Nat} (hk : k < past.length) : hst past T next k = tF past[k] := by
  unfold hst
  rw [List.getD_eq_getElem?_getD, List.getElem?_append_left hk, List.getElem?_eq_getElem hk]
  rfl
/-- Undo: the history is the same list. -/
theorem hst_undo {past next : List (List Tx)} {T A : List Tx} {k : Nat} : hst (past ++ [A]) T next k = hst past A (next ++ [T]) k := by
  unfold hst
  simp
end Go.Proofs.Qxb6500570aGreat
