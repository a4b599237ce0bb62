import Derived.Test.Qxb6500567aGreatPo
/- Templates and the four commands, plain. -/
namespace Go.Proofs.Qxb6500567aGreat
set_option linter.unusedVariables false
set_option linter.unusedSimpArgs false

/-- A cut. -/
abbrev cut (s : List UInt8) (a b : Nat) : List UInt8 := (s.drop a).take (b - a)

theorem cut_len {s : List UInt8} {a b : Nat} (h : a ≤ b) (hb : b ≤ s.length) : (cut s a b).length = b - a := by simp; omega
theorem cut_app {s : List UInt8} {a b c : Nat} (h1 : a ≤ b) (h2 : b ≤ c) : cut s a b ++ cut s b c = cut s a c := by
  unfold cut
  rw [show c - a = (b - a) + (c - b) by omega, List.take_add, List.drop_drop, show a + (b - a) = b by omega]
theorem cut_one {s : List UInt8} {a : Nat} {x : UInt8} (h : s[a]? = some x) : cut s a (a + 1) = [x] := by
  unfold cut
  obtain ⟨h1, h2⟩ := List.getElem?_eq_some_iff.1 h
  rw [List.drop_eq_getElem_cons h1, h2, show a + 1 - a = 1 by omega]
  rfl

/-- What group g caught. -/
def grpT (s : List UInt8) (c : List Int) (g : Nat) : List UInt8 := if 0 ≤ c.getD (2 * g) 0 ∧ 0 ≤ c.getD (2 * g + 1) 0 then cut s (c.getD (2 * g) 0).toNat (c.getD (2 * g + 1) 0).toNat else []

abbrev isD (d : UInt8) : Prop := 48 ≤ d.toNat ∧ d.toNat ≤ 51

/-- The first bad sign. -/
def badF : List UInt8 → Nat → Option Nat
  | [], _ => none
  | [b], i => if b.toNat = 36 then some i else none
  | b :: d :: t, i => if b.toNat = 36 then (if d.toNat = 36 ∨ isD d then badF t (i + 2) else some i) else badF (d :: t) (i + 1)

/-- The template told out. -/
def exF (s : List UInt8) (c : List Int) : List UInt8 → List UInt8
  | [] => []
  | [b] => [b]
  | b :: d :: t => if b.toNat = 36 then (if d.toNat = 36 then d :: exF s c t else grpT s c (d.toNat - 48) ++ exF s c t) else b :: exF s c (d :: t)

/-- A piece. -/
structure PC where
  lo : Nat
  hi : Nat
  g : Int

def litP (P : List PC) (lo hi : Nat) : List PC :=
  match P.getLast? with
  | some p => if p.g < 0 ∧ p.hi = lo then P.dropLast ++ [⟨p.lo, hi, p.g⟩] else P ++ [⟨lo, hi, -1⟩]
  | none => P ++ [⟨lo, hi, -1⟩]

def cmpP : List UInt8 → Nat → List PC → List PC × Option Nat
  | [], _, P => (P, none)
  | [b], i, P => if b.toNat = 36 then (P, some i) else (litP P i (i + 1), none)
  | b :: d :: u, i, P => if b.toNat = 36 then (if d.toNat = 36 then cmpP u (i + 2) (litP P (i + 1) (i + 2)) else if isD d then cmpP u (i + 2) (P ++ [⟨0, 0, ((d.toNat - 48 : Nat) : Int)⟩]) else (P, some i))
    else cmpP (d :: u) (i + 1) (litP P i (i + 1))

def pcT (t s : List UInt8) (c : List Int) (p : PC) : List UInt8 := if p.g < 0 then cut t p.lo p.hi else grpT s c p.g.toNat
def pcsT (t s : List UInt8) (c : List Int) (P : List PC) : List UInt8 := P.flatMap (pcT t s c)

/-- Pieces that lie within the template, up to i. -/
structure PCOK (n i : Nat) (P : List PC) : Prop where
  len : P.length ≤ i
  le : i ≤ n
  ok : ∀ p ∈ P, (p.g = -1 ∧ p.lo ≤ p.hi ∧ p.hi ≤ i) ∨ (0 ≤ p.g ∧ p.g ≤ 3 ∧ p.lo = 0 ∧ p.hi = 0)

theorem pcok_nil (n : Nat) : PCOK n 0 [] := ⟨by simp, by omega, by simp⟩

theorem lit_cases (P : List PC) (lo hi : Nat) : (∃ Q p, P = Q ++ [p] ∧ p.g < 0 ∧ p.hi = lo ∧ litP P lo hi = Q ++ [⟨p.lo, hi, p.g⟩]) ∨ (litP P lo hi = P ++ [⟨lo, hi, -1⟩] ∧ ∀ Q p, P = Q ++ [p] → ¬ (p.g < 0 ∧ p.hi = lo)) := by
  rcases List.eq_nil_or_concat P with rfl | ⟨Q, p, rfl⟩
  · right
    refine ⟨rfl, ?_⟩
    intro Q p h
    simp at h
  · rw [List.concat_eq_append]
    by_cases h : p.g < 0 ∧ p.hi = lo
    · left
      refine ⟨Q, p, rfl, h.1, h.2, ?_⟩
      unfold litP
      simp [h]
    · right
      refine ⟨?_, ?_⟩
      · unfold litP
        simp only [List.getLast?_append, List.getLast?_singleton, Option.some_or]
        rw [if_neg h]
      · intro Q' p' h'
        have := List.append_inj' h' rfl
        simp at this
        rw [← this.2]
        exact h

theorem PCOK.lit {n i lo hi j : Nat} {P : List PC} (h : PCOK n i P) (h1 : i ≤ lo) (h2 : lo ≤ hi) (h3 : hi ≤ j) (h4 : i < j) (h5 : j ≤ n) : PCOK n j (litP P lo hi) := by
  rcases lit_cases P lo hi with ⟨Q, p, rfl, hg, hh, e⟩ | ⟨e, _⟩
  · rw [e]
    have hl := h.len
    simp only [List.length_append, List.length_cons, List.length_nil] at hl
    refine ⟨by simp only [List.length_append, List.length_cons, List.length_nil]; omega, h5, ?_⟩
    intro q hq
    rcases List.mem_append.1 hq with hq | hq
    · rcases h.ok q (List.mem_append_left _ hq) with h' | h'
      · exact .inl ⟨h'.1, h'.2.1, by omega⟩
      · exact .inr h'
    · simp at hq
      subst hq
      rcases h.ok p (by simp) with h' | h'
      · exact .inl ⟨h'.1, by show p.lo ≤ hi; omega, h3⟩
      · omega
  · rw [e]
    have hl := h.len
    refine ⟨by simp only [List.length_append, List.length_cons, List.length_nil]; omega, h5, ?_⟩
    intro q hq
    rcases List.mem_append.1 hq with hq | hq
    · rcases h.ok q hq with h' | h'
      · exact .inl ⟨h'.1, h'.2.1, by omega⟩
      · exact .inr h'
    · simp at hq
      subst hq
      exact .inl ⟨rfl, h2, h3⟩

theorem PCOK.grp {n i j g : Nat} {P : List PC} (h : PCOK n i P) (h4 : i < j) (h5 : j ≤ n) (hg : g ≤ 3) : PCOK n j (P ++ [⟨0, 0, (g : Int)⟩]) := by
  have hl := h.len
  refine ⟨by simp only [List.length_append, List.length_cons, List.length_nil]; omega, h5, ?_⟩
  intro q hq
  rcases List.mem_append.1 hq with hq | hq
  · rcases h.ok q hq with h' | h'
    · exact .inl ⟨h'.1, h'.2.1, by omega⟩
    · exact .inr h'
  · simp at hq
    subst hq
    exact .inr ⟨by show (0 : Int) ≤ g; omega, by show (g : Int) ≤ 3; omega, rfl, rfl⟩

theorem pcsT_lit {n i : Nat} {t s : List UInt8} {c : List Int} {P : List PC} {lo hi : Nat} (h : PCOK n i P) (h2 : lo ≤ hi) : pcsT t s c (litP P lo hi) = pcsT t s c P ++ cut t lo hi := by
  rcases lit_cases P lo hi with ⟨Q, p, rfl, hg, hh, e⟩ | ⟨e, _⟩
  · rw [e]
    have hp : p.lo ≤ p.hi := by
      rcases h.ok p (by simp) with h' | h'
      · exact h'.2.1
      · omega
    simp only [pcsT, List.flatMap_append, List.flatMap_cons, List.flatMap_nil, List.append_nil, pcT, hg, if_true]
    rw [List.append_assoc, ← hh, cut_app hp (by omega)]
  · rw [e]
    simp [pcsT, pcT]

/-- The compiled template is the template. -/
theorem cmp_ok {t s : List UInt8} {c : List Int} : ∀ (m i : Nat) (P : List PC), t.length - i = m → i ≤ t.length → PCOK t.length i P →
    (cmpP (t.drop i) i P).2 = badF (t.drop i) i ∧ (badF (t.drop i) i = none → PCOK t.length t.length (cmpP (t.drop i) i P).1 ∧ pcsT t s c (cmpP (t.drop i) i P).1 = pcsT t s c P ++ exF s c (t.drop i)) := by
  intro m
  induction m using Nat.strongRecOn with
  | _ m ih =>
    intro i P hm hi hP
    by_cases h0 : i = t.length
    · subst h0
      simp [cmpP, badF, exF]
      exact hP
    · have hlt : i < t.length := by omega
      rw [List.drop_eq_getElem_cons hlt]
      by_cases h1 : i + 1 = t.length
      · have : t.drop (i + 1) = [] := by rw [h1]; simp
        rw [this]
        simp only [cmpP, badF, exF]
        by_cases hb : (t[i]).toNat = 36
        · simp [hb]
        · rw [if_neg hb, if_neg hb]
          refine ⟨rfl, fun _ => ⟨hP.lit (by omega) (by omega) (by omega) (by omega) (by omega), ?_⟩⟩
          rw [pcsT_lit hP (by omega), cut_one (List.getElem?_eq_getElem hlt)]
      · have hlt1 : i + 1 < t.length := by omega
        rw [List.drop_eq_getElem_cons hlt1]
        simp only [cmpP, badF, exF]
        by_cases hb : (t[i]).toNat = 36
        · simp only [if_pos hb]
          by_cases hd : (t[i + 1]).toNat = 36
          · simp only [hd, if_true, true_or]
            have := ih (t.length - (i + 2)) (by omega) (i + 2) (litP P (i + 1) (i + 2)) rfl (by omega) (hP.lit (by omega) (by omega) (by omega) (by omega) (by omega))
            refine ⟨this.1, fun hn => ⟨(this.2 hn).1, ?_⟩⟩
            rw [(this.2 hn).2, pcsT_lit hP (by omega), cut_one (List.getElem?_eq_getElem hlt1)]
            simp
          · simp only [hd, if_false, false_or]
            by_cases hD : isD t[i + 1]
            · simp only [if_pos hD]
              have := ih (t.length - (i + 2)) (by omega) (i + 2) (P ++ [⟨0, 0, (((t[i + 1]).toNat - 48 : Nat) : Int)⟩]) rfl (by omega) (hP.grp (by omega) (by omega) (by unfold isD at hD; omega))
              refine ⟨this.1, fun hn => ⟨(this.2 hn).1, ?_⟩⟩
              rw [(this.2 hn).2]
              simp only [pcsT, List.flatMap_append, List.flatMap_cons, List.flatMap_nil, List.append_nil, pcT]
              rw [if_neg (by omega), Int.toNat_natCast]
              simp
            · simp only [if_neg hD]
              exact ⟨by simp, fun h => by simp at h⟩
        · simp only [if_neg hb]
          have := ih (t.length - (i + 1)) (by omega) (i + 1) (litP P i (i + 1)) rfl (by omega) (hP.lit (by omega) (by omega) (by omega) (by omega) (by omega))
          rw [List.drop_eq_getElem_cons hlt1] at this
          refine ⟨this.1, fun hn => ⟨(this.2 hn).1, ?_⟩⟩
          rw [(this.2 hn).2, pcsT_lit hP (by omega), cut_one (List.getElem?_eq_getElem hlt)]
          simp

/-- Replaced. -/
def repF (s t : List UInt8) : List (List Int) → Nat → List UInt8
  | [], last => s.drop last
  | c :: L, last => cut s last (capB c) ++ exF s c t ++ repF s t L (capE c)

/-- Split. -/
def splF (s : List UInt8) : List (List Int) → Nat → List (List UInt8)
  | [], last => [s.drop last]
  | c :: L, last => cut s last (capB c) :: splF s L (capE c)

/-- A chain of matches. -/
def ChainOK (n : Nat) : Nat → List (List Int) → Prop
  | _, [] => True
  | i, c :: L => MatOK n i c ∧ ChainOK n (nextF c) L

theorem scan_chain {s : List UInt8} {r : RE} (hw : WF r) : ∀ (k i : Nat), ChainOK s.length i (scanF s r k i) := by
  intro k
  induction k with
  | zero => intro i; trivial
  | succ k ih =>
    intro i
    simp only [scanF]
    split
    · cases h : lft s r i with
      | none => trivial
      | some c => exact ⟨lft_ok hw h, ih _⟩
    · trivial

theorem chain_len {n : Nat} : ∀ (L : List (List Int)) (i : Nat), ChainOK n i L → i ≤ n + 1 → L.length ≤ n + 1 - i
  | [], i, _, _ => by simp
  | c :: L, i, h, hi => by
    have h1 := h.1.cap
    have hn : nextF c ≤ n + 1 := by unfold nextF; split <;> omega
    have := chain_len L (nextF c) h.2 hn
    simp only [List.length_cons]
    omega

/-- What group g caught lies within. -/
theorem grpT_ok {n : Nat} {s : List UInt8} {c : List Int} (hn : n = s.length) {i : Nat} (h : MatOK n i c) {g : Nat} (hg : g ≤ 3) : (c[2 * g]? = some (-1) ∧ c[2 * g + 1]? = some (-1) ∧ grpT s c g = []) ∨ ∃ a b : Nat, a ≤ b ∧ b ≤ n ∧ c[2 * g]? = some (a : Int) ∧ c[2 * g + 1]? = some (b : Int) ∧ grpT s c g = cut s a b := by
  have key : ∀ a b : Nat, c[2 * g]? = some (a : Int) → c[2 * g + 1]? = some (b : Int) → grpT s c g = cut s a b := by
    intro a b h1 h2
    unfold grpT
    rw [List.getD, List.getD, h1, h2]
    simp
  by_cases h0 : g = 0
  · subst h0
    obtain ⟨a, b, h1, h2, h3, h4, h5⟩ := h.whole
    exact .inr ⟨a, b, h2, h3, h4, h5, key a b h4 h5⟩
  · rcases h.caps.ok g (by omega) hg with ⟨h1, h2⟩ | ⟨a, b, h1, h2, h3, h4⟩
    · left
      refine ⟨h1, h2, ?_⟩
      unfold grpT
      rw [List.getD, List.getD, h1, h2]
      simp
    · exact .inr ⟨a, b, h1, h2, h3, h4, key a b h3 h4⟩

end Go.Proofs.Qxb6500567aGreat
