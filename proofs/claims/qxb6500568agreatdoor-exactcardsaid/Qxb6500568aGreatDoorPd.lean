import Derived.Test.Qxb6500568aGreatDoorPc
namespace Go.Proofs.Qxb6500568aGreatDoor
open Ieee
set_option linter.unusedVariables false
set_option linter.unusedSimpArgs false

/-! Decimal numerals; the texts of numbers; reading them. -/

def dgF : Nat → Nat → List UInt8 → List UInt8
  | 0, _, acc => acc
  | f + 1, n, acc => if n / 10 = 0 then UInt8.ofNat (48 + n % 10) :: acc else dgF f (n / 10) (UInt8.ofNat (48 + n % 10) :: acc)
def dgT (n : Nat) : List UInt8 := dgF 20 n []

theorem dgF_len : ∀ (f n : Nat) (acc : List UInt8), (dgF f n acc).length ≤ f + acc.length
  | 0, n, acc => by simp [dgF]
  | f + 1, n, acc => by
    unfold dgF
    split
    · simp; omega
    · have := dgF_len f (n / 10) (UInt8.ofNat (48 + n % 10) :: acc)
      simp only [List.length_cons] at this
      omega
theorem dgF_gt (f n : Nat) (acc : List UInt8) : acc.length < (dgF (f + 1) n acc).length := by
  have key : ∀ (f n : Nat) (acc : List UInt8), acc.length ≤ (dgF f n acc).length := by
    intro f
    induction f with
    | zero => intro n acc; simp [dgF]
    | succ f ih =>
      intro n acc
      unfold dgF
      split
      · simp
      · have := ih (n / 10) (UInt8.ofNat (48 + n % 10) :: acc)
        simp only [List.length_cons] at this
        omega
  unfold dgF
  split
  · simp
  · have := key f (n / 10) (UInt8.ofNat (48 + n % 10) :: acc)
    simp only [List.length_cons] at this
    omega
theorem dgT_pos (n : Nat) : 0 < (dgT n).length := dgF_gt 19 n []

/-- The digits from the place k downwards. -/
def layT : Nat → Nat → List UInt8
  | 0, u => [UInt8.ofNat (48 + u % 10)]
  | k + 1, u => UInt8.ofNat (48 + u / 10 ^ (k + 1) % 10) :: layT k u
theorem layT_last (k u : Nat) : layT (k + 1) u = layT k (u / 10) ++ [UInt8.ofNat (48 + u % 10)] := by
  induction k with
  | zero => simp [layT]
  | succ k ih =>
    have e : u / 10 ^ (k + 1 + 1) = u / 10 / 10 ^ (k + 1) := by rw [Nat.pow_succ 10 (k + 1), Nat.mul_comm, Nat.div_div_eq_div_mul]
    unfold layT
    rw [ih, e]
    simp [layT]
theorem dgF_lay : ∀ (k f u : Nat) (acc : List UInt8), k < f → u < 10 ^ (k + 1) → (k = 0 ∨ 10 ^ k ≤ u) → dgF f u acc = layT k u ++ acc
  | 0, f + 1, u, acc, _, h, _ => by
    unfold dgF
    rw [if_pos (by simp at h; omega)]
    rfl
  | k + 1, f + 1, u, acc, hk, h, h2 => by
    unfold dgF
    have h3 : 10 ^ (k + 1) ≤ u := h2.resolve_left (by omega)
    have hp := Nat.pow_pos (n := k) (show 0 < 10 by decide)
    rw [Nat.pow_succ] at h3 h
    have hne : u / 10 ≠ 0 := by
      have : 1 ≤ u / 10 := by rw [Nat.le_div_iff_mul_le (by decide)]; omega
      omega
    rw [if_neg hne, dgF_lay k f (u / 10) _ (by omega) (by omega) ?_, layT_last, List.append_assoc]
    · rfl
    · exact .inr (by rw [Nat.le_div_iff_mul_le (by decide)]; exact h3)
theorem dgT_lay {k u : Nat} (hk : k < 20) (h : u < 10 ^ (k + 1)) (h2 : k = 0 ∨ 10 ^ k ≤ u) : dgT u = layT k u := by
  unfold dgT
  rw [dgF_lay k 20 u [] hk h h2, List.append_nil]
theorem layT_len (k u : Nat) : (layT k u).length = k + 1 := by
  induction k with
  | zero => rfl
  | succ k ih => simp [layT, ih]
theorem layT_mod (k u m : Nat) (h : k < m) : layT k (u % 10 ^ m) = layT k u := by
  have key : ∀ j, j < m → u % 10 ^ m / 10 ^ j % 10 = u / 10 ^ j % 10 := by
    intro j hj
    obtain ⟨d, rfl⟩ : ∃ d, m = j + (d + 1) := ⟨m - j - 1, by omega⟩
    rw [Nat.pow_add, Nat.mod_mul_right_div_self, Nat.pow_succ, Nat.mod_mul_left_mod]
  induction k with
  | zero => unfold layT; have := key 0 h; rw [Nat.pow_zero, Nat.div_one, Nat.div_one] at this; rw [this]
  | succ k ih => unfold layT; rw [ih (by omega), key (k + 1) h]
theorem dgT_len {k u : Nat} (hk : k < 20) (h : u < 10 ^ (k + 1)) : (dgT u).length ≤ k + 1 := by
  induction k with
  | zero => rw [dgT_lay hk h (.inl rfl), layT_len]; omega
  | succ k ih =>
    by_cases c : u < 10 ^ (k + 1)
    · have := ih (by omega) c; omega
    · rw [dgT_lay hk h (.inr (by omega)), layT_len]; omega

def itT (e : Int) : List UInt8 := if e < 0 then 45 :: dgT (-e).toNat else dgT e.toNat

/-! odd part and trailing zeros -/
def otz : Nat → Nat → Nat × Nat
  | 0, m => (m, 0)
  | f + 1, m => if m % 2 = 0 then ((otz f (m / 2)).1, (otz f (m / 2)).2 + 1) else (m, 0)
theorem otz_law : ∀ (f m : Nat), m ≠ 0 → m < 2 ^ f → m = (otz f m).1 * 2 ^ (otz f m).2 ∧ (otz f m).1 % 2 = 1 ∧ (otz f m).2 < f
  | 0, m, h, hm => by simp at hm; exact absurd hm h
  | f + 1, m, h, hm => by
    unfold otz
    by_cases c : m % 2 = 0
    · rw [if_pos c]
      obtain ⟨h1, h2, h3⟩ := otz_law f (m / 2) (by omega) (by rw [Nat.pow_succ] at hm; omega)
      refine ⟨?_, h2, by dsimp only; omega⟩
      dsimp only
      rw [Nat.pow_succ, ← Nat.mul_assoc, ← h1]
      omega
    · rw [if_neg c]
      exact ⟨by simp, by dsimp only; omega, by dsimp only; omega⟩
theorem odd_uniq {o t o' t' : Nat} (h : o * 2 ^ t = o' * 2 ^ t') (h1 : o % 2 = 1) (h2 : o' % 2 = 1) : o = o' ∧ t = t' := by
  induction t generalizing t' with
  | zero =>
    cases t' with
    | zero => simpa using h
    | succ t' => rw [Nat.pow_succ, ← Nat.mul_assoc, Nat.pow_zero, Nat.mul_one] at h; omega
  | succ t ih =>
    cases t' with
    | zero => rw [Nat.pow_succ, ← Nat.mul_assoc, Nat.pow_zero, Nat.mul_one] at h; omega
    | succ t' =>
      rw [Nat.pow_succ, Nat.pow_succ, ← Nat.mul_assoc, ← Nat.mul_assoc] at h
      obtain ⟨a, b⟩ := ih (t' := t') (by omega)
      exact ⟨a, by omega⟩
def odP (x : Nat) : Nat := (otz 53 (pmW x)).1
def odE (x : Nat) : Int := peW x + (otz 53 (pmW x)).2
theorem od_law {x : Nat} (h : rgW x ≠ 0) : pmW x = odP x * 2 ^ (odE x - peW x).toNat ∧ odP x % 2 = 1 ∧ peW x ≤ odE x ∧ odE x ≤ peW x + 52 := by
  have hm := pm_lt x
  obtain ⟨h1, h2, h3⟩ := otz_law 53 (pmW x) (fun c => h (pm_zero.1 c)) (by omega)
  unfold odE odP
  refine ⟨?_, h2, by omega, by omega⟩
  rw [show (peW x + ((otz 53 (pmW x)).2 : Int) - peW x).toNat = (otz 53 (pmW x)).2 by omega]
  exact h1
theorem od_uniq {x o k : Nat} (h : rgW x ≠ 0) (h1 : pmW x = o * 2 ^ k) (h2 : o % 2 = 1) : o = odP x ∧ odE x = peW x + k := by
  obtain ⟨a, b, c, d⟩ := od_law h
  obtain ⟨e1, e2⟩ := odd_uniq (h1.symm.trans a) h2 b
  exact ⟨e1, by omega⟩

def fmtN (x : Nat) : List UInt8 :=
  if isNaNW x then [110, 97, 110] else
  (if ngW x then [45] else []) ++
  (if rgW x = infB then [105, 110, 102] else if rgW x = 0 then [48] else
   if 0 ≤ odE x ∧ odE x < 53 ∧ odP x * 2 ^ (odE x).toNat < 9007199254740992 then dgT (odP x * 2 ^ (odE x).toNat)
   else dgT (odP x) ++ (112 :: itT (odE x)))

theorem fmtN_len {x : Nat} (h : W64 x) : (fmtN x).length ≤ 23 := by
  unfold fmtN
  split
  · simp
  · rename_i hn
    have hf : rgW x ≤ infB := by unfold isNaNW at hn; simp at hn; omega
    rw [List.length_append]
    have h1 : (if ngW x = true then [45] else [] : List UInt8).length ≤ 1 := by split <;> simp
    have h2 : (if rgW x = infB then [105, 110, 102] else if rgW x = 0 then [48] else
   if 0 ≤ odE x ∧ odE x < 53 ∧ odP x * 2 ^ (odE x).toNat < 9007199254740992 then dgT (odP x * 2 ^ (odE x).toNat)
   else dgT (odP x) ++ (112 :: itT (odE x)) : List UInt8).length ≤ 22 := by
      split
      · simp
      · split
        · simp
        · rename_i hi hz
          obtain ⟨a, b, c, d⟩ := od_law hz
          have hpm := pm_lt x
          have hpe := pe_le (x := x) (by omega)
          have hge := pe_ge x
          split
          · rename_i hw
            have := dgT_len (k := 15) (u := odP x * 2 ^ (odE x).toNat) (by omega) (by omega)
            omega
          · have ho : odP x ≤ pmW x := by rw [a]; exact Nat.le_mul_of_pos_right _ (Nat.two_pow_pos _)
            have l1 := dgT_len (k := 15) (u := odP x) (by omega) (by omega)
            have l2 : (itT (odE x)).length ≤ 5 := by
              unfold itT
              split
              · have := dgT_len (k := 3) (u := (-odE x).toNat) (by omega) (by omega)
                simp only [List.length_cons]; omega
              · have := dgT_len (k := 3) (u := (odE x).toNat) (by omega) (by omega)
                omega
            simp only [List.length_append, List.length_cons]
            omega
    omega

/-! reading -/
def isDg (c : UInt8) : Bool := decide (48 ≤ c) && decide (c ≤ 57)
def dgs : List UInt8 → List UInt8
  | [] => []
  | c :: s => if isDg c then c :: dgs s else []
def aft : List UInt8 → List UInt8
  | [] => []
  | c :: s => if isDg c then aft s else c :: s
def dvl (m : Nat) (s : List UInt8) : Nat := s.foldl (fun m c => m * 10 + (c.toNat - 48)) m

theorem dgs_aft (s : List UInt8) : dgs s ++ aft s = s := by
  induction s with
  | nil => rfl
  | cons c s ih => unfold dgs aft; split <;> simp_all

/-- The magnitude. -/
def magB (s : List UInt8) : Option Nat :=
  let d := dgs s
  if d = [] ∨ 16 < d.length then none else
  match aft s with
  | [] => if dvl 0 d ≤ 9007199254740992 then some (double.nearest false (dvl 0 d) 0) else none
  | c :: r =>
    if c = 46 then
      let k := dgs r
      if k = [] ∨ aft r ≠ [] ∨ 16 < d.length + k.length ∨ 9007199254740992 < dvl 0 (d ++ k) then none
      else some (fDiv (double.nearest false (dvl 0 (d ++ k)) 0) (double.nearest false (10 ^ k.length) 0))
    else if c = 112 then
      let (dn, r) := match r with | c :: r' => if c = 45 then (true, r') else (false, c :: r') | [] => (false, [])
      let k := dgs r
      if k = [] ∨ 4 < k.length ∨ aft r ≠ [] ∨ 9007199254740992 < dvl 0 d then none
      else some (double.nearest false (dvl 0 d) (if dn then -(dvl 0 k : Int) else dvl 0 k))
    else none

def magN (s : List UInt8) : Option Nat := if s = [105, 110, 102] then some infB else magB s
def parB : List UInt8 → Option Nat
  | c :: r => if c = 45 then (magN r).map (9223372036854775808 + ·) else magN (c :: r)
  | [] => none
def parN (s : List UInt8) : Option Nat :=
  if 24 < s.length then none else
  if s = [110, 97, 110] then some nanB else parB s

theorem dvl_lt (s : List UInt8) (h : ∀ c ∈ s, isDg c = true) : ∀ m k, m < 10 ^ k → dvl m s < 10 ^ (k + s.length) := by
  induction s with
  | nil => intro m k hm; simpa [dvl] using hm
  | cons c s ih =>
    intro m k hm
    have hc := h c (by simp)
    unfold isDg at hc
    simp only [Bool.and_eq_true, decide_eq_true_eq] at hc
    have h1 : 48 ≤ c.toNat := UInt8.le_iff_toNat_le.1 hc.1
    have h2 : c.toNat ≤ 57 := UInt8.le_iff_toNat_le.1 hc.2
    have := ih (fun x hx => h x (by simp [hx])) (m * 10 + (c.toNat - 48)) (k + 1) (by rw [Nat.pow_succ]; omega)
    unfold dvl at this ⊢
    rw [List.foldl_cons, List.length_cons, show k + (s.length + 1) = k + 1 + s.length by omega]
    exact this
theorem dgs_all (s : List UInt8) : ∀ c ∈ dgs s, isDg c = true := by
  induction s with
  | nil => simp [dgs]
  | cons c s ih =>
    unfold dgs
    split
    · intro x hx
      rcases List.mem_cons.1 hx with rfl | h
      · assumption
      · exact ih x h
    · simp
theorem dvl_app (m : Nat) (s t : List UInt8) : dvl m (s ++ t) = dvl (dvl m s) t := by unfold dvl; rw [List.foldl_append]
end Go.Proofs.Qxb6500568aGreatDoor
