import Derived.Test.Qxb6500569aGreatFd
/- Keys of two bytes, and of two times two bytes. -/
namespace Go.Proofs.Qxb6500569aGreat
set_option linter.unusedVariables false
set_option linter.unusedSimpArgs false

abbrev K2 := UInt8 × UInt8
abbrev K4 := K2 × K2
def k2c (k : K2) : Value := .agg #[u8c k.1, u8c k.2]
def k4c (k : K4) : Value := .agg #[u8c k.1.1, u8c k.1.2, u8c k.2.1, u8c k.2.2]

section
variable {P : Program} {w : World}

theorem find_agg {α : Type} [DecidableEq α] {kt : TypeId} {kv : α → Value} {u : TypeDesc} (hu : P.underlying kt = some u) (hn : ∀ x y, Instr.sameNow u x y = none) (heq : ∀ a b w, (Op.equal kt (kv a) (kv b)).run P w = .ok (decide (a = b)) w) (a : α) (es : List MapEntry) (l : List (α × Value)) (w : World) (h : es.map (fun e => (e.key, e.val)) = l.map (fun p => (kv p.1, p.2))) :
    (Instr.findKey kt (kv a) es).run P w = .ok (look l a) w := by
  cases es with
  | nil =>
    cases l with
    | nil => simp [Instr.findKey, Instr.findNow, run_underlying hu, look]
    | cons p l => cases h
  | cons e es =>
    have := findAsking_run heq (e :: es) l 0 a w h
    simp only [Instr.findKey, Sem.run_bind, run_underlying hu, Result.andThen_ok, Instr.findNow, hn]
    rw [this]
    cases look l a with
    | none => rfl
    | some q => simp

theorem u8_eq (a b : UInt8) : (((a.toNat : Int)) == ((b.toNat : Int))) = decide (a = b) := by
  by_cases h : a = b
  · subst h; simp
  · have : ¬ ((a.toNat : Int)) = ((b.toNat : Int)) := fun hx => h (UInt8.toNat_inj.1 (by omega))
    simp [h, this]

theorem key2 {t et : TypeId} (ht : arrB P t 2 et 1 = true) (he : intB P et .u8 = true) : KeyT P t k2c := by
  obtain ⟨hu, hs⟩ := arrB_spec ht
  have hi := intB_spec he
  refine ⟨?_, ?_, ?_⟩
  · intro b a w
    have hag : ∀ w, (isAgg et).run P w = .ok false w := fun w => by unfold isAgg; simp [run_underlying hi]
    have hc : ∀ (n : Nat) (x : Int) (w : World), (Instr.checkKey b (n + 1) et (.int .u8 x)).run P w = .ok () w := fun n x w => by rw [Instr.checkKey]; simp [run_underlying hi]
    show (Instr.checkKey b (9998 + 1 + 1) t (k2c a)).run P w = _
    rw [Instr.checkKey]
    simp only [Sem.run_bind, run_underlying hu, Result.andThen_ok, k2c, u8c]
    simp only [Std.Legacy.Range.forIn_eq_forIn_range', Std.Legacy.Range.size, Nat.sub_zero, Nat.add_one_sub_one, Nat.div_one]
    simp only [show List.range' 0 2 = [0, 1] from rfl]
    simp [run_sizeOf hs, part, hag, hc]
  · intro a es l w h
    refine find_agg hu (fun x y => by cases x <;> cases y <;> rfl) ?_ a es l w h
    intro a b w
    show (Op.equalIn (9998 + 1 + 1) t (k2c a) (k2c b)).run P w = _
    unfold k2c u8c
    rw [eqArr2_run hu hs hi 9998, u8_eq, u8_eq]
    congr 1
    obtain ⟨a1, a2⟩ := a
    obtain ⟨b1, b2⟩ := b
    by_cases h1 : a1 = b1 <;> by_cases h2 : a2 = b2 <;> simp [h1, h2]
  · intro a w
    simp [Instr.keyThatStays, Instr.sameBits, k2c, u8c]

def fields2 (P : Program) (t a b : TypeId) (o : Nat) : Bool := match P.underlying t with
  | some (.struct fs) => (fs.toList.map (fun f => (f.name != "_", f.type, f.offset))) == [(true, a, 0), (true, b, o)]
  | _ => false

theorem key4 {t at' et : TypeId} (hf : fields2 P t at' at' 2 = true) (hst : P.stoodInHeld t = false) (ht : arrB P at' 2 et 1 = true) (he : intB P et .u8 = true) (ha : aggB P at' 2 = true) : KeyT P t k4c := by
  obtain ⟨hu, hs⟩ := arrB_spec ht
  have hi := intB_spec he
  obtain ⟨fs, hus, f1, f2, hfs, n1, t1, o1, n2, t2, o2⟩ : ∃ fs, P.underlying t = some (.struct fs) ∧ ∃ f1 f2, fs = #[f1, f2] ∧ f1.name ≠ "_" ∧ f1.type = at' ∧ f1.offset = 0 ∧ f2.name ≠ "_" ∧ f2.type = at' ∧ f2.offset = 2 := by
    unfold fields2 at hf
    split at hf
    · rename_i fs hus
      refine ⟨fs, hus, ?_⟩
      obtain ⟨l⟩ := fs
      match l, hf with
      | [], hf => simp at hf
      | [f1], hf => simp at hf
      | [f1, f2], hf =>
        simp at hf
        exact ⟨f1, f2, rfl, hf.1.1, hf.1.2.1, hf.1.2.2, hf.2.1, hf.2.2.1, hf.2.2.2⟩
      | f1 :: f2 :: f3 :: r, hf => simp at hf
    · cases hf
  have hsa := sizeB_of_aggB ha
  have K2h := key2 (P := P) ht he
  refine ⟨?_, ?_, ?_⟩
  · intro b a w
    have hag : ∀ w, (isAgg et).run P w = .ok false w := fun w => by unfold isAgg; simp [run_underlying hi]
    have hc : ∀ (n : Nat) (x : Int) (w : World), (Instr.checkKey b (n + 1) et (.int .u8 x)).run P w = .ok () w := fun n x w => by rw [Instr.checkKey]; simp [run_underlying hi]
    have hc2 : ∀ (x y : Int) (w : World), (Instr.checkKey b (9997 + 1 + 1) at' (.agg #[.int .u8 x, .int .u8 y])).run P w = .ok () w := by
      intro x y w
      rw [Instr.checkKey]
      simp only [Sem.run_bind, run_underlying hu, Result.andThen_ok]
      simp only [Std.Legacy.Range.forIn_eq_forIn_range', Std.Legacy.Range.size, Nat.sub_zero, Nat.add_one_sub_one, Nat.div_one]
      simp only [show List.range' 0 2 = [0, 1] from rfl]
      simp [run_sizeOf hs, part, hag, hc]
    show (Instr.checkKey b (9998 + 1 + 1) t (k4c a)).run P w = _
    rw [Instr.checkKey]
    simp only [Sem.run_bind, run_underlying hus, Result.andThen_ok, k4c, u8c, hfs]
    simp [n1, n2, t1, t2, o1, o2, part, run_isAgg_true ha, run_sizeOf hsa, hc2]
  · intro a es l w h
    refine find_agg hus (fun x y => by cases x <;> cases y <;> rfl) ?_ a es l w h
    intro a b w
    show (Op.equalIn (9997 + 1 + 1 + 1) t (k4c a) (k4c b)).run P w = _
    have e2 : ∀ (a b c d : Int) (w : World), (Op.equalIn (9997 + 1 + 1) at' (.agg #[.int .u8 a, .int .u8 b]) (.agg #[.int .u8 c, .int .u8 d])).run P w = .ok (a == c && b == d) w := fun a b c d w => eqArr2_run hu hs hi 9997
    rw [Op.equalIn]
    simp only [Sem.run_bind, run_underlying hus, Result.andThen_ok, k4c, u8c, hfs]
    obtain ⟨⟨a1, a2⟩, a3, a4⟩ := a
    obtain ⟨⟨b1, b2⟩, b3, b4⟩ := b
    by_cases h1 : a1 = b1 <;> by_cases h2 : a2 = b2 <;> by_cases h3 : a3 = b3 <;> by_cases h4 : a4 = b4 <;>
      simp [run_program, hst, n1, n2, t1, t2, o1, o2, part, run_isAgg_true ha, run_sizeOf hsa, e2, u8_eq, h1, h2, h3, h4]
  · intro a w
    simp [Instr.keyThatStays, Instr.sameBits, k4c, u8c]

end

theorem keyP : KeyT Tryz.prog 157 k2c := key2 (et := 5) (by kernel_rfl) in_5
theorem keyF : KeyT Tryz.prog 163 k4c := key4 (at' := 157) (et := 5) (by kernel_rfl) (by kernel_rfl) (by kernel_rfl) in_5 ag_157

end Go.Proofs.Qxb6500569aGreat
