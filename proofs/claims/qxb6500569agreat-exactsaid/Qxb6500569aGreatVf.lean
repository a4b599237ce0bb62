import Derived.Test.Qxb6500569aGreatVe
/- The real program in memory; Match, Code, Show, Query. -/
namespace Go.Proofs.Qxb6500569aGreat
set_option linter.unusedVariables false
set_option linter.unusedSimpArgs false

/-- The ids, from the i-th clause on, of the clauses that p takes. -/
def selF (p : List UInt8 → Bool) : Nat → List Cl2 → List Nat
  | _, [] => []
  | i, c :: cs => if p c.2 then i :: selF p (i + 1) cs else selF p (i + 1) cs

theorem selF_snoc (p : List UInt8 → Bool) : ∀ (cls : List Cl2) (i : Nat) (c : Cl2), selF p i (cls ++ [c]) = selF p i cls ++ (if p c.2 then [i + cls.length] else [])
  | [], i, c => by simp [selF]
  | d :: cls, i, c => by
    simp only [List.cons_append, selF, selF_snoc p cls (i + 1) c, List.length_cons]
    rw [show i + 1 + cls.length = i + (cls.length + 1) by omega]
    split <;> simp

theorem selF_congr {p q : List UInt8 → Bool} : ∀ {cls : List Cl2} {i : Nat}, (∀ c ∈ cls, p c.2 = q c.2) → selF p i cls = selF q i cls
  | [], i, _ => rfl
  | d :: cls, i, h => by
    simp only [selF]
    rw [h d (by simp), selF_congr (cls := cls) (fun c hc => h c (by simp [hc]))]

theorem selF_le {p : List UInt8 → Bool} : ∀ {cls : List Cl2} {i j : Nat}, j ∈ selF p i cls → i ≤ j ∧ j < i + cls.length
  | [], i, j, h => by simp [selF] at h
  | d :: cls, i, j, h => by
    simp only [selF] at h
    have rest : j ∈ selF p (i + 1) cls → i ≤ j ∧ j < i + (d :: cls).length := fun h => by have := selF_le h; simp; omega
    split at h
    · rcases List.mem_cons.1 h with h | h
      · simp; omega
      · exact rest h
    · exact rest h

theorem selF_len {p : List UInt8 → Bool} : ∀ {cls : List Cl2} {i : Nat}, (selF p i cls).length ≤ cls.length
  | [], i => by simp [selF]
  | d :: cls, i => by
    simp only [selF]
    have := selF_len (p := p) (cls := cls) (i := i + 1)
    split <;> simp <;> omega

theorem matchF_sel (pred key : List UInt8) : ∀ (cls : List Cl2) (i : Nat), matchF pred key i cls = spS (selF (fun c => hits c pred key) i cls)
  | [], i => rfl
  | d :: cls, i => by
    simp only [matchF, selF, matchF_sel pred key cls (i + 1)]
    split <;> rfl

def idsA (cls : List Cl2) (f : K2) : List Nat := selF (fun c => decide (prd2 c = f)) 0 cls
def idsO (cls : List Cl2) (f : K2) : List Nat := selF (fun c => decide (prd2 c = f) && decide (own2 c = none)) 0 cls
def idsK (cls : List Cl2) (k : K4) : List Nat := selF (fun c => decide (prd2 c = k.1) && (decide (own2 c = none) || decide (own2 c = some k.2))) 0 cls

theorem prd_eq {c : List UInt8} (h : ShapeC c) : prdK c = [(prd2 c).1, (prd2 c).2] := by
  obtain ⟨h4, _, _⟩ := h
  match c, h4 with
  | a :: b :: d :: e :: r, _ => rfl

theorem own_eq {c : List UInt8} (h : ShapeC c) : ownK c = match own2 c with | some k => [k.1, k.2] | none => [] := by
  unfold ownK own2
  split
  · rename_i hx
    have h6 := h.l6 hx.1 hx.2
    match c, h6 with
    | a :: b :: d :: e :: f :: g :: r, _ => rfl
  · rfl

theorem k2_list (a b : K2) : ([a.1, a.2] = [b.1, b.2]) ↔ a = b := by
  obtain ⟨a1, a2⟩ := a; obtain ⟨b1, b2⟩ := b; simp

theorem k2_dec (a b : K2) : decide ([a.1, a.2] = [b.1, b.2]) = decide (a = b) := by simp only [k2_list]

theorem hits_A {c : List UInt8} (h : ShapeC c) (f : K2) : hits c [f.1, f.2] [] = decide (prd2 c = f) := by
  unfold hits
  rw [prd_eq h, k2_dec]
  simp

theorem hits_O {c : List UInt8} (h : ShapeC c) (f : K2) {key : List UInt8} (hk : key ≠ []) (hn : ¬ ∃ g : K2, key = [g.1, g.2] ∧ prd2 c = f ∧ own2 c = some g) : hits c [f.1, f.2] key = (decide (prd2 c = f) && decide (own2 c = none)) := by
  unfold hits
  rw [prd_eq h, own_eq h, k2_dec]
  by_cases hp : prd2 c = f
  · cases ho : own2 c with
    | none => simp [hp]
    | some g =>
      have : [g.1, g.2] ≠ key := fun hx => hn ⟨g, hx.symm, hp, ho⟩
      simp [hp, hk, this]
  · simp [hp]

theorem hits_K {c : List UInt8} (h : ShapeC c) (k : K4) : hits c [k.1.1, k.1.2] [k.2.1, k.2.2] = (decide (prd2 c = k.1) && (decide (own2 c = none) || decide (own2 c = some k.2))) := by
  unfold hits
  rw [prd_eq h, own_eq h, k2_dec]
  by_cases hp : prd2 c = k.1
  · cases ho : own2 c with
    | none => simp [hp]
    | some g =>
      simp only
      rw [k2_dec]
      simp [hp]
  · simp [hp]

theorem hits_no {c : List UInt8} (h : ShapeC c) {pred key : List UInt8} (hp : pred.length ≠ 2) : hits c pred key = false := by
  unfold hits
  rw [prd_eq h]
  have : ¬ [(prd2 c).1, (prd2 c).2] = pred := fun hx => hp (by rw [← hx]; rfl)
  simp [this]

/- Buckets. -/
def Dj (u v : Value) : Prop := ∀ b, u.ownBlock = some b → v.ownBlock ≠ some b

theorem Dj.symm {u v : Value} (h : Dj u v) : Dj v u := fun b hb hx => h b hx hb

structure BKS (H : Array Obj) (L : List (Value × List Nat)) : Prop where
  bk : ∀ p ∈ L, Bk H p.1 p.2
  dj : L.Pairwise (fun p q => Dj p.1 q.1)

theorem BKS.perm {H : Array Obj} {L L' : List (Value × List Nat)} (h : BKS H L) (hp : L.Perm L') : BKS H L' :=
  ⟨fun p hpm => h.bk p (hp.symm.subset hpm), (hp.pairwise_iff (fun {x y} (h : Dj x.1 y.1) => h.symm)).1 h.dj⟩

theorem BKS.fram {F : Nat → Prop} {w w' : World} {L : List (Value × List Nat)} (h : BKS w.heap L) (hf : Fram F w w') (hn : ∀ p ∈ L, ∀ b, p.1.ownBlock = some b → ¬ F b) : BKS w'.heap L :=
  ⟨fun p hp => Own.fram (h.bk p hp) hf (hn p hp), h.dj⟩

theorem BKS.app {w w1 : World} {v v' : Value} {ids : List Nat} {n : Nat} {L : List (Value × List Nat)} (h : BKS w.heap ((v, ids) :: L)) (hgr : w.grownBy w1 v.ownBlock) (hloc : v'.ownBlock = v.ownBlock ∨ v'.ownBlock = some w.heap.size) (hown : Own w1.heap v' 110 1 (ids.length + 1) (ids.map i8c ++ [i8c n])) :
    BKS w1.heap ((v', ids ++ [n]) :: L) ∧ Fram (fun b => v.ownBlock = some b) w w1 := by
  have F : Fram (fun b => v.ownBlock = some b) w w1 := Fram.grown hgr (fun k hk => .inl hk)
  have hd := List.pairwise_cons.1 h.dj
  refine ⟨⟨?_, List.pairwise_cons.2 ⟨?_, hd.2⟩⟩, F⟩
  · intro p hp
    rcases List.mem_cons.1 hp with rfl | hp
    · unfold Bk; simpa using hown
    · exact Own.fram (h.bk p (by simp [hp])) F (fun b hb hx => hd.1 p hp b hx hb)
  · intro p hp b hb hx
    rcases hloc with h' | h'
    · rw [h'] at hb; exact hd.1 p hp b hb hx
    · rw [h'] at hb
      cases hb
      have := Own.lt (h.bk p (by simp [hp])) hx
      omega

/-- The program in memory; all its blocks are in F. -/
structure PrM (H : Array Obj) (pb : Nat) (cls : List Cl2) (VC : Value) (clbs ra : List Nat) (la lo : List (K2 × Value)) (lk : List (K4 × Value)) (F : Nat → Prop) : Prop where
  r3 : ∃ a o k, ra = [a, o, k] ∧ a ≠ o ∧ a ≠ k ∧ o ≠ k
  blk : Blk H pb [VC, .map (some (ra.getD 0 0)), .map (some (ra.getD 1 0)), .map (some (ra.getD 2 0))] 74
  own : Own H VC 104 1 cls.length (clbs.map ptr)
  ln : clbs.length = cls.length
  cl : ∀ (i : Nat) (c : Cl2) (b : Nat), cls[i]? = some c → clbs[i]? = some b → ∃ Bs, ClAt H b false c.1 c.2 Bs ∧ ∀ x ∈ Bs, F x
  ma : MapAt k2c H (ra.getD 0 0) la
  mo : MapAt k2c H (ra.getD 1 0) lo
  mkk : MapAt k4c H (ra.getD 2 0) lk
  na : (la.map (·.1)).Nodup
  no : (lo.map (·.1)).Nodup
  nk : (lk.map (·.1)).Nodup
  bk : BKS H (la.map (fun p => (p.2, idsA cls p.1)) ++ (lo.map (fun p => (p.2, idsO cls p.1)) ++ lk.map (fun p => (p.2, idsK cls p.1))))
  ka : ∀ f, f ∉ la.map (·.1) → idsA cls f = []
  ko : ∀ f, f ∉ lo.map (·.1) → idsO cls f = []
  kk : ∀ k : K4, k ∉ lk.map (·.1) → ∀ c ∈ cls, ¬ (prd2 c.2 = k.1 ∧ own2 c.2 = some k.2)
  fp : F pb
  fv : ∀ b, VC.ownBlock = some b → F b
  fr : ∀ r ∈ ra, F r
  fb : ∀ p ∈ la.map (·.2) ++ (lo.map (·.2) ++ lk.map (·.2)), ∀ b, p.ownBlock = some b → F b

theorem PrM.fram {G F : Nat → Prop} {w w' : World} {pb : Nat} {cls : List Cl2} {VC : Value} {clbs ra : List Nat} {la lo : List (K2 × Value)} {lk : List (K4 × Value)} (h : PrM w.heap pb cls VC clbs ra la lo lk F) (hf : Fram G w w') (hn : ∀ b, F b → ¬ G b) : PrM w'.heap pb cls VC clbs ra la lo lk F := by
  obtain ⟨a, o, k, hra, h1, h2, h3⟩ := h.r3
  have hfr := h.fr
  refine ⟨h.r3, h.blk.fram hf (hn _ h.fp), h.own.fram hf (fun b hb => hn b (h.fv b hb)), h.ln, ?_, h.ma.fram hf (hn _ (hfr _ (by rw [hra]; simp))), h.mo.fram hf (hn _ (hfr _ (by rw [hra]; simp))), h.mkk.fram hf (hn _ (hfr _ (by rw [hra]; simp))), h.na, h.no, h.nk, h.bk.fram hf ?_, h.ka, h.ko, h.kk, h.fp, h.fv, h.fr, h.fb⟩
  · intro i c b hc hb
    obtain ⟨Bs, hB, hx⟩ := h.cl i c b hc hb
    exact ⟨Bs, hB.fram hf (fun x hxs => hn x (hx x hxs)), hx⟩
  · intro p hp b hb
    refine hn b (h.fb p.1 ?_ b hb)
    simp only [List.mem_append, List.mem_map] at hp ⊢
    rcases hp with ⟨q, hq, rfl⟩ | ⟨q, hq, rfl⟩ | ⟨q, hq, rfl⟩
    · exact .inl ⟨q, hq, rfl⟩
    · exact .inr (.inl ⟨q, hq, rfl⟩)
    · exact .inr (.inr ⟨q, hq, rfl⟩)

theorem PrM.up {F F' : Nat → Prop} {H : Array Obj} {pb : Nat} {cls : List Cl2} {VC : Value} {clbs ra : List Nat} {la lo : List (K2 × Value)} {lk : List (K4 × Value)} (h : PrM H pb cls VC clbs ra la lo lk F) (hF : ∀ b, F b → F' b) : PrM H pb cls VC clbs ra la lo lk F' :=
  { h with
    cl := fun i c b hc hb => by obtain ⟨Bs, hB, hx⟩ := h.cl i c b hc hb; exact ⟨Bs, hB, fun x hxs => hF x (hx x hxs)⟩
    fp := hF _ h.fp
    fv := fun b hb => hF b (h.fv b hb)
    fr := fun r hr => hF r (h.fr r hr)
    fb := fun p hp b hb => hF b (h.fb p hp b hb) }

theorem look_mem {α : Type} [DecidableEq α] {l : List (α × Value)} {a : α} {v : Value} (h : lookV l a = some v) : (a, v) ∈ l := by
  unfold lookV at h
  cases hl : look l a with
  | none => rw [hl] at h; cases h
  | some q =>
    rw [hl] at h
    obtain ⟨i, v'⟩ := q
    simp at h; subst h
    exact List.mem_of_getElem? (look_spec l a i v' hl)

theorem lookV_none {α : Type} [DecidableEq α] {l : List (α × Value)} {a : α} (h : lookV l a = none) : a ∉ l.map (·.1) := by
  unfold lookV at h
  cases hl : look l a with
  | none => exact look_none.1 hl
  | some q => rw [hl] at h; cases h

theorem Bk.nil (H : Array Obj) : Bk H (.slice none 0 0) [] := Own.nil _ _ _

theorem PrM.getA {F : Nat → Prop} {H : Array Obj} {pb : Nat} {cls : List Cl2} {VC : Value} {clbs ra : List Nat} {la lo : List (K2 × Value)} {lk : List (K4 × Value)} (h : PrM H pb cls VC clbs ra la lo lk F) (f : K2) : Bk H ((lookV la f).getD (.slice none 0 0)) (idsA cls f) := by
  cases hl : lookV la f with
  | none => rw [h.ka f (lookV_none hl)]; exact Bk.nil _
  | some v => exact h.bk.bk (v, idsA cls f) (List.mem_append.2 (.inl (List.mem_map.2 ⟨(f, v), look_mem hl, rfl⟩)))

theorem PrM.getO {F : Nat → Prop} {H : Array Obj} {pb : Nat} {cls : List Cl2} {VC : Value} {clbs ra : List Nat} {la lo : List (K2 × Value)} {lk : List (K4 × Value)} (h : PrM H pb cls VC clbs ra la lo lk F) (f : K2) : Bk H ((lookV lo f).getD (.slice none 0 0)) (idsO cls f) := by
  cases hl : lookV lo f with
  | none => rw [h.ko f (lookV_none hl)]; exact Bk.nil _
  | some v => exact h.bk.bk (v, idsO cls f) (List.mem_append.2 (.inr (List.mem_append.2 (.inl (List.mem_map.2 ⟨(f, v), look_mem hl, rfl⟩)))))

theorem PrM.getK {F : Nat → Prop} {H : Array Obj} {pb : Nat} {cls : List Cl2} {VC : Value} {clbs ra : List Nat} {la lo : List (K2 × Value)} {lk : List (K4 × Value)} (h : PrM H pb cls VC clbs ra la lo lk F) {k : K4} {v : Value} (hl : lookV lk k = some v) : Bk H v (idsK cls k) :=
  h.bk.bk (v, idsK cls k) (List.mem_append.2 (.inr (List.mem_append.2 (.inr (List.mem_map.2 ⟨(k, v), look_mem hl, rfl⟩)))))

theorem mp_70 : Tryz.prog.underlying 70 = some (.map 157 159) := by kernel_rfl
theorem mp_71 : Tryz.prog.underlying 71 = some (.map 163 159) := by kernel_rfl
theorem zr_159 : (Tryz.prog.info? 159).bind (·.zero) = some (.slice none 0 0) := by kernel_rfl

/-- The program, and nothing of how it lies. -/
def PrX (H : Array Obj) (pb : Nat) (cls : List Cl2) (F : Nat → Prop) : Prop := ∃ VC clbs ra la lo lk, PrM H pb cls VC clbs ra la lo lk F

theorem match_O {cls : List Cl2} (ok : POK cls) (f : K2) {key : List UInt8} (hk : key ≠ []) (hn : ∀ g : K2, key = [g.1, g.2] → ∀ c ∈ cls, ¬ (prd2 c.2 = f ∧ own2 c.2 = some g)) : matchS cls [f.1, f.2] key = spS (idsO cls f) := by
  unfold matchS
  rw [matchF_sel]
  congr 1
  refine selF_congr (fun c hc => hits_O (compS_shape (ok.cs c hc)) f hk ?_)
  rintro ⟨g, h1, h2, h3⟩
  exact hn g h1 c hc ⟨h2, h3⟩

end Go.Proofs.Qxb6500569aGreat
